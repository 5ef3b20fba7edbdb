import Derived.Test.YtfnmmlcmjmepjaaAbY
set_option linter.unusedVariables false
set_option linter.unusedSimpArgs false
namespace Go.Ab
open Go.RowKit
variable {P : Program} {T : Tab} {α : Type}
theorem brV_ {c : Bool} {x y : Option α} {r : α} {G : Prop} (h : cond c x y = some r) (h1 : c = true → x = some r → G) (h2 : c = false → y = some r → G) : G := by
 cases c
 ·exact h2 rfl h
 ·exact h1 rfl h
def mkV (l : Lf) : Option Nat :=
 match hardV l with
 | some (d, o) => match o.op with
  | .makeMap _ none => some d
  | _ => none
 | none => none
theorem mk_ok {Q : Exit → AS → Prop} {l : Lf} {d : Nat} (hv : mkV l = some d) (hf : l.σ.seen (fid (some d) 0) = false)
  (hk : VS P T Q l.rest .normal (l.σ.eff (some d) (.map (fid (some d) 0)) [(fid (some d) 0, .map [] [])] [])) : V P T Q l := by
 unfold mkV at hv
 split at hv
 ·rename_i d' o hh
  split at hv
  ·rename_i t hop
   cases hv
   refine hard_ok (T := T) hh (e := ⟨True, .map (fid (some d) 0), [(fid (some d) 0, .map [] [])], []⟩) ?_ trivial (.inr ⟨hf, trivial⟩) hk
   unfold effOf; simp only [hop]
  ·cases hv
 ·cases hv
def muV (T : Tab) (l : Lf) : Option (Nat × IntKind × IntKind × Int × AV) :=
 match storeV l with
 | some o => match o.op with
  | .mapUpdate t m k x => match T t with
   | some { under := .map kt _, .. } => match T kt with
    | some { under := .int ik, .. } => match l.σ.bev m, l.σ.bev k with
     | .map id, .pv (.raw (.int kk kv)) => some (id, ik, kk, kv, l.σ.bev x)
     | _, _ => none
    | _ => none
   | _ => none
  | .insert t m k x => match T t with
   | some { under := .map kt _, .. } => match T kt with
    | some { under := .int ik, .. } => match l.σ.bev m, l.σ.bev k with
     | .map id, .pv (.raw (.int kk kv)) => some (id, ik, kk, kv, l.σ.bev x)
     | _, _ => none
    | _ => none
   | _ => none
  | _ => none
 | none => none
theorem mu_ok {Q : Exit → AS → Prop} {l : Lf} {id : Nat} {ik kk : IntKind} {kv : Int} {x : AV} {ks ks' : List Value} {xs xs' : List AV} (hv : muV T l = some (id, ik, kk, kv, x)) (hid : l.σ.heap id = some (.map ks xs)) (hks : keysOk (.int ik) (.int kk kv) ks) (h1 : x.one = true)
  (hp : mapPut (.int kk kv) x ks xs = (ks', xs')) (hk : VS P T Q l.rest .normal (l.σ.eff none (.raw undef) [(id, .map ks' xs')] [])) : V P T Q l := by
 unfold muV at hv
 split at hv
 ·rename_i o hh
  have fin : ∀ {e : Eff}, effOf T l.σ.bev l.σ.heap none o.op = e → e = ⟨keysOk (.int ik) (.int kk kv) ks ∧ x.one = true, .raw undef, [(id, .map (mapPut (.int kk kv) x ks xs).1 (mapPut (.int kk kv) x ks xs).2)], []⟩ → V P T Q l := by
   intro e he hee
   subst hee
   refine store_ok (T := T) hh he ⟨hks, h1⟩ ?_
   rw [hp]
   exact hk
  split at hv
  ·rename_i t m k y hop
   split at hv
   ·rename_i kt et _ _ _ _ ht
    split at hv
    ·rename_i ik' _ _ _ _ hkt
     split at hv
     ·rename_i id' kk' kv' hm hkk
      cases hv
      refine fin rfl ?_
      unfold effOf; simp only [hop, ht, hkt, hm, hkk, hid]
     ·cases hv
    ·cases hv
   ·cases hv
  ·rename_i t m k y hop
   split at hv
   ·rename_i kt et _ _ _ _ ht
    split at hv
    ·rename_i ik' _ _ _ _ hkt
     split at hv
     ·rename_i id' kk' kv' hm hkk
      cases hv
      refine fin rfl ?_
      unfold effOf; simp only [hop, ht, hkt, hm, hkk, hid]
     ·cases hv
    ·cases hv
   ·cases hv
  ·cases hv
 ·cases hv
def lkV (T : Tab) (l : Lf) : Option (Nat × Nat × IntKind × IntKind × Int × AV × Bool) :=
 match hardV l with
 | some (d, o) => match o.op with
  | .lookup t m k ck => match T t with
   | some { under := .map kt et, .. } => match T kt, T et with
    | some { under := .int ik, .. }, some ti => match l.σ.bev m, l.σ.bev k with
     | .map id, .pv (.raw (.int kk kv)) => some (d, id, ik, kk, kv, zeroAV ti.zero, ck)
     | _, _ => none
    | _, _ => none
   | _ => none
  | _ => none
 | none => none
theorem lk_ok {Q : Exit → AS → Prop} {l : Lf} {d id : Nat} {ik kk : IntKind} {kv : Int} {z : AV} {ck : Bool} {ks : List Value} {xs : List AV} {r : Option AV} (hv : lkV T l = some (d, id, ik, kk, kv, z, ck)) (hid : l.σ.heap id = some (.map ks xs)) (hks : keysOk (.int ik) (.int kk kv) ks)
  (hg : mapGet (.int kk kv) ks xs = r) (hk : VS P T Q l.rest .normal (l.σ.eff (some d) (bif ck then .tup [r.getD z, .bool r.isSome] else r.getD z) [] [])) : V P T Q l := by
 subst hg
 unfold lkV at hv
 split at hv
 ·rename_i d' o hh
  split at hv
  ·rename_i t m k ck' hop
   split at hv
   ·rename_i kt et _ _ _ _ ht
    split at hv
    ·rename_i ik' _ _ _ _ ti hkt het
     split at hv
     ·rename_i id' kk' kv' hm hkk
      cases hv
      refine hard_ok (T := T) hh (e := .of (keysOk (.int ik) (.int kk kv) ks, bif ck then .tup [(match mapGet (.int kk kv) ks xs with | some x => x | none => zeroAV ti.zero), .bool (mapGet (.int kk kv) ks xs).isSome] else (match mapGet (.int kk kv) ks xs with | some x => x | none => zeroAV ti.zero))) ?_ hks (.inr trivial) ?_
      ·unfold effOf; simp only [hop, ht, hkt, het, hm, hkk, hid]; rfl
      ·have e : (match mapGet (.int kk kv) ks xs with | some x => x | none => zeroAV ti.zero) = (mapGet (.int kk kv) ks xs).getD (zeroAV ti.zero) := by cases mapGet (.int kk kv) ks xs <;> rfl
       show VS P T Q l.rest .normal (l.σ.eff (some d) _ [] [])
       simp only [e]
       exact hk
     ·cases hv
    ·cases hv
   ·cases hv
  ·cases hv
 ·cases hv
def mget (k : Int) : List (Int × α) → Option α
 | [] => none
 | p :: r => bif k == p.1 then some p.2 else mget k r
def mput (k : Int) (v : α) : List (Int × α) → List (Int × α)
 | [] => [(k, v)]
 | p :: r => bif k == p.1 then (p.1, v) :: r else p :: mput k v r
def mdelete (k : Int) : List (Int × α) → List (Int × α)
 | [] => []
 | p :: r => bif k == p.1 then r else p :: mdelete k r
def mK (m : List (Int × α)) : List Value := m.map fun p => .int .i64 p.1
def Elem.mX (E : Elem α) (m : List (Int × α)) : List AV := m.map fun p => .pv (E.cf p.2 0)
theorem mK_ok (m : List (Int × α)) (kv : Int) : keysOk (.int .i64) (.int .i64 kv) (mK m) := by
 refine ⟨rfl, fun e he => ?_⟩
 obtain ⟨p, _, rfl⟩ := List.mem_map.1 he
 simp [Instr.sameNow, keyEq]
theorem mapGet_m (E : Elem α) (k : Int) : ∀ m : List (Int × α), mapGet (.int .i64 k) (mK m) (E.mX m) = (mget k m).map fun v => .pv (E.cf v 0)
 | [] => rfl
 | p :: r => by
  have ih := mapGet_m E k r
  simp only [mK, Elem.mX, List.map_cons, mapGet, mget, keyEq] at ih ⊢
  cases k == p.1 with
  | true => rfl
  | false => exact ih
theorem mapPut_m (E : Elem α) (k : Int) (v : α) : ∀ m : List (Int × α), mapPut (.int .i64 k) (.pv (E.cf v 0)) (mK m) (E.mX m) = (mK (mput k v m), E.mX (mput k v m))
 | [] => rfl
 | p :: r => by
  have ih := mapPut_m E k v r
  simp only [mK, Elem.mX, List.map_cons, mapPut, mput, keyEq] at ih ⊢
  cases k == p.1 with
  | true => rfl
  | false => simp only [cond_false, ih, List.map_cons]
theorem mapDel_m (E : Elem α) (k : Int) : ∀ m : List (Int × α), mapDel (.int .i64 k) (mK m) (E.mX m) = (mK (mdelete k m), E.mX (mdelete k m))
 | [] => rfl
 | p :: r => by
  have ih := mapDel_m E k r
  simp only [mK, Elem.mX, List.map_cons, mapDel, mdelete, keyEq] at ih ⊢
  cases k == p.1 with
  | true => rfl
  | false => simp only [cond_false, ih, List.map_cons]
theorem Elem.mX_pv (E : Elem α) (m : List (Int × α)) : AllPv (E.mX m) := by
 intro c hc
 obtain ⟨p, _, rfl⟩ := List.mem_map.1 hc
 exact ⟨_, rfl⟩
theorem mset_map (E : Elem α) (f : Nat → Nat) (i : Nat) (m : List (Int × α)) (r : List Blk) : mset f i (.map (mK m) (E.mX m) :: r) = (f i, .map (mK m) (E.mX m)) :: mset f (i + 1) r := by
 show (f i, Blk.map (mK m) (AV.renL f (E.mX m))) :: _ = _
 rw [renL_pv f (E.mX_pv m)]
theorem up_map (E : Elem α) (k : Nat) (m : List (Int × α)) : Blk.up k (.map (mK m) (E.mX m)) = .map (mK m) (E.mX m) := by
 have : ∀ cs : List AV, AllPv cs → AV.upL k cs = cs := by
  intro cs
  induction cs with
  | nil => intro _; rfl
  | cons c cs ih =>
   intro h
   obtain ⟨p, rfl⟩ := h c (by simp)
   simp only [AV.upL, AV.up]
   rw [ih fun d hd => h d (by simp [hd])]
 show Blk.map (mK m) (AV.upL k (E.mX m)) = _
 rw [this _ (E.mX_pv m)]
theorem Elem.mX_bald {E : Elem α} (h : E.Raw) (m : List (Int × α)) : AV.baldL (E.mX m) = true := by
 induction m with
 | nil => rfl
 | cons p r ih =>
  obtain ⟨v, hv⟩ := h p.2 0
  show (AV.bald (.pv (E.cf p.2 0)) && AV.baldL (E.mX r)) = true
  rw [hv, ih]
  rfl
def lnV (T : Tab) (l : Lf) : Option (Nat × Nat) :=
 match hardV l with
 | some (d, o) => match o.op with
  | .call { callee := .builtin .len, args := args, argTypes := ts } => match isMapT T ts, args.toList with
   | true, [m] => match l.σ.bev m with
    | .map id => some (d, id)
    | _ => none
   | _, _ => none
  | _ => none
 | none => none
theorem lnm_ok {Q : Exit → AS → Prop} {l : Lf} {d id : Nat} (E : Elem α) {m : List (Int × α)} (hv : lnV T l = some (d, id)) (hid : l.σ.heap id = some (.map (mK m) (E.mX m)))
  (hk : VS P T Q l.rest .normal (l.σ.eff (some d) (.raw (.int .i64 ((m.length : Nat) : Int))) [] [])) : V P T Q l := by
 unfold lnV at hv
 split at hv
 ·rename_i d' o hh
  split at hv
  ·rename_i args ts hop
   split at hv
   ·rename_i x hmt harg
    split at hv
    ·rename_i id' hm
     cases hv
     refine hard_ok (T := T) hh (e := ⟨True, .pv (.raw (.int .i64 (((mK m).length : Nat) : Int))), [], []⟩) ?_ trivial (.inr trivial) ?_
     ·unfold effOf; simp only [hop, hmt, harg, hm, hid]
     ·rw [show (mK m).length = m.length by simp [mK]]; exact hk
    ·cases hv
   ·cases hv
  ·cases hv
 ·cases hv
theorem lkm2_ok {Q : Exit → AS → Prop} {l : Lf} {d id : Nat} {kv : Int} {z : AV} (E : Elem α) {m : List (Int × α)} (v : AV) (hv : lkV T l = some (d, id, .i64, .i64, kv, z, true)) (hid : l.σ.heap id = some (.map (mK m) (E.mX m)))
  (hz : z = .pv (E.cf E.z 0)) (he : .tup [.pv (E.cf ((mget kv m).getD E.z) 0), .bool (mget kv m).isSome] = v) (hk : VS P T Q l.rest .normal (l.σ.eff (some d) v [] [])) : V P T Q l := by
 subst he
 refine lk_ok hv hid (mK_ok m kv) (mapGet_m E kv m) ?_
 have h1 : ((mget kv m).map fun v => AV.pv (E.cf v 0)).getD z = .pv (E.cf ((mget kv m).getD E.z) 0) := by
  rw [hz]; cases mget kv m <;> rfl
 have h2 : ((mget kv m).map fun v => AV.pv (E.cf v 0)).isSome = (mget kv m).isSome := by
  cases mget kv m <;> rfl
 simp only [cond_true, h1, h2]
 exact hk
def mdV (T : Tab) (l : Lf) : Option (Nat × IntKind × IntKind × Int) :=
 match storeV l with
 | some o => match o.op with
  | .call { callee := .builtin .delete, args := args, argTypes := ts } => match args.toList, ts.toList with
   | [m, k], t :: _ => match T t with
    | some { under := .map kt _, .. } => match T kt with
     | some { under := .int ik, .. } => match l.σ.bev m, l.σ.bev k with
      | .map id, .pv (.raw (.int kk kv)) => some (id, ik, kk, kv)
      | _, _ => none
     | _ => none
    | _ => none
   | _, _ => none
  | _ => none
 | none => none
theorem md_ok {Q : Exit → AS → Prop} {l : Lf} {id : Nat} {kv : Int} (E : Elem α) {m : List (Int × α)} (hv : mdV T l = some (id, .i64, .i64, kv)) (hid : l.σ.heap id = some (.map (mK m) (E.mX m)))
  (hk : VS P T Q l.rest .normal (l.σ.eff none (.tup []) [(id, .map (mK (mdelete kv m)) (E.mX (mdelete kv m)))] [])) : V P T Q l := by
 unfold mdV at hv
 split at hv
 ·rename_i o hh
  split at hv
  ·rename_i args ts hop
   split at hv
   ·rename_i m' k' t tr hargs hts
    split at hv
    ·rename_i kt et _ _ _ _ ht
     split at hv
     ·rename_i ik' _ _ _ _ hkt
      split at hv
      ·rename_i id' kk' kv' hm hkk
       cases hv
       have hp := mapDel_m E kv m
       refine store_ok (T := T) hh (e := ⟨keysOk (.int .i64) (.int .i64 kv) (mK m), .tup [], [(id, .map (mapDel (.int .i64 kv) (mK m) (E.mX m)).1 (mapDel (.int .i64 kv) (mK m) (E.mX m)).2)], []⟩) ?_ (mK_ok m kv) ?_
       ·unfold effOf; simp only [hop, hargs, hts, ht, hkt, hm, hkk, hid]
       ·rw [hp]; exact hk
      ·cases hv
     ·cases hv
    ·cases hv
   ·cases hv
  ·cases hv
 ·cases hv
def NilEq : List AV → List AV → Prop
 | [], [] => True
 | x :: xs, y :: ys => (x = y ∨ (x = .pv (.raw (.slice none 0 0)) ∧ ∃ s c, y = .pv (.ro s 0 c))) ∧ NilEq xs ys
 | _, _ => False
theorem NilEq.get {ρ : Nat → Option Nat} {D F : Nat → Prop} {H : Heap} {p : PV} : ∀ {cs ds : List AV} {k : Nat}, NilEq cs ds → ds[k]? = some (.pv p) → ∃ x, cs[k]? = some x ∧ Wk ρ D F H x (.pv p)
 | [], [], k, _, h => by simp at h
 | [], _ :: _, _, hn, _ => hn.elim
 | _ :: _, [], _, hn, _ => hn.elim
 | x :: xs, y :: ys, 0, hn, h => by
  simp only [List.getElem?_cons_zero, Option.some.injEq] at h
  subst h
  refine ⟨x, rfl, ?_⟩
  rcases hn.1 with rfl | ⟨rfl, s, c, hy⟩
  ·exact .pv _
  ·rw [hy]; exact .nil s c
 | x :: xs, y :: ys, k + 1, hn, h => by
  simp only [List.getElem?_cons_succ] at h ⊢
  exact hn.2.get h
end Go.Ab

