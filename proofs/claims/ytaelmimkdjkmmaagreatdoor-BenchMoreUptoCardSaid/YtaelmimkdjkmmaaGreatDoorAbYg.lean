import Derived.Test.YtaelmimkdjkmmaaGreatDoorAbY
import Derived.Lib.AppendZeros
import Derived.Lib.Walk
import Derived.Lib.SliceRun
set_option linter.unusedVariables false
set_option linter.unusedSimpArgs false
namespace Go.Ab
open Go.RowKit
variable {P : Program} {T : Tab} {α : Type}
theorem brV_ {c : Bool} {x y : Option α} {r : α} {G : Prop} (h : cond c x y = some r) (h1 : c = true → x = some r → G) (h2 : c = false → y = some r → G) : G := by
 cases c
 ·exact h2 rfl h
 ·exact h1 rfl h
def mkV (l : Lf) : Option Nat :=
 match hardV l with
 | some (d, o) => match o.op with
  | .makeMap _ none => some d
  | _ => none
 | none => none
theorem mk_ok {Q : Exit → AS → Prop} {l : Lf} {d : Nat} (hv : mkV l = some d) (hf : l.σ.seen (fid (some d) 0) = false)
  (hk : VS P T Q l.rest .normal (l.σ.eff (some d) (.map (fid (some d) 0)) [(fid (some d) 0, .map [] [])] [])) : V P T Q l := by
 unfold mkV at hv
 split at hv
 ·rename_i d' o hh
  split at hv
  ·rename_i t hop
   cases hv
   refine hard_ok (T := T) hh (e := ⟨True, .map (fid (some d) 0), [(fid (some d) 0, .map [] [])], []⟩) ?_ trivial (.inr ⟨hf, trivial⟩) hk
   unfold effOf; simp only [hop]
  ·cases hv
 ·cases hv
def muV (T : Tab) (l : Lf) : Option (Nat × IntKind × IntKind × Int × AV) :=
 match storeV l with
 | some o => match o.op with
  | .mapUpdate t m k x => match T t with
   | some { under := .map kt _, .. } => match T kt with
    | some { under := .int ik, .. } => match l.σ.bev m, l.σ.bev k with
     | .map id, .pv (.raw (.int kk kv)) => some (id, ik, kk, kv, l.σ.bev x)
     | _, _ => none
    | _ => none
   | _ => none
  | .insert t m k x => match T t with
   | some { under := .map kt _, .. } => match T kt with
    | some { under := .int ik, .. } => match l.σ.bev m, l.σ.bev k with
     | .map id, .pv (.raw (.int kk kv)) => some (id, ik, kk, kv, l.σ.bev x)
     | _, _ => none
    | _ => none
   | _ => none
  | _ => none
 | none => none
theorem mu_ok {Q : Exit → AS → Prop} {l : Lf} {id : Nat} {ik kk : IntKind} {kv : Int} {x : AV} {ks ks' : List Value} {xs xs' : List AV} (hv : muV T l = some (id, ik, kk, kv, x)) (hid : l.σ.heap id = some (.map ks xs)) (hks : keysOk (.int ik) (.int kk kv) ks) (h1 : x.one = true)
  (hp : mapPut (.int kk kv) x ks xs = (ks', xs')) (hk : VS P T Q l.rest .normal (l.σ.eff none (.raw undef) [(id, .map ks' xs')] [])) : V P T Q l := by
 unfold muV at hv
 split at hv
 ·rename_i o hh
  have fin : ∀ {e : Eff}, effOf T l.σ.bev l.σ.heap none o.op = e → e = ⟨keysOk (.int ik) (.int kk kv) ks ∧ x.one = true, .raw undef, [(id, .map (mapPut (.int kk kv) x ks xs).1 (mapPut (.int kk kv) x ks xs).2)], []⟩ → V P T Q l := by
   intro e he hee
   subst hee
   refine store_ok (T := T) hh he ⟨hks, h1⟩ ?_
   rw [hp]
   exact hk
  split at hv
  ·rename_i t m k y hop
   split at hv
   ·rename_i kt et _ _ _ _ ht
    split at hv
    ·rename_i ik' _ _ _ _ hkt
     split at hv
     ·rename_i id' kk' kv' hm hkk
      cases hv
      refine fin rfl ?_
      unfold effOf; simp only [hop, ht, hkt, hm, hkk, hid]
     ·cases hv
    ·cases hv
   ·cases hv
  ·rename_i t m k y hop
   split at hv
   ·rename_i kt et _ _ _ _ ht
    split at hv
    ·rename_i ik' _ _ _ _ hkt
     split at hv
     ·rename_i id' kk' kv' hm hkk
      cases hv
      refine fin rfl ?_
      unfold effOf; simp only [hop, ht, hkt, hm, hkk, hid]
     ·cases hv
    ·cases hv
   ·cases hv
  ·cases hv
 ·cases hv
def lkV (T : Tab) (l : Lf) : Option (Nat × Nat × IntKind × IntKind × Int × AV × Bool) :=
 match hardV l with
 | some (d, o) => match o.op with
  | .lookup t m k ck => match T t with
   | some { under := .map kt et, .. } => match T kt, T et with
    | some { under := .int ik, .. }, some ti => match l.σ.bev m, l.σ.bev k with
     | .map id, .pv (.raw (.int kk kv)) => some (d, id, ik, kk, kv, zeroAV ti.zero, ck)
     | _, _ => none
    | _, _ => none
   | _ => none
  | _ => none
 | none => none
theorem lk_ok {Q : Exit → AS → Prop} {l : Lf} {d id : Nat} {ik kk : IntKind} {kv : Int} {z : AV} {ck : Bool} {ks : List Value} {xs : List AV} {r : Option AV} (hv : lkV T l = some (d, id, ik, kk, kv, z, ck)) (hid : l.σ.heap id = some (.map ks xs)) (hks : keysOk (.int ik) (.int kk kv) ks)
  (hg : mapGet (.int kk kv) ks xs = r) (hk : VS P T Q l.rest .normal (l.σ.eff (some d) (bif ck then .tup [r.getD z, .bool r.isSome] else r.getD z) [] [])) : V P T Q l := by
 subst hg
 unfold lkV at hv
 split at hv
 ·rename_i d' o hh
  split at hv
  ·rename_i t m k ck' hop
   split at hv
   ·rename_i kt et _ _ _ _ ht
    split at hv
    ·rename_i ik' _ _ _ _ ti hkt het
     split at hv
     ·rename_i id' kk' kv' hm hkk
      cases hv
      refine hard_ok (T := T) hh (e := .of (keysOk (.int ik) (.int kk kv) ks, bif ck then .tup [(match mapGet (.int kk kv) ks xs with | some x => x | none => zeroAV ti.zero), .bool (mapGet (.int kk kv) ks xs).isSome] else (match mapGet (.int kk kv) ks xs with | some x => x | none => zeroAV ti.zero))) ?_ hks (.inr trivial) ?_
      ·unfold effOf; simp only [hop, ht, hkt, het, hm, hkk, hid]; rfl
      ·have e : (match mapGet (.int kk kv) ks xs with | some x => x | none => zeroAV ti.zero) = (mapGet (.int kk kv) ks xs).getD (zeroAV ti.zero) := by cases mapGet (.int kk kv) ks xs <;> rfl
       show VS P T Q l.rest .normal (l.σ.eff (some d) _ [] [])
       simp only [e]
       exact hk
     ·cases hv
    ·cases hv
   ·cases hv
  ·cases hv
 ·cases hv
def mget (k : Int) : List (Int × α) → Option α
 | [] => none
 | p :: r => bif k == p.1 then some p.2 else mget k r
def mput (k : Int) (v : α) : List (Int × α) → List (Int × α)
 | [] => [(k, v)]
 | p :: r => bif k == p.1 then (p.1, v) :: r else p :: mput k v r
def mK (m : List (Int × α)) : List Value := m.map fun p => .int .i64 p.1
def Elem.mX (E : Elem α) (m : List (Int × α)) : List AV := m.map fun p => .pv (E.cf p.2 0)
theorem mK_ok (m : List (Int × α)) (kv : Int) : keysOk (.int .i64) (.int .i64 kv) (mK m) := by
 refine ⟨rfl, fun e he => ?_⟩
 obtain ⟨p, _, rfl⟩ := List.mem_map.1 he
 simp [Instr.sameNow, keyEq]
theorem mapGet_m (E : Elem α) (k : Int) : ∀ m : List (Int × α), mapGet (.int .i64 k) (mK m) (E.mX m) = (mget k m).map fun v => .pv (E.cf v 0)
 | [] => rfl
 | p :: r => by
  have ih := mapGet_m E k r
  simp only [mK, Elem.mX, List.map_cons, mapGet, mget, keyEq] at ih ⊢
  cases k == p.1 with
  | true => rfl
  | false => exact ih
theorem mapPut_m (E : Elem α) (k : Int) (v : α) : ∀ m : List (Int × α), mapPut (.int .i64 k) (.pv (E.cf v 0)) (mK m) (E.mX m) = (mK (mput k v m), E.mX (mput k v m))
 | [] => rfl
 | p :: r => by
  have ih := mapPut_m E k v r
  simp only [mK, Elem.mX, List.map_cons, mapPut, mput, keyEq] at ih ⊢
  cases k == p.1 with
  | true => rfl
  | false => simp only [cond_false, ih, List.map_cons]
theorem Elem.mX_pv (E : Elem α) (m : List (Int × α)) : AllPv (E.mX m) := by
 intro c hc
 obtain ⟨p, _, rfl⟩ := List.mem_map.1 hc
 exact ⟨_, rfl⟩
theorem mset_map (E : Elem α) (f : Nat → Nat) (i : Nat) (m : List (Int × α)) (r : List Blk) : mset f i (.map (mK m) (E.mX m) :: r) = (f i, .map (mK m) (E.mX m)) :: mset f (i + 1) r := by
 show (f i, Blk.map (mK m) (AV.renL f (E.mX m))) :: _ = _
 rw [renL_pv f (E.mX_pv m)]
theorem up_map (E : Elem α) (k : Nat) (m : List (Int × α)) : Blk.up k (.map (mK m) (E.mX m)) = .map (mK m) (E.mX m) := by
 have : ∀ cs : List AV, AllPv cs → AV.upL k cs = cs := by
  intro cs
  induction cs with
  | nil => intro _; rfl
  | cons c cs ih =>
   intro h
   obtain ⟨p, rfl⟩ := h c (by simp)
   simp only [AV.upL, AV.up]
   rw [ih fun d hd => h d (by simp [hd])]
 show Blk.map (mK m) (AV.upL k (E.mX m)) = _
 rw [this _ (E.mX_pv m)]
theorem lkm_ok {Q : Exit → AS → Prop} {l : Lf} {d id : Nat} {kv : Int} {z : AV} (E : Elem α) {m : List (Int × α)} (v : AV) (hv : lkV T l = some (d, id, .i64, .i64, kv, z, false)) (hid : l.σ.heap id = some (.map (mK m) (E.mX m)))
  (hz : z = .pv (E.cf E.z 0)) (he : .pv (E.cf ((mget kv m).getD E.z) 0) = v) (hk : VS P T Q l.rest .normal (l.σ.eff (some d) v [] [])) : V P T Q l := by
 subst he
 refine lk_ok hv hid (mK_ok m kv) (mapGet_m E kv m) ?_
 have : ((mget kv m).map fun v => AV.pv (E.cf v 0)).getD z = .pv (E.cf ((mget kv m).getD E.z) 0) := by
  rw [hz]; cases mget kv m <;> rfl
 simp only [cond_false, this]
 exact hk
def NilEq : List AV → List AV → Prop
 | [], [] => True
 | x :: xs, y :: ys => (x = y ∨ (x = .pv (.raw (.slice none 0 0)) ∧ ∃ s c, y = .pv (.ro s 0 c))) ∧ NilEq xs ys
 | _, _ => False
theorem NilEq.get {ρ : Nat → Option Nat} {D F : Nat → Prop} {H : Heap} {p : PV} : ∀ {cs ds : List AV} {k : Nat}, NilEq cs ds → ds[k]? = some (.pv p) → ∃ x, cs[k]? = some x ∧ Wk ρ D F H x (.pv p)
 | [], [], k, _, h => by simp at h
 | [], _ :: _, _, hn, _ => hn.elim
 | _ :: _, [], _, hn, _ => hn.elim
 | x :: xs, y :: ys, 0, hn, h => by
  simp only [List.getElem?_cons_zero, Option.some.injEq] at h
  subst h
  refine ⟨x, rfl, ?_⟩
  rcases hn.1 with rfl | ⟨rfl, s, c, hy⟩
  ·exact .pv _
  ·rw [hy]; exact .nil s c
 | x :: xs, y :: ys, k + 1, hn, h => by
  simp only [List.getElem?_cons_succ] at h ⊢
  exact hn.2.get h
end Go.Ab
set_option linter.unusedVariables false
set_option linter.unusedSimpArgs false
namespace Go.Ab
open Go.RowKit Go.Lib
variable {P : Program} {T : Tab} {α : Type}
theorem PCalls.data {f : FuncId} {args : List AV} {al : Bool} {res v : AV} {hb : List Blk} {ps : List Prop} (h : PCalls P f args al res hb) (ha : argsE (hbHeap hb) [res] [v] = some ps) (hps : allP ps) : PCalls P f args al v [] := by
 have hwk := (args1_sound (argsE_ok ha hps)).1
 refine ⟨h.1, fun R w vs hv hR hgo => (h.2 R w vs hv hR hgo).mono ?_⟩
 rintro ex w' ⟨u, ι', rfl, hbel, hB, hr, hnew, hinj, hlt⟩
 refine ⟨u, fun _ => none, rfl, hbel, fun i b hb => by simp at hb, ?_, fun i b g c hb => by simp at hb, fun i j b b' g c c' hb => by simp at hb, fun i x hx => by cases hx⟩
 refine wk_sound (H := hbHeap hb) (ι := ι') hB (fun k hk => ?_) (fun _ _ _ hd => hd.elim) (fun _ hd => hd.elim) (fun i b g c _ hb hi => ?_) hwk u hr
 ·rcases hk with hk | ⟨h1, h2, _⟩
  ·exact .inl hk
  ·exact .inr ⟨h1, h2, fun i b c hb => by simp at hb⟩
 ·refine .inr ⟨hnew i b g c hb hi, ?_, fun i b c hb => by simp at hb⟩
  have := hB i b hb
  cases b with
  | box cells =>
   obtain ⟨g', k, cur, e, hi', hh, _⟩ := this
   rw [hi] at hi'
   cases hi'
   exact (Array.getElem?_eq_some_iff.1 hh).1
  | row e s cells =>
   obtain ⟨n, _, _, _, hrow⟩ := this
   rcases hrow with ⟨hi', _⟩ | ⟨g', cap, base, cur, hi', hh, _⟩
   ·rw [hi] at hi'; cases hi'
   ·rw [hi] at hi'
    cases hi'
    exact (Array.getElem?_eq_some_iff.1 hh).1
  | map ks xs =>
   obtain ⟨g', c', es, ck, hi', hh, _⟩ := this
   rw [hi] at hi'
   cases hi'
   exact (Array.getElem?_eq_some_iff.1 hh).1
theorem raw_pcalls {f : FuncId} (hf : FnOk P f) {xs : List Value} {v : Value} {al : Bool} (h : ∀ w : World, GOk P w → Calls P f xs.toArray w fun ex w' => ex = .returned v ∧ w' = w) :
  PCalls P f (xs.map fun v => .pv (.raw v)) al (.pv (.raw v)) [] := by
 refine ⟨hf, fun R w vs hv hR hgo => ?_⟩
 have hrest : vs = xs := by
  have key : ∀ (rest us : List Value), RelL (fun _ => none) R w (rest.map fun v => .pv (.raw v)) us → us = rest := by
   intro rest
   induction rest with
   | nil =>
    intro us h
    cases us with
    | nil => rfl
    | cons _ _ => simp [RelL] at h
   | cons r rest ih =>
    intro us h
    cases us with
    | nil => simp [RelL] at h
    | cons v us =>
     simp only [List.map_cons, RelL] at h
     rw [raw_inv h.1, ih us h.2]
  exact key xs vs hv
 subst hrest
 refine (h w hgo).mono ?_
 rintro ex w' ⟨rfl, rfl⟩
 refine ⟨v, fun _ => none, rfl, Below.refl _ _, fun i b hb => by simp at hb, ?_, fun i b g c hb => by simp at hb, fun i j b b' g c c' hb => by simp at hb, fun i x hx => by cases hx⟩
 simp only [RelA, RelP]
def cpL {α : Type} (xs : List α) (off m : Nat) (ys : List α) : List α := xs.take off ++ ys.take m ++ xs.drop (off + m)
@[simp] theorem cpL_length {α : Type} (xs : List α) (off m : Nat) (ys : List α) : (cpL xs off m ys).length = min off xs.length + min m ys.length + (xs.length - (off + m)) := by
 simp [cpL]; omega
end Go.Ab
