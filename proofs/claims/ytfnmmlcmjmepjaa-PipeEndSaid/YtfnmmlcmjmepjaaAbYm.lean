import Derived.Test.YtfnmmlcmjmepjaaAbY
set_option linter.unusedVariables false
set_option linter.unusedSimpArgs false
namespace Go.Ab
open Go.RowKit
variable {P : Program} {T : Tab} {α : Type}
theorem brV_ {c : Bool} {x y : Option α} {r : α} {G : Prop} (h : cond c x y = some r) (h1 : c = true → x = some r → G) (h2 : c = false → y = some r → G) : G := by
 cases c
 ·exact h2 rfl h
 ·exact h1 rfl h
def mkV (l : Lf) : Option Nat :=
 match hardV l with
 | some (d, o) => match o.op with
  | .makeMap _ none => some d
  | _ => none
 | none => none
theorem mk_ok {Q : Exit → AS → Prop} {l : Lf} {d : Nat} (hv : mkV l = some d) (hf : l.σ.seen (fid (some d) 0) = false)
  (hk : VS P T Q l.rest .normal (l.σ.eff (some d) (.map (fid (some d) 0)) [(fid (some d) 0, .map [] [])] [])) : V P T Q l := by
 unfold mkV at hv
 split at hv
 ·rename_i d' o hh
  split at hv
  ·rename_i t hop
   cases hv
   refine hard_ok (T := T) hh (e := ⟨True, .map (fid (some d) 0), [(fid (some d) 0, .map [] [])], []⟩) ?_ trivial (.inr ⟨hf, trivial⟩) hk
   unfold effOf; simp only [hop]
  ·cases hv
 ·cases hv
def muV (T : Tab) (l : Lf) : Option (Nat × IntKind × IntKind × Int × AV) :=
 match storeV l with
 | some o => match o.op with
  | .mapUpdate t m k x => match T t with
   | some { under := .map kt _, .. } => match T kt with
    | some { under := .int ik, .. } => match l.σ.bev m, l.σ.bev k with
     | .map id, .pv (.raw (.int kk kv)) => some (id, ik, kk, kv, l.σ.bev x)
     | _, _ => none
    | _ => none
   | _ => none
  | .insert t m k x => match T t with
   | some { under := .map kt _, .. } => match T kt with
    | some { under := .int ik, .. } => match l.σ.bev m, l.σ.bev k with
     | .map id, .pv (.raw (.int kk kv)) => some (id, ik, kk, kv, l.σ.bev x)
     | _, _ => none
    | _ => none
   | _ => none
  | _ => none
 | none => none
theorem mu_ok {Q : Exit → AS → Prop} {l : Lf} {id : Nat} {ik kk : IntKind} {kv : Int} {x : AV} {ks ks' : List Value} {xs xs' : List AV} (hv : muV T l = some (id, ik, kk, kv, x)) (hid : l.σ.heap id = some (.map ks xs)) (hks : keysOk (.int ik) (.int kk kv) ks) (h1 : x.one = true)
  (hp : mapPut (.int kk kv) x ks xs = (ks', xs')) (hk : VS P T Q l.rest .normal (l.σ.eff none (.raw undef) [(id, .map ks' xs')] [])) : V P T Q l := by
 unfold muV at hv
 split at hv
 ·rename_i o hh
  have fin : ∀ {e : Eff}, effOf T l.σ.bev l.σ.heap none o.op = e → e = ⟨keysOk (.int ik) (.int kk kv) ks ∧ x.one = true, .raw undef, [(id, .map (mapPut (.int kk kv) x ks xs).1 (mapPut (.int kk kv) x ks xs).2)], []⟩ → V P T Q l := by
   intro e he hee
   subst hee
   refine store_ok (T := T) hh he ⟨hks, h1⟩ ?_
   rw [hp]
   exact hk
  split at hv
  ·rename_i t m k y hop
   split at hv
   ·rename_i kt et _ _ _ _ ht
    split at hv
    ·rename_i ik' _ _ _ _ hkt
     split at hv
     ·rename_i id' kk' kv' hm hkk
      cases hv
      refine fin rfl ?_
      unfold effOf; simp only [hop, ht, hkt, hm, hkk, hid]
     ·cases hv
    ·cases hv
   ·cases hv
  ·rename_i t m k y hop
   split at hv
   ·rename_i kt et _ _ _ _ ht
    split at hv
    ·rename_i ik' _ _ _ _ hkt
     split at hv
     ·rename_i id' kk' kv' hm hkk
      cases hv
      refine fin rfl ?_
      unfold effOf; simp only [hop, ht, hkt, hm, hkk, hid]
     ·cases hv
    ·cases hv
   ·cases hv
  ·cases hv
 ·cases hv
def lkV (T : Tab) (l : Lf) : Option (Nat × Nat × IntKind × IntKind × Int × AV × Bool) :=
 match hardV l with
 | some (d, o) => match o.op with
  | .lookup t m k ck => match T t with
   | some { under := .map kt et, .. } => match T kt, T et with
    | some { under := .int ik, .. }, some ti => match l.σ.bev m, l.σ.bev k with
     | .map id, .pv (.raw (.int kk kv)) => some (d, id, ik, kk, kv, zeroAV ti.zero, ck)
     | _, _ => none
    | _, _ => none
   | _ => none
  | _ => none
 | none => none
theorem lk_ok {Q : Exit → AS → Prop} {l : Lf} {d id : Nat} {ik kk : IntKind} {kv : Int} {z : AV} {ck : Bool} {ks : List Value} {xs : List AV} {r : Option AV} (hv : lkV T l = some (d, id, ik, kk, kv, z, ck)) (hid : l.σ.heap id = some (.map ks xs)) (hks : keysOk (.int ik) (.int kk kv) ks)
  (hg : mapGet (.int kk kv) ks xs = r) (hk : VS P T Q l.rest .normal (l.σ.eff (some d) (bif ck then .tup [r.getD z, .bool r.isSome] else r.getD z) [] [])) : V P T Q l := by
 subst hg
 unfold lkV at hv
 split at hv
 ·rename_i d' o hh
  split at hv
  ·rename_i t m k ck' hop
   split at hv
   ·rename_i kt et _ _ _ _ ht
    split at hv
    ·rename_i ik' _ _ _ _ ti hkt het
     split at hv
     ·rename_i id' kk' kv' hm hkk
      cases hv
      refine hard_ok (T := T) hh (e := .of (keysOk (.int ik) (.int kk kv) ks, bif ck then .tup [(match mapGet (.int kk kv) ks xs with | some x => x | none => zeroAV ti.zero), .bool (mapGet (.int kk kv) ks xs).isSome] else (match mapGet (.int kk kv) ks xs with | some x => x | none => zeroAV ti.zero))) ?_ hks (.inr trivial) ?_
      ·unfold effOf; simp only [hop, ht, hkt, het, hm, hkk, hid]; rfl
      ·have e : (match mapGet (.int kk kv) ks xs with | some x => x | none => zeroAV ti.zero) = (mapGet (.int kk kv) ks xs).getD (zeroAV ti.zero) := by cases mapGet (.int kk kv) ks xs <;> rfl
       show VS P T Q l.rest .normal (l.σ.eff (some d) _ [] [])
       simp only [e]
       exact hk
     ·cases hv
    ·cases hv
   ·cases hv
  ·cases hv
 ·cases hv
def keysB (kk : IntKind) : List Value → Bool
 | [] => true
 | .int k _ :: r => decide (k = kk) && keysB kk r
 | _ :: _ => false
theorem keysB_ok {ik kk : IntKind} {kv : Int} : ∀ {ks : List Value}, keysB kk ks = true → keysOk (.int ik) (.int kk kv) ks
 | [], _ => ⟨rfl, by intro e he; cases he⟩
 | v :: r, h => by
  cases v with
  | int k b =>
   simp only [keysB, Bool.and_eq_true, decide_eq_true_eq] at h
   obtain ⟨rfl, h⟩ := h
   refine ⟨rfl, fun e he => ?_⟩
   rcases List.mem_cons.1 he with rfl | he
   ·simp [Instr.sameNow, keyEq]
   ·exact (keysB_ok (ik := ik) (kv := kv) h).2 e he
  | _ => cases h
def mK (m : List (Int × α)) : List Value := m.map fun p => .int .i64 p.1
def Elem.mX (E : Elem α) (m : List (Int × α)) : List AV := m.map fun p => .pv (E.cf p.2 0)
theorem Elem.mX_pv (E : Elem α) (m : List (Int × α)) : AllPv (E.mX m) := by
 intro c hc
 obtain ⟨p, _, rfl⟩ := List.mem_map.1 hc
 exact ⟨_, rfl⟩
theorem up_map (E : Elem α) (k : Nat) (m : List (Int × α)) : Blk.up k (.map (mK m) (E.mX m)) = .map (mK m) (E.mX m) := by
 have : ∀ cs : List AV, AllPv cs → AV.upL k cs = cs := by
  intro cs
  induction cs with
  | nil => intro _; rfl
  | cons c cs ih =>
   intro h
   obtain ⟨p, rfl⟩ := h c (by simp)
   simp only [AV.upL, AV.up]
   rw [ih fun d hd => h d (by simp [hd])]
 show Blk.map (mK m) (AV.upL k (E.mX m)) = _
 rw [this _ (E.mX_pv m)]
def cmV (T : Tab) (l : Lf) : Option (Nat × AV) :=
 match hardV l with
 | some (d, o) => match o.op with
  | .convert s t x => match Nat.beq s t, T s with
   | true, some { under := .slice e, .. } => match T e with
    | some { under := .int .u8, .. } => some (d, l.σ.bev x)
    | _ => none
   | _, _ => none
  | _ => none
 | none => none
theorem cm_ok {Q : Exit → AS → Prop} {l : Lf} {d id e n : Nat} (E : Elem Int) {xs : List Int} (hE : E.s = 1) (hv : cmV T l = some (d, .row id 1 0 n)) (hid : l.σ.heap id = some (.row e 1 (E.cR xs))) (hn : n = xs.length) (h0 : 0 < xs.length)
  (hk : VS P T Q l.rest .normal (l.σ.frz (some d) (.pv (E.ro xs)) [] [id])) : V P T Q l := by
 subst hn
 unfold cmV at hv
 split at hv
 ·rename_i d' o hh
  split at hv
  ·rename_i s t x hop
   split at hv
   ·rename_i e1 _ _ _ _ hst hs
    split at hv
    ·rename_i _ _ _ _ he
     simp only [Option.some.injEq, Prod.mk.injEq] at hv
     obtain ⟨rfl, hx⟩ := hv
     have hget : ∀ k, k < xs.length → (E.cR xs)[0 + k]? = some (.pv (E.cf (xs.getD k E.z) 0)) := by
      intro k hk
      have := E.cR_get xs (i := k) (j := 0) hk (by omega)
      rw [hE, Nat.mul_one, Nat.add_zero] at this
      rw [Nat.zero_add]; exact this
     refine hardFu_ok (T := T) hh (by rw [hop]; rfl) (e := ⟨(1 : Nat) = 1 ∧ (1 : Nat) = 1 ∧ 0 < xs.length ∧ 0 + xs.length ≤ (E.cR xs).length ∧ (∀ k, k < xs.length → ∃ p, (E.cR xs)[0 + k]? = some (.pv p)), .pv (.ro 1 xs.length (fun i _ => pvAt (E.cR xs) (0 + i))), [], [id]⟩) ?_ (.pv (E.ro xs)) ?_ ?_ trivial hk
     ·unfold effOf; simp only [hop, hst, hs, he, hx, hid]
     ·exact ⟨rfl, rfl, h0, by rw [E.cR_length, hE]; omega, fun k hk => ⟨_, hget k hk⟩⟩
     ·unfold Elem.ro
      rw [hE]
      refine .roro _ _ _ _ fun i hi j hj => ?_
      obtain rfl : j = 0 := by omega
      have : pvAt (E.cR xs) (0 + i) = E.cf (xs.getD i E.z) 0 := by unfold pvAt; rw [hget i hi]
      rw [this]
      exact .pv _
    ·cases hv
   ·cases hv
  ·cases hv
 ·cases hv
def NilEq : List AV → List AV → Prop
 | [], [] => True
 | x :: xs, y :: ys => (x = y ∨ (x = .pv (.raw (.slice none 0 0)) ∧ ∃ s c, y = .pv (.ro s 0 c))) ∧ NilEq xs ys
 | _, _ => False
theorem NilEq.get {ρ : Nat → Option Nat} {D F : Nat → Prop} {H : Heap} {p : PV} : ∀ {cs ds : List AV} {k : Nat}, NilEq cs ds → ds[k]? = some (.pv p) → ∃ x, cs[k]? = some x ∧ Wk ρ D F H x (.pv p)
 | [], [], k, _, h => by simp at h
 | [], _ :: _, _, hn, _ => hn.elim
 | _ :: _, [], _, hn, _ => hn.elim
 | x :: xs, y :: ys, 0, hn, h => by
  simp only [List.getElem?_cons_zero, Option.some.injEq] at h
  subst h
  refine ⟨x, rfl, ?_⟩
  rcases hn.1 with rfl | ⟨rfl, s, c, hy⟩
  ·exact .pv _
  ·rw [hy]; exact .nil s c
 | x :: xs, y :: ys, k + 1, hn, h => by
  simp only [List.getElem?_cons_succ] at h ⊢
  exact hn.2.get h
theorem bsN_ok {Q : Exit → AS → Prop} {l : Lf} {d e s n : Nat} {cs ds : List AV} (E : Elem α) (xs : List α) (hv : bsV T l = some (d, e, s, n, cs)) (hE : E.s = s) (hn : n = xs.length) (hd : E.cR xs = ds) (hc : NilEq cs ds) (hf : l.σ.seen (fid (some d) 0) = false)
  (hk : VS P T Q l.rest .normal (l.σ.frz (some d) (.pv (E.ro xs)) [(fid (some d) 0, .row e s cs)] [])) : V P T Q l := by
 subst hE hd
 unfold bsV at hv
 split at hv
 ·rename_i d' o hh
  split at hv
  ·rename_i t len parts hop
   split at hv
   ·rename_i e' _ _ _ _ ht
    split at hv
    ·rename_i ti hti
     simp only at hv
     revert hv
     cases hb : Nat.blt 0 ti.size && Nat.ble (len * ti.size) 16777216 && Nat.beq ti.zero.cells.size ti.size && fillB (fun i => some (i * ti.size, ti.size)) ((repCells (ti.zero.cells.toList) 0 (len * ti.size)).map AV.raw) (parts.toList.map fun p => (p.1, l.σ.bev p.2)) && (fillAV (fun i => some (i * ti.size, ti.size)) ((repCells (ti.zero.cells.toList) 0 (len * ti.size)).map AV.raw) (parts.toList.map fun p => (p.1, l.σ.bev p.2))).2.all AV.one with
     | false => intro hv; cases hv
     | true =>
      intro hv
      simp only [cond_true, Option.some.injEq, Prod.mk.injEq] at hv
      obtain ⟨rfl, rfl, hs, hl, hcs⟩ := hv
      simp only [Bool.and_eq_true] at hb
      obtain ⟨⟨⟨⟨h1, h2⟩, h3⟩, h4⟩, h5⟩ := hb
      refine hardFu_ok (T := T) hh (by rw [hop]; rfl) (e := _) rfl (.pv (E.ro xs)) ?_ ?_ ?_ ?_
      all_goals (unfold effOf; simp only [hop, ht, hti])
      ·exact ⟨Nat.le_of_ble_eq_true h1, Nat.le_of_ble_eq_true h2, beq_t h3, fillB_ok h4, h5⟩
      ·rw [hcs, hs, hl, hn]
       have hg := fun i j (hi : i < xs.length) (hj : j < E.s) => hc.get (ρ := fun _ => none) (D := fun _ => False) (F := fun _ => True) (H := setH (fun _ => none) [(fid (some d') 0, .row e' E.s cs)]) (E.cR_get xs hi hj)
       refine Wk.row _ e' E.s 0 xs.length cs _ (fun i j => (cs[(0 + i) * E.s + j]?).getD .junk) trivial (by simp [setH, upd]) (fun i hi j hj => ?_) (fun i hi j hj => ?_)
       ·obtain ⟨x, hx, _⟩ := hg i j hi hj
        rw [Nat.zero_add, hx]; rfl
       ·obtain ⟨x, hx, hw⟩ := hg i j hi hj
        rw [Nat.zero_add, hx]; exact hw
      ·exact ⟨hf, trivial⟩
      ·rw [hcs, hs]; exact hk
    ·cases hv
   ·cases hv
  ·cases hv
 ·cases hv
end Go.Ab

