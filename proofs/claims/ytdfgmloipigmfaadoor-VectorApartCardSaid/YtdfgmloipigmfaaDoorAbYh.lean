/- A library function that works in place on a row of ints that is handed over: what it comes to, off a contract of the shelf. -/
import Derived.Test.YtdfgmloipigmfaaDoorAbYg
import Derived.Deep.Upon
import Derived.Deep.Draws
set_option linter.unusedVariables false
set_option linter.unusedSimpArgs false
namespace Go.Ab
open Go.RowKit

variable {P : Program} {T : Tab} {α : Type}

theorem setCells_block (b : Nat) : ∀ (vs : List Value) (o : Nat) (w : World) (cur : Array Value) (e : TypeId) (fr : Nat × Nat), w.heap[b]? = some (.cells cur e fr) → o + vs.length ≤ cur.size →
    ∃ (h : Array Obj) (cur' : Array Value), w.setCells b o vs = { w with heap := h } ∧ h.size = w.heap.size ∧ (∀ k, k ≠ b → h[k]? = w.heap[k]?) ∧ h[b]? = some (.cells cur' e fr) ∧ cur'.size = cur.size ∧
      (∀ j, j < vs.length → cur'[o + j]? = vs[j]?) ∧ (∀ j, j < o → cur'[j]? = cur[j]?)
  | [], o, w, cur, e, fr, hb, _ => ⟨w.heap, cur, rfl, rfl, fun _ _ => rfl, hb, rfl, fun j hj => by simp at hj, fun _ _ => rfl⟩
  | v :: r, o, w, cur, e, fr, hb, hl => by
    simp only [List.length_cons] at hl
    have hblt : b < w.heap.size := (Array.getElem?_eq_some_iff.1 hb).1
    have hbv : w.heap[b] = .cells cur e fr := (Array.getElem?_eq_some_iff.1 hb).2
    have h1 : (w.setCell ⟨b, o, none⟩ v).heap[b]? = some (.cells (cur.setIfInBounds o v) e fr) := by
      unfold World.setCell
      rw [Array.getElem?_eq_getElem (by simpa using hblt), Array.getElem_modify]
      simp [hbv]
    have h2 : ∀ k, k ≠ b → (w.setCell ⟨b, o, none⟩ v).heap[k]? = w.heap[k]? := by
      intro k hk
      unfold World.setCell
      simp only [Array.getElem?_modify]
      rw [if_neg (Ne.symm hk)]
    obtain ⟨h, cur', e1, e2, e3, e4, e5, e6, e7⟩ := setCells_block b r (o + 1) (w.setCell ⟨b, o, none⟩ v) (cur.setIfInBounds o v) e fr h1 (by simp; omega)
    refine ⟨h, cur', ?_, ?_, ?_, e4, by rw [e5]; simp, ?_, ?_⟩
    · rw [World.setCells, e1]; rfl
    · rw [e2]; simp [World.setCell]
    · intro k hk; rw [e3 k hk, h2 k hk]
    · intro j hj
      cases j with
      | zero =>
        rw [Nat.add_zero, e7 o (by omega), Array.getElem?_eq_getElem (by simp; omega)]
        simp
      | succ j =>
        have := e6 j (by simpa using hj)
        rw [show o + 1 + j = o + (j + 1) by omega] at this
        simpa using this
    · intro j hj
      rw [e7 j (by omega)]
      simp [Array.getElem?_setIfInBounds]
      omega

theorem inplace_mcalls {f : FuncId} (hf : FnOk P f) {E : Elem Int} (hs : E.s = 1) (hcf : ∀ x, E.cf x 0 = .raw (.int .i64 x)) {e : TypeId} {xs ys pad : List Int} {rest : List Value} (hpad : ys.length + pad.length = xs.length)
    (h0 : xs = [] → ∀ (a : Option Addr) (c : Nat) (w : World), Calls P f (#[.slice a 0 c] ++ rest.toArray) w fun ex w' => ex = .returned (.slice a 0 c) ∧ w' = w)
    (h1 : ∀ (g o c : Nat) (w : World), xs ≠ [] → xs.length ≤ c → c ≤ 9223372036854775807 → (∀ j, j < xs.length → w.cell? ⟨g, o + j, none⟩ = some (.int .i64 (xs.getD j 0))) → (∀ j, j < xs.length → w.frozen? ⟨g, o + j, none⟩ = false) →
      Calls P f (#[.slice (some ⟨g, o, none⟩) xs.length c] ++ rest.toArray) w fun ex w' => ex = .returned (.slice (some ⟨g, o, none⟩) ys.length c) ∧ ∃ q, w' = (w.drewN q).setCells g o ((ys ++ pad).map (Value.int .i64)))
    {al : Bool} : MCalls P f (.row 0 1 0 xs.length :: rest.map fun v => .pv (.raw v)) [.row e 1 (E.cR xs)] 0 al (.row 0 1 0 ys.length) [.row e 1 (E.cR ys)] := by
  have hcell : ∀ (zs : List Int) (j : Nat), j < zs.length → (E.cR zs)[j]? = some (.pv (.raw (.int .i64 (zs.getD j 0)))) := by
    intro zs j hj
    have := E.cR_get zs (i := j) (j := 0) hj (by rw [hs]; omega)
    rw [hs, Nat.mul_one, Nat.add_zero, hcf] at this
    rw [this]
    simp [hj]
  refine ⟨hf, fun ι R w vs hv hR hin hinj hout hlt _ _ => ?_⟩
  match vs, hv with
  | u :: us, hv =>
    simp only [RelL] at hv
    obtain ⟨hu, hus⟩ := hv
    have hrest : us = rest := by
      have key : ∀ (rest us : List Value), RelL ι R w (rest.map fun v => .pv (.raw v)) us → us = rest := by
        intro rest
        induction rest with
        | nil =>
          intro us h
          cases us with
          | nil => rfl
          | cons _ _ => simp [RelL] at h
        | cons r rest ih =>
          intro us h
          cases us with
          | nil => simp [RelL] at h
          | cons v us =>
            simp only [List.map_cons, RelL] at h
            rw [raw_inv h.1, ih us h.2]
      exact key rest us hus
    subst hrest
    have hB := hin 0 _ rfl
    have harr : (u :: us).toArray = #[u] ++ us.toArray := by simp
    rw [harr]
    by_cases hx : xs = []
    · subst hx
      have hy : ys = [] := List.eq_nil_of_length_eq_zero (by have h := hpad; simp only [List.length_nil] at h; omega)
      subst hy
      have hform : ∃ a c, u = .slice a 0 c := by
        simp only [RelA] at hu
        rcases hu with ⟨_, _, _, rfl⟩ | ⟨g, c, a, _, rfl, _⟩
        · exact ⟨none, 0, rfl⟩
        · exact ⟨a, _, rfl⟩
      obtain ⟨a, c, rfl⟩ := hform
      refine (h0 rfl a c w).mono ?_
      rintro ex w' ⟨rfl, rfl⟩
      refine ⟨_, ι, rfl, BelowB.refl _ _ _, ?_, ?_, ?_, ?_, ?_, ?_⟩
      · intro i b hb
        cases i with
        | zero =>
          simp at hb
          subst hb
          obtain ⟨n, hn, hs1, hn47, h⟩ := hB
          have hn0 : n = 0 := by simpa [Elem.cR] using hn.symm
          subst hn0
          refine ⟨0, by simp [Elem.cR], hs1, by omega, ?_⟩
          rcases h with h | ⟨g, cap, base, cur, h1, h2, h3, h4, h5, _, _⟩
          · exact .inl h
          · exact .inr ⟨g, cap, base, cur, h1, h2, h3, h4, h5, by simp [Elem.cR, RelL], by intro v hv; simp at hv⟩
        | succ i => simp at hb
      · simp only [RelA] at hu ⊢; exact hu
      · intro i b g c hb hi
        cases i with
        | zero => exact .inr ⟨0, _, c, rfl, hi⟩
        | succ i => simp at hb
      · intro i j b b' g c c' hb hb' _ _
        cases i with
        | zero => cases j with
          | zero => rfl
          | succ j => simp at hb'
        | succ i => simp at hb
      · intro i x hi; exact hlt i x hi
      · intro i x hi; omega
    · obtain ⟨n, hn, _, hn47, h⟩ := hB
      rw [E.cR_length, hs] at hn
      have hnx : n = xs.length := by omega
      subst hnx
      have hpos : 0 < xs.length := List.length_pos_iff.2 hx
      rcases h with ⟨_, h⟩ | ⟨g, cap, base, cur, hi, hh, hsz, hnc, hcm, hr, hone⟩
      · omega
      simp only [RelA] at hu
      rcases hu with ⟨_, _, h, _⟩ | ⟨g', c', a, hi', rfl, hle, ha0⟩
      · omega
      rw [hi] at hi'
      obtain ⟨rfl, rfl⟩ : g = g' ∧ ⟨cap, base⟩ = c' := by simpa using hi'
      obtain rfl := ha0 (by show 0 < cap; omega)
      have hsz' : cur.size = base + cap := by rw [hsz]; omega
      have hcells : ∀ j, j < xs.length → cur[base + j]? = some (.int .i64 (xs.getD j 0)) := by
        intro j hj
        obtain ⟨v, hv, hrv⟩ := hr.get j _ (hcell xs j hj)
        rw [raw_inv hrv] at hv
        rw [List.getElem?_take, if_pos (by omega), List.getElem?_drop] at hv
        simpa using hv
      rw [Nat.sub_zero, Nat.zero_mul, Nat.zero_add]
      refine (h1 g base cap w hx hnc (by unfold maxLen at hcm; omega) (fun j hj => ?_) (fun j hj => ?_)).mono ?_
      · simp [World.cell?, hh, hcells j hj]
      · simp [World.frozen?, hh]
      rintro ex w' ⟨rfl, q, rfl⟩
      have hvl : ((ys ++ pad).map (Value.int .i64)).length = xs.length := by simp; omega
      obtain ⟨hp, cur', e1, e2, e3, e4, e5, e6, e7⟩ := setCells_block g ((ys ++ pad).map (Value.int .i64)) base (w.drewN q) cur e (0, 0) hh (by rw [hvl]; omega)
      rw [e1]
      refine ⟨_, fun i => if i = 0 then some (some (g, ⟨cap, base⟩)) else none, rfl, ⟨rfl, rfl, rfl, by show w.heap.size ≤ hp.size; rw [e2]; exact Nat.le_refl _, fun k hk hnb => e3 k (fun hkg => hnb (by rw [hkg]; exact ⟨0, _, ⟨cap, base⟩, rfl, hi⟩))⟩, ?_, ?_, ?_, ?_, ?_, ?_⟩
      · intro i b hb
        cases i with
        | zero =>
          simp at hb
          subst hb
          refine ⟨ys.length, by rw [E.cR_length, hs], by omega, by omega, .inr ⟨g, cap, base, cur', rfl, e4, by rw [e5, hsz], by omega, hcm, ?_, ?_⟩⟩
          · refine RelL.of_get (by rw [E.cR_length, hs]; simp; omega) ?_
            intro j x v hjx hjv
            have hj : j < ys.length := by
              have := (List.getElem?_eq_some_iff.1 hjx).1
              rw [E.cR_length, hs] at this; omega
            rw [hcell ys j hj] at hjx
            cases hjx
            rw [List.getElem?_take, if_pos (by omega), List.getElem?_drop] at hjv
            have h6 := e6 j (by rw [hvl]; omega)
            have hjv' : cur'[base + j]? = some v := by simpa using hjv
            rw [h6] at hjv'
            rw [List.getElem?_map, List.getElem?_append_left hj] at hjv'
            simp only [List.getElem?_eq_getElem hj, Option.map_some, Option.some.injEq] at hjv'
            simp only [RelA, RelP]
            rw [← hjv']
            simp [hj]
          · intro v hv
            obtain ⟨j, hj, rfl⟩ := List.getElem_of_mem hv
            rw [List.length_take, List.length_drop] at hj
            have h6 := e6 j (by rw [hvl]; omega)
            have hjl : base + j < cur'.size := by have : cur'.toList.length = cur'.size := rfl; omega
            rw [List.getElem_take, List.getElem_drop]
            have hlt' : j < ((ys ++ pad).map (Value.int .i64)).length := by rw [hvl]; omega
            rw [Array.getElem?_eq_getElem hjl, List.getElem?_eq_getElem hlt'] at h6
            have h7 := Option.some.inj h6
            have h8 : cur'.toList[base + j] = cur'[base + j] := by simp
            rw [h8, h7, List.getElem_map]
            rfl
        | succ i => simp at hb
      · simp only [RelA]
        exact .inr ⟨g, ⟨cap, base⟩, some ⟨g, base, none⟩, by simp, by first | rfl | simp, by show 0 + ys.length ≤ cap; omega, fun _ => by simp⟩
      · intro i b g' c hb hi'
        cases i with
        | zero =>
          simp only [if_true, Option.some.injEq, Prod.mk.injEq] at hi'
          obtain ⟨rfl, rfl⟩ := hi'
          exact .inr ⟨0, _, ⟨cap, base⟩, rfl, hi⟩
        | succ i => simp at hb
      · intro i j b b' g c c' hb hb' _ _
        cases i with
        | zero => cases j with
          | zero => rfl
          | succ j => simp at hb'
        | succ i => simp at hb
      · intro i x hi'
        cases i with
        | zero => simp
        | succ i => simp at hi'
      · intro i x hi'; omega

end Go.Ab
