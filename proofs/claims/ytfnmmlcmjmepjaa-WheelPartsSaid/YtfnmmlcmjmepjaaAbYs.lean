import Derived.Test.YtfnmmlcmjmepjaaAbYh
import Derived.Lib.RowBridge
import Derived.Sort.Grow
set_option linter.unusedVariables false
set_option linter.unusedSimpArgs false
namespace Go.Ab
open Go.RowKit Go.Sort
variable {P : Program} {T : Tab} {α : Type}
theorem sort_mcalls {f : FuncId} (hf : FnOk P f) {E : Elem Int} (hs : E.s = 1) (hcf : ∀ x, E.cf x 0 = .raw (.int .i64 x)) {e : TypeId} {xs ys : List Int} (hpad : ys.length = xs.length)
  (h0 : xs = [] → ∀ (a : Option Addr) (c : Nat) (w : World), Calls P f #[.slice a 0 c] w fun ex w' => ex = .returned (.tuple #[]) ∧ w' = w)
  (h1 : ∀ (g o c : Nat) (w : World), xs ≠ [] → g < w.heap.size → Holds (Value.int .i64) w g o xs.toArray → xs.length < 4611686018427387904 →
   Calls P f #[.slice (some ⟨g, o, none⟩) xs.length c] w fun ex w' => ex = .returned (.tuple #[]) ∧ ∃ n os, w' = grow (putRow (Value.int .i64) (Sort.ahead w n) g o ys.toArray) os)
  {al : Bool} : MCalls P f [.row 0 1 0 xs.length] [.row e 1 (E.cR xs)] 1 al (.tup []) [.row e 1 (E.cR ys)] := by
 have hcell : ∀ (zs : List Int) (j : Nat), j < zs.length → (E.cR zs)[j]? = some (.pv (.raw (.int .i64 (zs.getD j 0)))) := by
  intro zs j hj
  have := E.cR_get zs (i := j) (j := 0) hj (by rw [hs]; omega)
  rw [hs, Nat.mul_one, Nat.add_zero, hcf] at this
  rw [this]
  simp [hj]
 refine ⟨hf, fun ι R w vs hv hR hin hinj hout hlt _ _ => ?_⟩
 match vs, hv with
 | u :: us, hv =>
  simp only [RelL] at hv
  obtain ⟨hu, hus⟩ := hv
  obtain rfl : us = [] := by cases us with | nil => rfl | cons _ _ => simp [RelL] at hus
  have hB := hin 0 _ rfl
  by_cases hx : xs = []
  ·subst hx
   have hy : ys = [] := List.eq_nil_of_length_eq_zero (by have h := hpad; simp only [List.length_nil] at h; omega)
   subst hy
   have hform : ∃ a c, u = .slice a 0 c := by
    simp only [RelA] at hu
    rcases hu with ⟨_, _, _, rfl⟩ | ⟨g, c, a, _, rfl, _⟩
    ·exact ⟨none, 0, rfl⟩
    ·exact ⟨a, _, rfl⟩
   obtain ⟨a, c, rfl⟩ := hform
   refine (h0 rfl a c w).mono ?_
   rintro ex w' ⟨rfl, rfl⟩
   refine ⟨_, ι, rfl, BelowB.refl _ _ _, ?_, ?_, ?_, ?_, ?_, fun _ _ _ h => h⟩
   ·intro i b hb
    cases i with
    | zero =>
     simp at hb
     subst hb
     obtain ⟨n, hn, hs1, hn47, h⟩ := hB
     have hn0 : n = 0 := by simpa [Elem.cR] using hn.symm
     subst hn0
     refine ⟨0, by simp [Elem.cR], hs1, by omega, ?_⟩
     rcases h with h | ⟨g, cap, base, cur, h1, h2, h3, h4, h5, _, _⟩
     ·exact .inl h
     ·exact .inr ⟨g, cap, base, cur, h1, h2, h3, h4, h5, by simp [Elem.cR, RelL], by intro v hv; simp at hv⟩
    | succ i => simp at hb
   ·exact ⟨#[], rfl, by simp [RelL]⟩
   ·intro i b g c hb hi
    cases i with
    | zero => exact .inr ⟨0, _, c, rfl, hi⟩
    | succ i => simp at hb
   ·intro i j b b' g c c' hb hb' _ _
    cases i with
    | zero => cases j with
     | zero => rfl
     | succ j => simp at hb'
    | succ i => simp at hb
   ·intro i x hi; exact hlt i x hi
  ·obtain ⟨n, hn, _, hn47, h⟩ := hB
   rw [E.cR_length, hs] at hn
   have hnx : n = xs.length := by omega
   subst hnx
   have hpos : 0 < xs.length := List.length_pos_iff.2 hx
   rcases h with ⟨_, h⟩ | ⟨g, cap, base, cur, hi, hh, hsz, hnc, hcm, hr, hone⟩
   ·omega
   simp only [RelA] at hu
   rcases hu with ⟨_, _, h, _⟩ | ⟨g', c', a, hi', rfl, hle, ha0⟩
   ·omega
   rw [hi] at hi'
   obtain ⟨rfl, rfl⟩ : g = g' ∧ ⟨cap, base⟩ = c' := by simpa using hi'
   obtain rfl := ha0 (by show 0 < cap; omega)
   have hsz' : cur.size = base + cap := by rw [hsz]; omega
   have hcells : ∀ j, j < xs.length → cur[base + j]? = some (.int .i64 (xs.getD j 0)) := by
    intro j hj
    obtain ⟨v, hv, hrv⟩ := hr.get j _ (hcell xs j hj)
    rw [raw_inv hrv] at hv
    rw [List.getElem?_take, if_pos (by omega), List.getElem?_drop] at hv
    simpa using hv
   rw [Nat.sub_zero, Nat.zero_mul, Nat.zero_add]
   have hH : Holds (Value.int .i64) w g base xs.toArray := by
    intro j hj
    have hj' : j < xs.length := by simpa using hj
    refine ⟨?_, by simp [World.frozen?, hh]⟩
    simp [World.cell?, hh, hcells j hj', hj', List.getD, getElem!_pos]
   refine (h1 g base cap w hx (Array.getElem?_eq_some_iff.1 hh).1 hH (by omega)).mono ?_
   rintro ex w' ⟨rfl, q, os, rfl⟩
   rw [Go.Lib.putRow_eq_setCells _ _ _ _ _ _ _ hH (by simpa using hpad)]
   have hvl : (ys.map (Value.int .i64)).length = xs.length := by simp; omega
   obtain ⟨hp, cur', e1, e2, e3, e4, e5, e6, e7⟩ := setCells_block g (ys.map (Value.int .i64)) base (w.drewN q) cur e (0, 0) hh (by rw [hvl]; omega)
   rw [e1]
   have hglt : g < w.heap.size := (Array.getElem?_eq_some_iff.1 hh).1
   have e4' : (grow { w.drewN q with heap := hp } os).heap[g]? = some (.cells cur' e (0, 0)) := by
    rw [heap_grow_old _ _ (by show g < hp.size; rw [e2]; exact hglt)]; exact e4
   refine ⟨_, ι, rfl, ⟨rfl, rfl, rfl, by rw [size_grow]; show w.heap.size ≤ hp.size + os.size; rw [e2]; show w.heap.size ≤ w.heap.size + _; omega, fun k hk hnb => ?_⟩, ?_, ?_, ?_, ?_, ?_, fun _ _ _ h => h⟩
   ·rw [heap_grow_old _ _ (by show k < hp.size; rw [e2]; exact hk)]
    exact e3 k (fun hkg => hnb (by rw [hkg]; exact ⟨0, _, ⟨cap, base⟩, rfl, hi⟩))
   ·intro i b hb
    cases i with
    | zero =>
     simp at hb
     subst hb
     refine ⟨ys.length, by rw [E.cR_length, hs], by omega, by omega,   .inr ⟨g, cap, base, cur', hi, e4', by rw [e5, hsz], by omega, hcm, ?_, ?_⟩⟩
     ·refine RelL.of_get (by rw [E.cR_length, hs]; simp; omega) ?_
      intro j x v hjx hjv
      have hj : j < ys.length := by
       have := (List.getElem?_eq_some_iff.1 hjx).1
       rw [E.cR_length, hs] at this; omega
      rw [hcell ys j hj] at hjx
      cases hjx
      rw [List.getElem?_take, if_pos (by omega), List.getElem?_drop] at hjv
      have h6 := e6 j (by rw [hvl]; omega)
      have hjv' : cur'[base + j]? = some v := by simpa using hjv
      rw [h6] at hjv'
      rw [List.getElem?_map] at hjv'
      simp only [List.getElem?_eq_getElem hj, Option.map_some, Option.some.injEq] at hjv'
      simp only [RelA, RelP]
      rw [← hjv']
      simp [hj]
     ·intro v hv
      obtain ⟨j, hj, rfl⟩ := List.getElem_of_mem hv
      rw [List.length_take, List.length_drop] at hj
      have h6 := e6 j (by rw [hvl]; omega)
      have hjl : base + j < cur'.size := by have : cur'.toList.length = cur'.size := rfl; omega
      rw [List.getElem_take, List.getElem_drop]
      have hlt' : j < (ys.map (Value.int .i64)).length := by rw [hvl]; omega
      rw [Array.getElem?_eq_getElem hjl, List.getElem?_eq_getElem hlt'] at h6
      have h7 := Option.some.inj h6
      have h8 : cur'.toList[base + j] = cur'[base + j] := by simp
      rw [h8, h7, List.getElem_map]
      rfl
    | succ i => simp at hb
   ·exact ⟨#[], rfl, by simp [RelL]⟩
   ·intro i b g' c hb hi'
    cases i with
    | zero => exact .inr ⟨0, _, c, rfl, hi'⟩
    | succ i => simp at hb
   ·intro i j b b' g c c' hb hb' _ _
    cases i with
    | zero => cases j with
     | zero => rfl
     | succ j => simp at hb'
    | succ i => simp at hb
   ·intro i x hi; exact hlt i x hi
end Go.Ab

