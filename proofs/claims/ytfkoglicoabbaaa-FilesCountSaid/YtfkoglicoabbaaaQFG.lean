import Derived.Test.YtfkoglicoabbaaaQFH
import Derived.Test.YtfkoglicoabbaaaAbYv
set_option linter.unusedVariables false
set_option linter.unusedSimpArgs false
namespace Go.Proofs
open Go.RowKit Go.Fp Go.Ab
theorem play_pcalls {α β : Type} (hf : FnOk Try.prog 9) {E : Elem α} {E' : Elem β} (hs : E.s = 7) {f : α → Fp.Op} (hE : ∀ x j, j < 7 → E.cf x j = .raw (.int .i64 (opF (f x) j))) (hs' : E'.s = 2) {q : β → Int × Int}
    (h1 : ∀ x, E'.cf x 0 = .raw (.int .i64 (q x).1)) (h2 : ∀ x, E'.cf x 1 = .raw (.int .i64 (q x).2)) {xs : List α} (hn : xs.length ≤ 8796093022208) (hm : ∀ x ∈ xs, (f x).most ≤ 9223372036854775807) {rs : List β}
    (hrs : rs.map q = answers (xs.map f) s0) {cells : List AV} (hcells : (List.range 64).map (fun i => AV.pv (.raw (.int .i64 (Fp.cell (run (xs.map f) s0) (i / 16) (i % 16))))) = cells) {al : Bool} :
    PCalls Try.prog 9 [.pv (E.ro xs)] al (.tup [.row 0 2 0 rs.length, .agg cells]) [.row 34 2 (E'.cR rs)] := by
  subst hcells
  have hlen : rs.length = xs.length := by
    have := congrArg List.length hrs
    rwa [List.length_map, answers_length, List.length_map] at this
  refine ⟨hf, fun R w vs hv hR _ => ?_⟩
  match vs, hv with
  | [u], hv =>
    simp only [RelL, RelA] at hv
    obtain ⟨hu, _⟩ := hv
    unfold Elem.ro at hu
    simp only [RelP] at hu
    obtain ⟨a, cap, rfl, hnc, hn47, h⟩ := hu
    obtain ⟨g, off, hb⟩ : ∃ g off, 0 < xs.length → a = some ⟨g, off, none⟩ ∧ R g ∧ ∀ i, i < xs.length → ∀ j, j < 7 → w.cell? ⟨g, off + i * 7 + j, none⟩ = some (.int .i64 (opF ((xs.map f).getD i dOp) j)) := by
      by_cases h0 : 0 < xs.length
      · obtain ⟨g, off, ha, hRg, hcs⟩ := h h0
        refine ⟨g, off, fun _ => ⟨ha, hRg, fun i hi j hj => ?_⟩⟩
        obtain ⟨y, hy, _, hry⟩ := hcs i hi j (by rw [hs]; exact hj)
        rw [hE _ _ hj] at hry
        simp only [RelP] at hry
        rw [hs] at hy
        rw [hy, hry]
        simp [List.getD_eq_getElem?_getD, hi]
      · exact ⟨0, 0, fun h1 => absurd h1 h0⟩
    have key := Try.play g off cap a (xs.map f) w (by rw [List.length_map]; exact hn) (fun h0 => (hb (by rwa [List.length_map] at h0)).1) (fun h0 => hR g (hb (by rwa [List.length_map] at h0)).2.1)
      (fun i hi j hj => (hb (by rw [List.length_map] at hi; omega)).2.2 i (by rwa [List.length_map] at hi) j hj)
      (fun i hi => by
        rw [List.length_map] at hi
        rw [show (xs.map f).getD i dOp = f xs[i] by simp [List.getD_eq_getElem?_getD, hi]]
        exact hm _ (List.getElem_mem hi))
    rw [List.length_map] at key
    refine key.mono ?_
    rintro ex w' ⟨v, cs, rfl, hrow, hbel, _, hc1, hc2⟩
    rw [List.length_map] at hrow
    have hagg : ∀ (ι : Emb) (R' : Nat → Prop), RelA ι R' w' (.agg ((List.range 64).map fun i => AV.pv (.raw (.int .i64 (Fp.cell (run (xs.map f) s0) (i / 16) (i % 16)))))) (.agg cs) := by
      intro ι R'
      simp only [RelA]
      refine ⟨cs, rfl, RelL.of_get (by simp [hc1]) fun k x u hk hu => ?_⟩
      have hkl : k < 64 := by
        have := (List.getElem?_eq_some_iff.1 hk).1
        simpa using this
      rw [List.getElem?_map, List.getElem?_range hkl] at hk
      simp only [Option.map_some, Option.some.injEq] at hk
      subst hk
      rw [Array.getElem?_toList, hc2 k hkl] at hu
      cases hu
      simp only [RelA, RelP]
    rcases hrow.2 with ⟨rfl, hz⟩ | ⟨gb, cap', cur, rfl, hbase, hgb, r1, r2, r3, r4⟩
    · have hy0 : rs = [] := List.eq_nil_of_length_eq_zero (by omega)
      subst hy0
      refine ⟨_, fun i => if i = 0 then some none else none, rfl, hbel, ?_, ?_, ?_, ?_, ?_⟩
      · intro i b hb
        cases i with
        | zero =>
          simp at hb
          subst hb
          exact ⟨0, by simp [Elem.cR], by omega, by omega, .inl ⟨rfl, rfl⟩⟩
        | succ i => simp at hb
      · have ha := hagg (fun i => if i = 0 then some none else none)
        simp only [RelA, RelL]
        refine ⟨_, rfl, .inl ⟨by simp, by simp, by simp, by first | trivial | rfl⟩, ?_, trivial⟩
        have := ha (fun k => (al = true ∧ R k) ∨ (w.heap.size ≤ k ∧ k < w'.heap.size ∧ ∀ (i : Nat) (b : Blk) (c : Cp), ([Blk.row 34 2 (E'.cR [])] : List Blk)[i]? = some b → (if i = 0 then some none else none) ≠ some (some (k, c))))
        simp only [RelA] at this
        exact this
      · intro i b g c hb hi
        cases i with
        | zero => simp at hi
        | succ i => simp at hb
      · intro i j b b' g c c' hb hb' hi hj
        cases i with
        | zero => simp at hi
        | succ i => simp at hb
      · intro i x hi
        cases i with
        | zero => simp
        | succ i => simp at hi
    · refine ⟨_, fun i => if i = 0 then some (some (gb, ⟨cap', 0⟩)) else none, rfl, hbel, ?_, ?_, ?_, ?_, ?_⟩
      · intro i b hb
        cases i with
        | zero =>
          simp at hb
          subst hb
          refine ⟨rs.length, by rw [E'.cR_length, hs'], by omega, by omega, .inr ⟨gb, cap', 0, cur, rfl, hgb, by rw [r3]; omega, by omega, r2, ?_, ?_⟩⟩
          · rw [List.drop_zero, hlen, r4]
            have hcl : ansL (answers (xs.map f) s0) = cl2 (rs.map q) := by rw [hrs]; rfl
            rw [hcl]
            have hq : ∀ j (hj : j < rs.length), (rs.map q).getD j (0, 0) = q rs[j] := by intro j hj; simp [hj]
            refine RelL.of_get (by rw [E'.cR_length, hs', cl2_length, List.length_map]) fun k x u hk hu => ?_
            have hkl : k < rs.length * 2 := by
              have := (List.getElem?_eq_some_iff.1 hk).1
              rw [E'.cR_length, hs'] at this; exact this
            obtain ⟨i, j, hj, rfl⟩ : ∃ i j, j < 2 ∧ k = i * 2 + j := ⟨k / 2, k % 2, Nat.mod_lt _ (by omega), by omega⟩
            have hi : i < rs.length := by omega
            have hg := E'.cR_get rs (i := i) (j := j) hi (by rw [hs']; exact hj)
            rw [hs'] at hg
            rw [hg] at hk
            cases hk
            obtain ⟨c1, c2⟩ := cl2_get (rs.map q) i (by simpa using hi)
            rw [hq i hi] at c1 c2
            match j, hj with
            | 0, _ =>
              rw [Nat.add_zero, c1] at hu
              cases hu
              simp only [RelA]
              rw [h1]
              simp [RelP, hi]
            | 1, _ =>
              rw [c2] at hu
              cases hu
              simp only [RelA]
              rw [h2]
              simp [RelP, hi]
          · rw [List.drop_zero, hlen, r4]
            have hcl : ansL (answers (xs.map f) s0) = cl2 (rs.map q) := by rw [hrs]; rfl
            rw [hcl]
            exact cl2_one _
        | succ i => simp at hb
      · have ha := hagg (fun i => if i = 0 then some (some (gb, ⟨cap', 0⟩)) else none)
        simp only [RelA, RelL]
        refine ⟨_, rfl, .inr ⟨gb, ⟨cap', 0⟩, some ⟨gb, 0, none⟩, by simp, by simp [hlen], by show 0 + rs.length ≤ cap'; omega, fun _ => by simp⟩, ?_, trivial⟩
        have := ha (fun k => (al = true ∧ R k) ∨ (w.heap.size ≤ k ∧ k < w'.heap.size ∧ ∀ (i : Nat) (b : Blk) (c : Cp), ([Blk.row 34 2 (E'.cR rs)] : List Blk)[i]? = some b → (if i = 0 then some (some (gb, (⟨cap', 0⟩ : Cp))) else none) ≠ some (some (k, c))))
        simp only [RelA] at this
        exact this
      · intro i b g c hb hi
        cases i with
        | zero =>
          simp at hi
          rw [← hi.1]; exact hbase
        | succ i => simp at hb
      · intro i j b b' g c c' hb hb' hi hj
        cases i with
        | zero => cases j with
          | zero => rfl
          | succ j => simp at hb'
        | succ i => simp at hb
      · intro i x hi
        cases i with
        | zero => simp
        | succ i => simp at hi
end Go.Proofs

