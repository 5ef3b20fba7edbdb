/- Cores: what Run answers, told as the models are. -/
import Derived.Test.YtdijmangjgepaaaQCU
import Derived.Test.YtdijmangjgepaaaAbYv
set_option linter.unusedVariables false
set_option linter.unusedSimpArgs false
namespace Go.Proofs
open Go.RowKit Go.Cp Go.Ab

theorem runF_len {c slice : Int} {l : List Tin} {t : Int} : (runF c slice l t).1.length ≤ 2000 := by
  unfold runF
  split
  · simp
  · split
    · simp
    · rw [runs_length]; omega

theorem run_pcalls {α : Type} (hf : FnOk Try.prog 8) {E : Elem α} (hs : E.s = 3) {f : α → Tin} (h0 : ∀ x, E.cf x 0 = .raw (.int .i64 (f x).1)) (h1 : ∀ x, E.cf x 1 = .raw (.int .i64 (f x).2.1)) (h2 : ∀ x, E.cf x 2 = .raw (.int .i64 (f x).2.2))
    {RE : Elem (List Int)} (hs' : RE.s = 1) (hc : ∀ x : List Int, RE.cf x 0 = .ro 1 x.length (fun i _ => .raw (.int .i64 (x.getD i 0)))) {a0 a1 a3 : Int} {a2 : List α} {rs : List (List Int)} (hr : (runF a0 a1 (a2.map f) a3).1.map (·.map fun k : Nat => (k : Int)) = rs)
    (g : (a0 ≤ 9223372036854775807 ∧ -9223372036854775808 ≤ a0) ∧ (a1 ≤ 9223372036854775807 ∧ -9223372036854775808 ≤ a1) ∧ (a3 ≤ 9223372036854775807 ∧ -9223372036854775808 ≤ a3)) {al : Bool} :
    PCalls Try.prog 8 [.pv (.raw (.int .i64 a0)), .pv (.raw (.int .i64 a1)), .pv (E.ro a2), .pv (.raw (.int .i64 a3))] al (.tup [.row 0 1 0 rs.length, .pv (.raw (.int .i64 (runF a0 a1 (a2.map f) a3).2))]) [.row 30 1 (RE.cR rs)] := by
  refine ⟨hf, fun R w vs hv hR _ => ?_⟩
  match vs, hv with
  | [u0, u1, u2, u3], hv =>
    simp only [RelL, RelA] at hv
    obtain ⟨hu0, hu1, hu2, hu3, _⟩ := hv
    unfold Elem.ro at hu2
    simp only [RelP] at hu0 hu1 hu2 hu3
    subst hu0 hu1 hu3
    obtain ⟨a, cap, rfl, hnc, hn47, h⟩ := hu2
    obtain ⟨g, off, hb⟩ : ∃ g off, 0 < a2.length → a = some ⟨g, off, none⟩ ∧ R g ∧ ∀ i, i < a2.length → ∀ j, j < 3 → w.cell? ⟨g, off + i * 3 + j, none⟩ = some (.int .i64 (tinF ((a2.map f).getD i dT) j)) := by
      by_cases hl : 0 < a2.length
      · obtain ⟨g, off, ha, hRg, hcs⟩ := h hl
        refine ⟨g, off, fun _ => ⟨ha, hRg, fun i hi j hj => ?_⟩⟩
        obtain ⟨y, hy, _, hry⟩ := hcs i hi j (by rw [hs]; exact hj)
        rw [hs] at hy
        rw [hy]
        have hgd : (a2.map f).getD i dT = f (a2.getD i E.z) := by simp [List.getD_eq_getElem?_getD, hi]
        rw [hgd]
        match j, hj with
        | 0, _ => rw [h0] at hry; simp only [RelP] at hry; rw [hry]; rfl
        | 1, _ => rw [h1] at hry; simp only [RelP] at hry; rw [hry]; rfl
        | 2, _ => rw [h2] at hry; simp only [RelP] at hry; rw [hry]; rfl
      · exact ⟨0, 0, fun h1 => absurd h1 hl⟩
    have key := Try.run g off cap a (a2.map f) a0 a1 a3 w (fun h0 => (hb (by rwa [List.length_map] at h0)).1) (fun h0 => hR g (hb (by rwa [List.length_map] at h0)).2.1)
      (fun i hi j hj => (hb (by rw [List.length_map] at hi; omega)).2.2 i (by rwa [List.length_map] at hi) j hj)
    rw [List.length_map] at key
    refine key.mono ?_
    rintro ex w' ⟨v, rfl, ⟨ws, hown, hrows⟩, hbel⟩
    generalize (runF a0 a1 (a2.map f) a3).2 = err at *
    obtain ⟨rn, hrn⟩ : ∃ rn, rn = (runF a0 a1 (a2.map f) a3).1 := ⟨_, rfl⟩
    rw [← hrn] at hr hown hrows
    have hshort : ∀ r ∈ rn, r.length ≤ 8 := by rw [hrn]; exact runF_short
    have h2000 : rn.length ≤ 2000 := by rw [hrn]; exact runF_len
    have hlen : rs.length = rn.length := by rw [← hr, List.length_map]
    rw [← hlen] at hown
    have hwl : ws.length = rs.length := by have := hown.1; omega
    -- one row of numbers
    have hone : ∀ (i : Nat) (hi : i < rs.length) (R' : Nat → Prop), (∀ k cs, w.heap.size ≤ k → w'.heap[k]? = some (.cells cs 3 (0, 0)) → R' k) → ∃ u, ws[i]? = some u ∧ u.oneCell' = true ∧ RelP R' w' (RE.cf (rs.getD i RE.z) 0) u := by
      intro i hi R' hR'
      obtain ⟨q, hq⟩ : ∃ q, rn[i]? = some q := ⟨_, List.getElem?_eq_getElem (by omega)⟩
      obtain ⟨u, hu, hur⟩ := hrows i q hq
      have hri : rs.getD i RE.z = q.map fun k : Nat => (k : Int) := by
        rw [List.getD_eq_getElem?_getD, ← hr, List.getElem?_map, hq]; rfl
      have hq8 := hshort q (List.mem_of_getElem? hq)
      refine ⟨u, hu, ?_⟩
      rw [hri, hc]
      simp only [RelP]
      rcases hur.2 with ⟨rfl, hz⟩ | ⟨gb, cap', cur, rfl, hbase, hgb, r1, r2, r3, r4⟩
      · exact ⟨rfl, none, 0, by simp [hz], by simp [hz], by simp only [List.length_map]; omega, fun h0 => by simp [hz] at h0⟩
      · refine ⟨rfl, some ⟨gb, 0, none⟩, cap', by simp, by simpa using r1, by simp only [List.length_map]; omega, fun _ => ⟨gb, 0, rfl, hR' gb cur hbase hgb, fun i' hi' j hj => ?_⟩⟩
        have hj0 : j = 0 := by omega
        subst hj0
        have hi2 : i' < q.length := by simpa using hi'
        refine ⟨.int .i64 (q[i'] : Nat), ?_, rfl, ?_⟩
        · have h5 : (cur.toList.take (q.length * 1))[i']? = (intsV q)[i']? := by rw [r4]
          rw [List.getElem?_take, if_pos (by omega), Array.getElem?_toList] at h5
          simp only [World.cell?, hgb]
          rw [show 0 + i' * 1 + 0 = i' by omega]
          simp only [Option.isSome_none, Bool.false_eq_true, if_false]
          rw [h5]
          unfold intsV
          rw [List.getElem?_map, List.getElem?_eq_getElem hi2]; rfl
        · simp [List.getD_eq_getElem?_getD, hi2]
    rcases hown.2 with ⟨rfl, hz⟩ | ⟨gb, cap', cur, rfl, hbase, hgb, r1, r2, r3, r4⟩
    · have hy0 : rs = [] := List.eq_nil_of_length_eq_zero hz
      subst hy0
      refine ⟨_, fun i => if i = 0 then some none else none, rfl, hbel, ?_, ?_, ?_, ?_, ?_⟩
      · intro i b hb
        cases i with
        | zero =>
          simp at hb
          subst hb
          exact ⟨0, by simp [Elem.cR], by omega, by omega, .inl ⟨rfl, rfl⟩⟩
        | succ i => simp at hb
      · simp only [RelA, RelL, RelP]
        exact ⟨_, rfl, .inl ⟨by simp, by simp, by simp, by first | trivial | rfl⟩, rfl, trivial⟩
      · intro i b g c hb hi
        cases i with
        | zero => simp at hi
        | succ i => simp at hb
      · intro i j b b' g c c' hb hb' hi hj
        cases i with
        | zero => simp at hi
        | succ i => simp at hb
      · intro i x hi
        cases i with
        | zero => simp
        | succ i => simp at hi
    · refine ⟨_, fun i => if i = 0 then some (some (gb, ⟨cap', 0⟩)) else none, rfl, hbel, ?_, ?_, ?_, ?_, ?_⟩
      · intro i b hb
        cases i with
        | zero =>
          simp at hb
          subst hb
          refine ⟨rs.length, by rw [RE.cR_length, hs'], by omega, by omega, .inr ⟨gb, cap', 0, cur, rfl, hgb, by rw [r3]; omega, by omega, r2, ?_, ?_⟩⟩
          · rw [List.drop_zero, r4]
            refine RelL.of_get (by rw [RE.cR_length, hs', hwl]; omega) fun k x u hk hu => ?_
            have hkl : k < rs.length := by
              have := (List.getElem?_eq_some_iff.1 hk).1
              rw [RE.cR_length, hs'] at this; omega
            have hg := RE.cR_get rs (i := k) (j := 0) hkl (by rw [hs']; omega)
            rw [hs', Nat.mul_one, Nat.add_zero] at hg
            rw [hg] at hk
            cases hk
            obtain ⟨u', hu', _, hrel⟩ := hone k hkl (fun k => (al = true ∧ R k) ∨ (w.heap.size ≤ k ∧ k < w'.heap.size ∧ ∀ (i : Nat) (b : Blk) (c : Cp), ([Blk.row 30 1 (RE.cR rs)] : List Blk)[i]? = some b → (if i = 0 then some (some (gb, (⟨cap', 0⟩ : Cp))) else none) ≠ some (some (k, c)))) (fun k cs hk1 hk2 => .inr ⟨hk1, (Array.getElem?_eq_some_iff.1 hk2).1, fun i b c hb => by
                cases i with
                | zero =>
                  rw [if_pos rfl]
                  intro e
                  simp only [Option.some.injEq, Prod.mk.injEq] at e
                  rw [← e.1, hgb] at hk2
                  simp at hk2
                | succ i => simp at hb⟩)
            rw [hu'] at hu
            cases hu
            simp only [RelA]
            exact hrel
          · rw [List.drop_zero, r4]
            intro x hx
            obtain ⟨k, hk⟩ := List.getElem?_of_mem hx
            have hkl : k < rs.length := by have := (List.getElem?_eq_some_iff.1 hk).1; omega
            obtain ⟨u', hu', hu1, _⟩ := hone k hkl (fun _ => True) (fun _ _ _ _ => trivial)
            rw [hk] at hu'
            cases hu'
            exact hu1
        | succ i => simp at hb
      · simp only [RelA, RelL, RelP]
        exact ⟨_, rfl, .inr ⟨gb, ⟨cap', 0⟩, some ⟨gb, 0, none⟩, by simp, by simp, by show 0 + rs.length ≤ cap'; omega, fun _ => by simp⟩, rfl, trivial⟩
      · intro i b g c hb hi
        cases i with
        | zero =>
          simp at hi
          rw [← hi.1]; exact hbase
        | succ i => simp at hb
      · intro i j b b' g c c' hb hb' hi hj
        cases i with
        | zero => cases j with
          | zero => rfl
          | succ j => simp at hb'
        | succ i => simp at hb
      · intro i x hi
        cases i with
        | zero => simp
        | succ i => simp at hi

end Go.Proofs
