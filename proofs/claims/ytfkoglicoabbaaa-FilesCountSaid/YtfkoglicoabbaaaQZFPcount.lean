import Derived.Test.YtfkoglicoabbaaaQZFPfiles
set_option linter.unusedVariables false
set_option linter.unusedSimpArgs false
set_option linter.unusedSectionVars false
namespace Go.Proofs.Ytfkoglicoabbaaa
open Go Go.Ab Go.Fp
def okA (l : List Api_FileAns) : List Int := (l.filter fun x => x.Err == 0).map (·.Value)
theorem okA_eq (l : List (Int × Int)) : okA (l.map fp_ans) = okVals l := by
  unfold okA okVals
  induction l with
  | nil => rfl
  | cons x l ih => by_cases h : x.1 = 0 <;> simp_all [fp_ans]
theorem okA_length (l : List Api_FileAns) : (okA l).length ≤ l.length := by
  unfold okA; rw [List.length_map]; exact List.length_filter_le _ _
def opO (a1 : Int) : Api_FileOp := ⟨1, a1, 0, 0, 0, 0, 0⟩
def opD (a1 v : Int) : Api_FileOp := ⟨2, a1, 0, 0, v, 0, 0⟩
def opC (a1 fd : Int) : Api_FileOp := ⟨4, a1, 0, 0, fd, 0, 0⟩
def batch (a1 v : Int) (m : Nat) : List Api_FileOp := opO a1 :: List.replicate m (opD a1 v)
theorem batch_length (a1 v : Int) (m : Nat) : (batch a1 v m).length = m + 1 := by simp [batch]
theorem batch_succ (a1 v : Int) (m : Nat) : batch a1 v m ++ [opD a1 v] = batch a1 v (m + 1) := by
  unfold batch
  rw [List.cons_append, ← List.replicate_succ']
theorem batch_most (a1 v : Int) (m : Nat) : ∀ y ∈ batch a1 v m, y.Most ≤ 9223372036854775807 := by
  intro y hy
  unfold batch at hy
  rcases List.mem_cons.1 hy with rfl | hy
  · show (0 : Int) ≤ _; omega
  · rw [(List.mem_replicate.1 hy).2]; show (0 : Int) ≤ _; omega
section
variable {a0 : List Api_FileOp} {a1 a2 : Int} (hlen : a0.length * 56 ≤ 140737488351232) (hm : ∀ y ∈ a0, y.Most ≤ 9223372036854775807)
include hlen hm
theorem count_l4 {fds : List Int} {l34 : List Api_FileOp} {L : List Api_FileAns} {G : Nat → Nat → Int} {q : Nat} (hq : q ≤ 100000000000000) (hl34 : l34.length = q + fds.length) (hf : fds.length ≤ 22) (hL : L.length = l34.length)
    (hx : ∀ k, k < fds.length → L.getD (q + k) ⟨0, 0⟩ = ⟨0, ((fds.length - 1 - k : Nat) : Int)⟩) : ∀ (n k : Nat), k ≤ fds.length → fds.length - k < n → keep_FilesCount_l4 fds l34 (L, G) n k = some true
  | 0, k, _, h => by omega
  | n + 1, k, hk, h => by
    unfold keep_FilesCount_l4
    have hw : Int.toNat (IntKind.i64.wrap (((l34.length : Nat) : Int) - ((fds.length : Nat) : Int))) = q := by rw [wrap_id (by omega) (by omega)]; omega
    simp only [hw, hL]
    by_cases hlt : k < fds.length
    · have ih := count_l4 (G := G) hq hl34 hf hL hx n (k + 1) (by omega) (by omega)
      rw [show decide ((((k : Nat) : Int) : Int) < (((l34.length - q) : Nat) : Int)) = true by simp; omega, cond_true]
      rw [show (0 + q) + k = q + k by omega, hx k hlt]
      have hv : (IntKind.i64.wrap ((IntKind.i64.wrap (((fds.length : Nat) : Int) - 1)) - ((k : Nat) : Int))) = ((fds.length - 1 - k : Nat) : Int) := by
        rw [wrap_id (x := (fds.length : Int) - 1) (by omega) (by omega), wrap_id (by omega) (by omega)]; omega
      rw [hv]
      simp only [bne_self_eq_false, Bool.or_false, cond_false]
      exact ih
    · rw [show decide ((((k : Nat) : Int) : Int) < (((l34.length - q) : Nat) : Int)) = false by simp; omega, cond_false]
theorem count_l3 {v : Int} {m : Nat} (hmm : m ≤ 20) {fds : List Int} (hf : fds.length ≤ m + 1) (hne : fds ≠ [])
    (hC : ∀ i, i < fds.length → (answers (fds.map fun fd => (⟨4, a1, 0, 0, fd, 0, 0⟩ : Fp.Op)) (run ((batch a1 v m).map fp_op) (stOf a0)))[i]? = some (0, ((fds.length - 1 - i : Nat) : Int))) (l19 : List Api_FileOp) :
    ∀ (n k : Nat), k ≤ fds.length → fds.length - k < n → keep_FilesCount_l3 a1 l19 fds n (a0 ++ batch a1 v m ++ (fds.take k).map (opC a1)) k = some true
  | 0, k, _, h => by omega
  | n + 1, k, hk, h => by
    unfold keep_FilesCount_l3
    have hb := batch_length a1 v m
    have hlk : (a0 ++ batch a1 v m ++ (fds.take k).map (opC a1)).length = a0.length + (m + 1) + k := by simp [hb]; omega
    by_cases hlt : k < fds.length
    · have ih := count_l3 hmm hf hne hC l19 n (k + 1) (by omega) (by omega)
      rw [show decide ((((k : Nat) : Int) : Int) < ((fds.length : Nat) : Int)) = true by simp; omega, cond_true, if_pos (by rw [hlk]; simp; omega)]
      have : a0 ++ batch a1 v m ++ (fds.take k).map (opC a1) ++ [(⟨4, a1, 0, 0, (fds.getD (0 + k) 0), 0, 0⟩ : Api_FileOp)] = a0 ++ batch a1 v m ++ (fds.take (k + 1)).map (opC a1) := by
        rw [List.take_succ_eq_append_getElem hlt, List.map_append, List.append_assoc (a0 ++ batch a1 v m)]
        simp [opC, List.getD_eq_getElem?_getD, hlt]
      rw [this]
      exact ih
    · have hke : k = fds.length := by omega
      subst hke
      rw [show decide ((((fds.length : Nat) : Int) : Int) < ((fds.length : Nat) : Int)) = false by simp, cond_false, List.take_length]
      rw [List.take_length] at hlk
      rw [List.append_assoc, play_app (by simp [hb]; omega) hm (fun y hy => by
        rcases List.mem_append.1 hy with h | h
        · exact batch_most _ _ _ y h
        · obtain ⟨fd, _, rfl⟩ := List.mem_map.1 h; show (0 : Int) ≤ _; omega)]
      simp only [Option.bind_some]
      rw [← List.append_assoc]
      have hT : tailOf a0 (batch a1 v m ++ fds.map (opC a1)) = tailOf a0 (batch a1 v m) ++ (answers (fds.map fun fd => (⟨4, a1, 0, 0, fd, 0, 0⟩ : Fp.Op)) (run ((batch a1 v m).map fp_op) (stOf a0))).map fp_ans := by
        unfold tailOf
        rw [List.map_append, answers_append, List.map_append, List.map_map]
        rfl
      have hTl : (tailOf a0 (batch a1 v m ++ fds.map (opC a1))).length = m + 1 + fds.length := by rw [tailOf_length]; simp [hb]
      have hL : (ansOf a0 ++ tailOf a0 (batch a1 v m ++ fds.map (opC a1))).length = (a0 ++ batch a1 v m ++ fds.map (opC a1)).length := by rw [app_len, hTl, hlk]; omega
      rw [hL]
      have hfl : 0 < fds.length := List.length_pos_iff.2 hne
      rw [show (((((a0 ++ batch a1 v m ++ fds.map (opC a1)).length : Nat) : Int) : Int) != (((a0 ++ batch a1 v m ++ fds.map (opC a1)).length : Nat) : Int)) = false by simp, Bool.false_or, show ((((fds.length : Nat) : Int) : Int) == 0) = false by simp; omega, cond_false]
      have hw : IntKind.i64.wrap ((((a0 ++ batch a1 v m ++ fds.map (opC a1)).length : Nat) : Int) - ((fds.length : Nat) : Int)) = ((a0.length + (m + 1) : Nat) : Int) := by rw [hlk, wrap_id (by omega) (by omega)]; omega
      rw [hw, if_pos (by omega), if_pos (by rw [hlk]; omega)]
      refine count_l4 hlen hm (q := a0.length + (m + 1)) (by omega) hlk (by omega) hL (fun k hk => ?_) FUEL 0 (by omega) (fuel_gt (by omega))
      have hx := hC k hk
      have : (tailOf a0 (batch a1 v m ++ fds.map (opC a1)))[m + 1 + k]? = some ⟨0, ((fds.length - 1 - k : Nat) : Int)⟩ := by
        rw [hT, List.getElem?_append_right (by rw [tailOf_length, hb]; omega), tailOf_length, hb, show m + 1 + k - (m + 1) = k by omega, List.getElem?_map, hx]
        rfl
      have h2 := app_at (a := a0) (k := m + 1 + k) (m := a0.length + (m + 1) + k) (by omega) this
      rwa [Nat.zero_add] at h2
theorem count_l2 {v : Int} {m : Nat} (hmm : m ≤ 20) (hne : okA (tailOf a0 (batch a1 v m)) ≠ [])
    (hC : ∀ i, i < (okA (tailOf a0 (batch a1 v m))).length → (answers ((okA (tailOf a0 (batch a1 v m))).map fun fd => (⟨4, a1, 0, 0, fd, 0, 0⟩ : Fp.Op)) (run ((batch a1 v m).map fp_op) (stOf a0)))[i]? = some (0, (((okA (tailOf a0 (batch a1 v m))).length - 1 - i : Nat) : Int))) (G : Nat → Nat → Int) :
    ∀ (n k : Nat), k ≤ m + 1 → m + 1 - k < n → keep_FilesCount_l2 a0 a1 (a0 ++ batch a1 v m) (ansOf a0 ++ tailOf a0 (batch a1 v m), G) n (okA ((tailOf a0 (batch a1 v m)).take k)) k = some true
  | 0, k, _, h => by omega
  | n + 1, k, hk, h => by
    unfold keep_FilesCount_l2
    have hTl : (tailOf a0 (batch a1 v m)).length = m + 1 := by rw [tailOf_length, batch_length]
    have hLl : (ansOf a0 ++ tailOf a0 (batch a1 v m)).length = a0.length + (m + 1) := by rw [app_len, hTl]
    have hmin : (if ((((ansOf a0 ++ tailOf a0 (batch a1 v m)).length : Nat) : Int) : Int) < ((a0.length : Nat) : Int) then (((ansOf a0 ++ tailOf a0 (batch a1 v m)).length : Nat) : Int) else ((a0.length : Nat) : Int)) = ((a0.length : Nat) : Int) := by rw [if_neg (by omega)]
    simp only [hmin, Int.toNat_natCast]
    by_cases hlt : k < m + 1
    · have ih := count_l2 hmm hne hC G n (k + 1) (by omega) (by omega)
      obtain ⟨x, hx⟩ : ∃ x, (tailOf a0 (batch a1 v m))[k]? = some x := ⟨_, List.getElem?_eq_getElem (by omega)⟩
      have hg : (ansOf a0 ++ tailOf a0 (batch a1 v m)).getD ((0 + a0.length) + k) (⟨0, 0⟩ : Api_FileAns) = x := by
        have := app_at (a := a0) (k := k) (m := a0.length + k) rfl hx
        rwa [← Nat.add_assoc] at this
      have hkl : k < (tailOf a0 (batch a1 v m)).length := by omega
      have htk : (tailOf a0 (batch a1 v m)).take (k + 1) = (tailOf a0 (batch a1 v m)).take k ++ [x] := by
        rw [List.take_succ_eq_append_getElem hkl]
        rw [List.getElem?_eq_getElem hkl] at hx
        simp only [Option.some.injEq] at hx
        rw [hx]
      rw [htk] at ih
      rw [show decide ((((k : Nat) : Int) : Int) < ((((ansOf a0 ++ tailOf a0 (batch a1 v m)).length - a0.length : Nat)) : Int)) = true by rw [hLl]; simp; omega, cond_true]
      simp only [hg]
      have hok : (okA ((tailOf a0 (batch a1 v m)).take k)).length ≤ k := Nat.le_trans (okA_length _) (by rw [List.length_take]; omega)
      by_cases he : x.Err = 0
      · rw [show ((x.Err : Int) == 0) = true by simp [he], cond_true, if_pos (by simp; omega)]
        have : okA ((tailOf a0 (batch a1 v m)).take k ++ [x]) = okA ((tailOf a0 (batch a1 v m)).take k) ++ [x.Value] := by
          unfold okA; simp [he]
        rw [← this]; exact ih
      · rw [show ((x.Err : Int) == 0) = false by simpa using he, cond_false]
        have : okA ((tailOf a0 (batch a1 v m)).take k ++ [x]) = okA ((tailOf a0 (batch a1 v m)).take k) := by
          unfold okA; simp [he]
        rw [this] at ih; exact ih
    · have hke : k = m + 1 := by omega
      subst hke
      rw [show decide ((((m + 1 : Nat) : Int) : Int) < ((((ansOf a0 ++ tailOf a0 (batch a1 v m)).length - a0.length : Nat)) : Int)) = false by rw [hLl]; simp, cond_false]
      rw [List.take_of_length_le (by omega)]
      have := count_l3 hlen hm (v := v) hmm (fds := okA (tailOf a0 (batch a1 v m))) (by have := okA_length (tailOf a0 (batch a1 v m)); omega) hne hC (a0 ++ batch a1 v m) FUEL 0 (by omega) (fuel_gt (by have := okA_length (tailOf a0 (batch a1 v m)); omega))
      simpa using this
theorem count_l1 {v : Int} {m : Nat} (ha2 : a2 = m) (hmm : m ≤ 20) (hne : okA (tailOf a0 (batch a1 v m)) ≠ [])
    (hC : ∀ i, i < (okA (tailOf a0 (batch a1 v m))).length → (answers ((okA (tailOf a0 (batch a1 v m))).map fun fd => (⟨4, a1, 0, 0, fd, 0, 0⟩ : Fp.Op)) (run ((batch a1 v m).map fp_op) (stOf a0)))[i]? = some (0, (((okA (tailOf a0 (batch a1 v m))).length - 1 - i : Nat) : Int)))
    {L : List Api_FileAns} (hL : L.length = a0.length + 1) (hv : (L.getD (0 + a0.length) ⟨0, 0⟩).Value = v) (r7 : List Api_FileOp) (G : Nat → Nat → Int) :
    ∀ (n j : Nat), j ≤ m → m - j < n → keep_FilesCount_l1 a0 a1 a2 r7 (L, G) n (a0 ++ batch a1 v j) (j : Int) = some true
  | 0, k, _, h => by omega
  | n + 1, j, hj, h => by
    unfold keep_FilesCount_l1
    have hbl : (a0 ++ batch a1 v j).length = a0.length + (j + 1) := by rw [List.length_append, batch_length]
    by_cases hlt : j < m
    · have ih := count_l1 ha2 hmm hne hC hL hv r7 G n (j + 1) (by omega) (by omega)
      rw [show decide (((j : Nat) : Int) < a2) = true by simp; omega, cond_true]
      simp only [hv, hL]
      rw [if_pos (by omega), if_pos (by rw [hbl]; simp; omega), wrap_id (by omega) (by omega)]
      have : a0 ++ batch a1 v j ++ [(⟨2, a1, 0, 0, v, 0, 0⟩ : Api_FileOp)] = a0 ++ batch a1 v (j + 1) := by rw [List.append_assoc, ← batch_succ]; rfl
      rw [this]
      exact ih
    · have hje : j = m := by omega
      subst hje
      rw [show decide (((j : Nat) : Int) < a2) = false by simp; omega, cond_false]
      rw [play_app (by rw [batch_length]; omega) hm (batch_most _ _ _)]
      simp only [Option.bind_some]
      have hLl : (ansOf a0 ++ tailOf a0 (batch a1 v j)).length = a0.length + (j + 1) := by rw [app_len, tailOf_length, batch_length]
      have hmin : (if ((((ansOf a0 ++ tailOf a0 (batch a1 v j)).length : Nat) : Int) : Int) < ((a0.length : Nat) : Int) then (((ansOf a0 ++ tailOf a0 (batch a1 v j)).length : Nat) : Int) else ((a0.length : Nat) : Int)) = ((a0.length : Nat) : Int) := by rw [if_neg (by omega)]
      simp only [hmin, Int.toNat_natCast]
      rw [if_pos (by omega), if_pos (by omega)]
      exact count_l2 hlen hm hmm hne hC _ FUEL 0 (by omega) (fuel_gt (by omega))
end
theorem FilesCount_true (a0 : List Api_FileOp) (a1 a2 : Int) (h : a0.length * 56 ≤ 140737488351232 ∧ ∀ y ∈ a0, Ok_Api_FileOp y) (b1 : -9223372036854775808 ≤ a1 ∧ a1 ≤ 9223372036854775807) (b2 : -9223372036854775808 ≤ a2 ∧ a2 ≤ 9223372036854775807) : keep_FilesCount a0 a1 a2 = some true := by
  have hm := most_of h.2
  have hi := stOf_inv a0
  unfold keep_FilesCount
  rw [alive]
  simp only [Option.bind_some, Bool.not_true, cond_false]
  by_cases hr : a2 < 0 ∨ 20 < a2
  · rw [show ((decide ((a2 : Int) < 0)) || (decide ((a2 : Int) > 20))) = true by simp; omega, cond_true]
  rw [show ((decide ((a2 : Int) < 0)) || (decide ((a2 : Int) > 20))) = false by simp; omega, cond_false, clone_eq (by omega)]
  simp only [Option.bind_some]
  obtain ⟨s1, hs1⟩ : ∃ s1, s1 = doOp (stOf a0) ⟨1, a1, 0, 0, 0, 0, 0⟩ := ⟨_, rfl⟩
  have e10 : files_Play (a0 ++ [(⟨1, a1, 0, 0, 0, 0, 0⟩ : Api_FileOp)]) = some (ansOf a0 ++ [fp_ans s1.2], cells s1.1) := by
    rw [play_app (by simp; omega) hm (fun y hy => by simp at hy; subst hy; simp)]
    subst hs1; rfl
  rw [if_pos (by simp; omega), e10]
  simp only [Option.bind_some]
  have w1 : IntKind.i64.wrap (((a0.length : Nat) : Int) + 1) = ((a0.length + 1 : Nat) : Int) := by rw [wrap_id (by omega) (by omega)]; omega
  have x0 : (ansOf a0 ++ [fp_ans s1.2]).getD (0 + a0.length) ⟨0, 0⟩ = fp_ans s1.2 := app_at (k := 0) (by omega) rfl
  have l1 : (ansOf a0 ++ [fp_ans s1.2]).length = a0.length + 1 := by rw [app_len]; rfl
  simp only [w1, x0, l1]
  rw [if_pos (fun _ => by omega)]
  by_cases he : s1.2.1 = 0
  · rw [show (((((a0.length + 1 : Nat) : Int) : Int) != (((a0.length + 1 : Nat) : Int))) || (((fp_ans s1.2).Err : Int) != 0)) = false by simp [fp_ans, he], cond_false]
    obtain ⟨m, hm2⟩ : ∃ m : Nat, a2 = m := ⟨a2.toNat, by omega⟩
    have hc := Fp.count hi (proc := a1) m (by rw [← hs1]; exact he)
    simp only [← hs1] at hc
    have hb : (batch a1 s1.2.2 m).map fp_op = (⟨1, a1, 0, 0, 0, 0, 0⟩ : Fp.Op) :: List.replicate m (⟨2, a1, 0, 0, s1.2.2, 0, 0⟩ : Fp.Op) := by
      unfold batch; rw [List.map_cons, List.map_replicate]; rfl
    have hok : okA (tailOf a0 (batch a1 s1.2.2 m)) = okVals (answers ((⟨1, a1, 0, 0, 0, 0, 0⟩ : Fp.Op) :: List.replicate m (⟨2, a1, 0, 0, s1.2.2, 0, 0⟩ : Fp.Op)) (stOf a0)) := by
      unfold tailOf; rw [okA_eq, hb]
    have := count_l1 h.1 hm (a1 := a1) (v := s1.2.2) (m := m) hm2 (by omega) (by rw [hok]; exact hc.1) (by rw [hok, hb]; exact hc.2) (L := ansOf a0 ++ [fp_ans s1.2]) l1 (by rw [x0]; rfl) a0 (cells s1.1) FUEL 0 (by omega) (fuel_gt (by omega))
    exact this
  · rw [show (((((a0.length + 1 : Nat) : Int) : Int) != (((a0.length + 1 : Nat) : Int))) || (((fp_ans s1.2).Err : Int) != 0)) = true by simpa [fp_ans] using he, cond_true]
    simp
end Go.Proofs.Ytfkoglicoabbaaa

