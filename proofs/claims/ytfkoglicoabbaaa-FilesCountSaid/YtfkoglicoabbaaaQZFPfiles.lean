import Derived.Test.YtfkoglicoabbaaaQZFM
import Derived.Test.YtfkoglicoabbaaaQFA
set_option linter.unusedVariables false
set_option linter.unusedSimpArgs false
namespace Go.Proofs.Ytfkoglicoabbaaa
open Go Go.Ab Go.Fp
theorem alive : keep_alive22 = some true := by decide +kernel
def stOf (a : List Api_FileOp) : St := run (a.map fp_op) s0
def ansOf (a : List Api_FileOp) : List Api_FileAns := (answers (a.map fp_op) s0).map fp_ans
def tailOf (a b : List Api_FileOp) : List Api_FileAns := (answers (b.map fp_op) (stOf a)).map fp_ans
def cells (s : St) : Nat → Nat → Int := fun p fd => cell s p fd
theorem stOf_inv (a : List Api_FileOp) : Fp.Inv (stOf a) := inv_run _ inv_s0
theorem ansOf_length (a : List Api_FileOp) : (ansOf a).length = a.length := by simp [ansOf, answers_length]
theorem tailOf_length (a b : List Api_FileOp) : (tailOf a b).length = b.length := by simp [tailOf, answers_length]
theorem play_eq {a : List Api_FileOp} (hl : a.length ≤ 8796093022208) (hm : ∀ y ∈ a, y.Most ≤ 9223372036854775807) : files_Play a = some (ansOf a, cells (stOf a)) := by
  unfold files_Play
  rw [if_pos ⟨hl, List.all_eq_true.2 fun y hy => decide_eq_true (hm y hy)⟩]
  rfl
theorem stOf_app (a b : List Api_FileOp) : stOf (a ++ b) = run (b.map fp_op) (stOf a) := by
  unfold stOf; rw [List.map_append, run_append]
theorem ansOf_app (a b : List Api_FileOp) : ansOf (a ++ b) = ansOf a ++ tailOf a b := by
  unfold ansOf tailOf stOf; rw [List.map_append, answers_append, List.map_append]
theorem play_app {a b : List Api_FileOp} (hl : a.length + b.length ≤ 8796093022208) (hm : ∀ y ∈ a, y.Most ≤ 9223372036854775807) (hb : ∀ y ∈ b, y.Most ≤ 9223372036854775807) :
    files_Play (a ++ b) = some (ansOf a ++ tailOf a b, cells (run (b.map fp_op) (stOf a))) := by
  rw [play_eq (by simpa using hl) (fun y hy => by rcases List.mem_append.1 hy with h | h; exact hm y h; exact hb y h), ansOf_app, stOf_app]
theorem clone_eq {a : List Api_FileOp} (h : a.length * 56 ≤ 140737488355328) : slices_Clone_api_FileOp a = some a := by unfold slices_Clone_api_FileOp; rw [if_pos h]
theorem app_at {a : List Api_FileOp} {l : List Api_FileAns} {k m : Nat} (hm : m = a.length + k) {x : Api_FileAns} (hx : l[k]? = some x) : (ansOf a ++ l).getD (0 + m) ⟨0, 0⟩ = x := by
  rw [List.getD_eq_getElem?_getD, List.getElem?_append_right (by rw [ansOf_length]; omega), ansOf_length, show 0 + m - a.length = k by omega, hx]; rfl
theorem app_len {a : List Api_FileOp} {l : List Api_FileAns} : (ansOf a ++ l).length = a.length + l.length := by rw [List.length_append, ansOf_length]
theorem tail_one (a : List Api_FileOp) (x : Api_FileOp) : tailOf a [x] = [fp_ans (doOp (stOf a) (fp_op x)).2] := rfl
theorem run_one (s : St) (x : Api_FileOp) : run ([x].map fp_op) s = (doOp s (fp_op x)).1 := rfl
theorem least_l1 {a0 : List Api_FileOp} {a1 : Api_FileOp} {F G : Nat → Nat → Int} {L : List Api_FileAns} {v : Int} (hL : L.length = a0.length + 1) (hv : (L.getD (0 + a0.length) ⟨0, 0⟩).Value = v) (hp0 : 0 ≤ a1.Proc) (hp1 : a1.Proc < 4) (hv0 : 0 ≤ v) (hv1 : v < 16)
    (h1 : ∀ fd, fd < v.toNat → 0 ≤ F a1.Proc.toNat fd) (h2 : F a1.Proc.toNat v.toNat < 0) (h3 : ∀ fd, fd ≠ v.toNat → G a1.Proc.toNat fd = F a1.Proc.toNat fd) (h4 : 0 ≤ G a1.Proc.toNat v.toNat) (A : List Api_FileAns) :
    ∀ (n k : Nat), k ≤ 16 → 16 - k < n → keep_FilesLeast_l1 a0 a1 (A, F) (L, G) n k = some true
  | 0, k, _, h => by omega
  | n + 1, k, hk, h => by
    have hi : 0 ≤ (((a0.length : Nat) : Int) : Int) ∧ ((a0.length : Nat) : Int) < ((L.length : Nat) : Int) := by omega
    have hp : 0 ≤ (a1.Proc : Int) ∧ a1.Proc < ((4 : Nat) : Int) := by omega
    unfold keep_FilesLeast_l1
    by_cases hlt : k < 16
    · have ih := least_l1 hL hv hp0 hp1 hv0 hv1 h1 h2 h3 h4 A n (k + 1) (by omega) (by omega)
      have hk16 : 0 ≤ (((k : Nat) : Int) : Int) ∧ ((k : Nat) : Int) < ((16 : Nat) : Int) := by omega
      rw [show decide ((((k : Nat) : Int) : Int) < 16) = true by simp; omega, cond_true, if_pos hk16, if_pos hi, if_pos (fun _ => hi), if_pos (fun _ => hi), if_pos (fun _ => hp), if_pos (fun _ => hk16)]
      simp only [hv]
      have c1 : ((decide ((((k : Nat) : Int) : Int) < v)) && (decide ((F (Int.toNat a1.Proc) k : Int) < 0))) = false := by
        by_cases hc : (k : Int) < v
        · have := h1 k (by omega)
          simp; omega
        · simp; omega
      have c2 : (((((k : Nat) : Int) : Int) == v) && (decide ((F (Int.toNat a1.Proc) k : Int) ≥ 0))) = false := by
        by_cases hc : (k : Int) = v
        · have : k = v.toNat := by omega
          rw [this]; simp; omega
        · simp [hc]
      have c3 : (((((k : Nat) : Int) : Int) != v) && ((G (Int.toNat a1.Proc) k : Int) != (F (Int.toNat a1.Proc) k))) = false := by
        by_cases hc : (k : Int) = v
        · simp [hc]
        · rw [h3 k (by omega)]; simp
      rw [c1, c2, c3]
      exact ih
    · have h16 : k = 16 := by omega
      subst h16
      rw [show decide ((((16 : Nat) : Int) : Int) < 16) = false by simp, cond_false, if_pos hi, if_pos hp]
      simp only [hv]
      rw [if_pos (by omega), show decide ((G (Int.toNat a1.Proc) (Int.toNat v) : Int) ≥ 0) = true by simpa using h4]
theorem most_of {a : List Api_FileOp} (h : ∀ y ∈ a, Ok_Api_FileOp y) : ∀ y ∈ a, y.Most ≤ 9223372036854775807 := fun y hy => by have := h y hy; unfold Ok_Api_FileOp at this; omega
theorem FilesLeast_true (a0 : List Api_FileOp) (a1 : Api_FileOp) (h : a0.length * 56 ≤ 140737488351232 ∧ ∀ y ∈ a0, Ok_Api_FileOp y) (h1 : Ok_Api_FileOp a1) : keep_FilesLeast a0 a1 = some true := by
  have hm := most_of h.2
  have hm1 : ∀ y ∈ [a1], y.Most ≤ 9223372036854775807 := fun y hy => by simp at hy; subst hy; unfold Ok_Api_FileOp at h1; omega
  unfold keep_FilesLeast
  rw [alive]
  simp only [Option.bind_some, Bool.not_true, cond_false]
  by_cases hk : a1.Kind = 1 ∨ a1.Kind = 2
  · rw [show (((a1.Kind : Int) != 1) && ((a1.Kind : Int) != 2)) = false by rcases hk with h | h <;> simp [h], cond_false, play_eq (by omega) hm, clone_eq (by omega)]
    simp only [Option.bind_some]
    rw [if_pos (by simp; omega), play_app (by simp; omega) hm hm1]
    simp only [Option.bind_some]
    rw [tail_one, run_one]
    obtain ⟨L, hL⟩ : ∃ L, L = ansOf a0 ++ [fp_ans (doOp (stOf a0) (fp_op a1)).2] := ⟨_, rfl⟩
    have hl : L.length = a0.length + 1 := by rw [hL, app_len]; rfl
    have hx : L.getD (0 + a0.length) ⟨0, 0⟩ = fp_ans (doOp (stOf a0) (fp_op a1)).2 := by rw [hL]; exact app_at (k := 0) (by omega) rfl
    rw [← hL]
    clear hL
    have hi : 0 ≤ (((a0.length : Nat) : Int) : Int) ∧ ((a0.length : Nat) : Int) < ((L.length : Nat) : Int) := by omega
    have hw : ((((L.length : Nat) : Int) : Int) != (IntKind.i64.wrap (((a0.length : Nat) : Int) + 1))) = false := by rw [wrap_id (by omega) (by omega), hl]; simp
    have hw2 : ((((L.length : Nat) : Int) : Int) == (IntKind.i64.wrap (((a0.length : Nat) : Int) + 1))) = true := by rw [wrap_id (by omega) (by omega), hl]; simp
    rw [if_pos (fun _ => hi), hw, Bool.false_or]
    by_cases he : (doOp (stOf a0) (fp_op a1)).2.1 = 0
    · rw [show (((L.getD (0 + a0.length) (⟨0, 0⟩ : Api_FileAns)).Err : Int) != 0) = false by rw [hx]; simp [fp_ans, he], cond_false]
      obtain ⟨p0, p1, v0, v1, q1, q2, q3, q4⟩ := least (stOf_inv a0) (o := fp_op a1) hk he
      rw [if_pos (fun _ => hi), if_pos (fun _ => hi)]
      have hv : (L.getD (0 + a0.length) (⟨0, 0⟩ : Api_FileAns)).Value = (doOp (stOf a0) (fp_op a1)).2.2 := by rw [hx]; rfl
      have p0 : 0 ≤ a1.Proc := p0
      have p1 : a1.Proc < 4 := p1
      rw [hv, show ((((decide ((a1.Proc : Int) < 0)) || (decide ((a1.Proc : Int) ≥ 4))) || (decide (((doOp (stOf a0) (fp_op a1)).2.2 : Int) < 0))) || (decide (((doOp (stOf a0) (fp_op a1)).2.2 : Int) ≥ 16))) = false by simp; omega, cond_false, if_pos (by omega)]
      exact least_l1 hl hv p0 p1 v0 v1 q1 q2 q3 q4 _ FUEL 0 (by omega) (fuel_gt (by omega))
    · obtain ⟨d1, d2⟩ := do_err he
      rw [show (((L.getD (0 + a0.length) (⟨0, 0⟩ : Api_FileAns)).Err : Int) != 0) = true by rw [hx]; simpa [fp_ans] using he, cond_true, d1, if_pos (fun _ => hi)]
      have hv : (L.getD (0 + a0.length) (⟨0, 0⟩ : Api_FileAns)).Value = 0 := by rw [hx]; exact d2
      simp only [hw2, hv, beq_self_eq_true, Bool.and_true, Bool.true_and]
  · rw [show (((a1.Kind : Int) != 1) && ((a1.Kind : Int) != 2)) = true by simp; omega, cond_true]
theorem FilesShared_true (a0 : List Api_FileOp) (a1 a2 a3 a4 : Int) (h : a0.length * 56 ≤ 140737488351232 ∧ ∀ y ∈ a0, Ok_Api_FileOp y) (b1 : -9223372036854775808 ≤ a1 ∧ a1 ≤ 9223372036854775807) (b2 : -9223372036854775808 ≤ a2 ∧ a2 ≤ 9223372036854775807)
    (b3 : -9223372036854775808 ≤ a3 ∧ a3 ≤ 9223372036854775807) (b4 : -9223372036854775808 ≤ a4 ∧ a4 ≤ 9223372036854775807) : keep_FilesShared a0 a1 a2 a3 a4 = some true := by
  have hm := most_of h.2
  have hi := stOf_inv a0
  unfold keep_FilesShared
  rw [alive]
  simp only [Option.bind_some, Bool.not_true, cond_false]
  rw [clone_eq (by omega)]
  simp only [Option.bind_some, keep_FilesShared_1]
  obtain ⟨s1, hs1⟩ : ∃ s1, s1 = doOp (stOf a0) ⟨2, a1, 0, 0, a2, 0, 0⟩ := ⟨_, rfl⟩
  obtain ⟨s2, hs2⟩ : ∃ s2, s2 = doOp s1.1 ⟨5, a1, 0, 0, a2, 0, a3⟩ := ⟨_, rfl⟩
  have e9 : files_Play (a0 ++ [(⟨2, a1, 0, 0, a2, 0, 0⟩ : Api_FileOp), ⟨5, a1, 0, 0, a2, 0, a3⟩]) = some (ansOf a0 ++ [fp_ans s1.2, fp_ans s2.2], cells s2.1) := by
    rw [play_app (by simp; omega) hm (fun y hy => by simp at hy; rcases hy with rfl | rfl <;> simp; omega)]
    subst hs1 hs2; rfl
  rw [if_pos (by simp; omega), e9]
  simp only [Option.bind_some]
  obtain ⟨L, hL⟩ : ∃ L, L = ansOf a0 ++ [fp_ans s1.2, fp_ans s2.2] := ⟨_, rfl⟩
  have hl : L.length = a0.length + 2 := by rw [hL, app_len]; rfl
  have hx0 : L.getD (0 + a0.length) ⟨0, 0⟩ = fp_ans s1.2 := by rw [hL]; exact app_at (k := 0) (by omega) rfl
  have w1 : IntKind.i64.wrap (((a0.length : Nat) : Int) + 1) = ((a0.length + 1 : Nat) : Int) := by rw [wrap_id (by omega) (by omega)]; omega
  have w2 : IntKind.i64.wrap (((a0.length : Nat) : Int) + 2) = ((a0.length + 2 : Nat) : Int) := by rw [wrap_id (by omega) (by omega)]; omega
  have w3 : IntKind.i64.wrap (((a0.length : Nat) : Int) + 3) = ((a0.length + 3 : Nat) : Int) := by rw [wrap_id (by omega) (by omega)]; omega
  have hx1 : L.getD (0 + (a0.length + 1)) ⟨0, 0⟩ = fp_ans s2.2 := by rw [hL]; exact app_at (k := 1) (by omega) rfl
  rw [← hL]
  simp only [w1, w2, w3, Int.toNat_natCast, hl, hx0, hx1]
  have hi0 : 0 ≤ (((a0.length : Nat) : Int) : Int) ∧ ((a0.length : Nat) : Int) < ((a0.length + 2 : Nat) : Int) := by omega
  have hi1 : 0 ≤ (((a0.length + 1 : Nat) : Int) : Int) ∧ ((a0.length + 1 : Nat) : Int) < ((a0.length + 2 : Nat) : Int) := by omega
  rw [if_pos (fun _ => hi0), if_pos (fun _ => hi1)]
  by_cases hc : ((((((((((a0.length + 2 : Nat) : Int) : Int) != (((a0.length + 2 : Nat) : Int))) || (((fp_ans s1.2).Err : Int) != 0)) || (((fp_ans s2.2).Err : Int) != 0)) || (decide ((a4 : Int) < 1))) || (decide ((a3 : Int) > 1125899906842624))) || (decide ((a4 : Int) > 1125899906842624)))) = true
  · rw [hc, cond_true]; simp
  · have hc' := Bool.eq_false_iff.2 hc
    rw [hc', cond_false]
    simp [fp_ans] at hc
    obtain ⟨⟨⟨⟨c1, c2⟩, c3⟩, c4⟩, c5⟩ := hc
    have he1 : s1.2.1 = 0 := c1
    have he2 : s2.2.1 = 0 := c2
    have hr := read_inv (o := ⟨5, a1, 0, 0, a2, 0, a3⟩) (s := s1.1) rfl (by rw [← hs2]; exact he2)
    obtain ⟨_, _, _, _, ha3⟩ := hr
    have ha3 : 1 ≤ a3 := ha3
    have hsh := shared hi (proc := a1) (fd := a2) (a := a3) (b := a4) c3 (by rw [← hs1]; exact he1) (by rw [← hs1, ← hs2]; exact he2)
    rw [← hs1, ← hs2] at hsh
    have hsv : (fp_ans s1.2).Value = s1.2.2 := rfl
    rw [if_pos hi0]
    simp only [hsv]
    obtain ⟨s3, hs3⟩ : ∃ s3, s3 = doOp s2.1 ⟨5, a1, 0, 0, s1.2.2, 0, a4⟩ := ⟨_, rfl⟩
    obtain ⟨s4, hs4⟩ : ∃ s4, s4 = doOp (stOf a0) ⟨5, a1, 0, 0, a2, 0, a3 + a4⟩ := ⟨_, rfl⟩
    rw [← hs3, ← hs4] at hsh
    have e39 : files_Play (a0 ++ [(⟨2, a1, 0, 0, a2, 0, 0⟩ : Api_FileOp), ⟨5, a1, 0, 0, a2, 0, a3⟩, ⟨5, a1, 0, 0, s1.2.2, 0, a4⟩]) = some (ansOf a0 ++ [fp_ans s1.2, fp_ans s2.2, fp_ans s3.2], cells s3.1) := by
      rw [play_app (by simp; omega) hm (fun y hy => by simp at hy; rcases hy with rfl | rfl | rfl <;> simp <;> omega)]
      subst hs3 hs2; rw [hs1]; rfl
    have e46 : files_Play (a0 ++ [(⟨5, a1, 0, 0, a2, 0, a3 + a4⟩ : Api_FileOp)]) = some (ansOf a0 ++ [fp_ans s4.2], cells s4.1) := by
      rw [play_app (by simp; omega) hm (fun y hy => by simp at hy; subst hy; simp; omega)]
      subst hs4; rfl
    rw [if_pos (by simp; omega), e39]
    simp only [Option.bind_some]
    rw [wrap_id (x := a3 + a4) (by omega) (by omega), if_pos (by simp; omega), e46]
    simp only [Option.bind_some]
    have y1 : (ansOf a0 ++ [fp_ans s1.2, fp_ans s2.2, fp_ans s3.2]).getD (0 + (a0.length + 1)) ⟨0, 0⟩ = fp_ans s2.2 := app_at (k := 1) (by omega) rfl
    have y2 : (ansOf a0 ++ [fp_ans s1.2, fp_ans s2.2, fp_ans s3.2]).getD (0 + (a0.length + 2)) ⟨0, 0⟩ = fp_ans s3.2 := app_at (k := 2) (by omega) rfl
    have y3 : (ansOf a0 ++ [fp_ans s4.2]).getD (0 + a0.length) ⟨0, 0⟩ = fp_ans s4.2 := app_at (k := 0) (by omega) rfl
    have l1 : (ansOf a0 ++ [fp_ans s1.2, fp_ans s2.2, fp_ans s3.2]).length = a0.length + 3 := by rw [app_len]; rfl
    have l2 : (ansOf a0 ++ [fp_ans s4.2]).length = a0.length + 1 := by rw [app_len]; rfl
    simp only [y1, y2, y3, l1, l2]
    rw [if_pos (fun _ => by omega), if_pos (fun _ => by omega), if_pos (fun _ => by omega)]
    have z2 : (fp_ans s2.2).Value = s2.2.2 := rfl
    have z3 : (fp_ans s3.2).Value = s3.2.2 := rfl
    have z4 : (fp_ans s4.2).Value = s4.2.2 := rfl
    rw [z2, z3, z4, hsh.1, wrap_id (by omega) (by omega)]
    simp
theorem FilesClosed_true (a0 : List Api_FileOp) (a1 a2 : Int) (h : a0.length * 56 ≤ 140737488351232 ∧ ∀ y ∈ a0, Ok_Api_FileOp y) (b1 : -9223372036854775808 ≤ a1 ∧ a1 ≤ 9223372036854775807) (b2 : -9223372036854775808 ≤ a2 ∧ a2 ≤ 9223372036854775807) : keep_FilesClosed a0 a1 a2 = some true := by
  have hm := most_of h.2
  have hi := stOf_inv a0
  unfold keep_FilesClosed
  rw [alive]
  simp only [Option.bind_some, Bool.not_true, cond_false]
  rw [play_eq (by omega) hm, clone_eq (by omega)]
  simp only [Option.bind_some]
  obtain ⟨s1, hs1⟩ : ∃ s1, s1 = doOp (stOf a0) ⟨4, a1, 0, 0, a2, 0, 0⟩ := ⟨_, rfl⟩
  obtain ⟨s2, hs2⟩ : ∃ s2, s2 = doOp s1.1 ⟨4, a1, 0, 0, a2, 0, 0⟩ := ⟨_, rfl⟩
  have e9 : files_Play (a0 ++ [(⟨4, a1, 0, 0, a2, 0, 0⟩ : Api_FileOp), ⟨4, a1, 0, 0, a2, 0, 0⟩]) = some (ansOf a0 ++ [fp_ans s1.2, fp_ans s2.2], cells s2.1) := by
    rw [play_app (by simp; omega) hm (fun y hy => by simp at hy; subst hy; simp)]
    subst hs1 hs2; rfl
  have hcl := closed hi (o := ⟨4, a1, 0, 0, a2, 0, 0⟩) rfl
  rw [← hs1, ← hs2] at hcl
  obtain ⟨k1, k2, k3, k4⟩ := hcl
  rw [if_pos (by simp; omega), e9]
  simp only [Option.bind_some]
  rw [k2]
  have w1 : IntKind.i64.wrap (((a0.length : Nat) : Int) + 1) = ((a0.length + 1 : Nat) : Int) := by rw [wrap_id (by omega) (by omega)]; omega
  have w2 : IntKind.i64.wrap (((a0.length : Nat) : Int) + 2) = ((a0.length + 2 : Nat) : Int) := by rw [wrap_id (by omega) (by omega)]; omega
  have x0 : (ansOf a0 ++ [fp_ans s1.2, fp_ans s2.2]).getD (0 + a0.length) ⟨0, 0⟩ = fp_ans s1.2 := app_at (k := 0) (by omega) rfl
  have x1 : (ansOf a0 ++ [fp_ans s1.2, fp_ans s2.2]).getD (0 + (a0.length + 1)) ⟨0, 0⟩ = fp_ans s2.2 := app_at (k := 1) (by omega) rfl
  have l1 : (ansOf a0 ++ [fp_ans s1.2, fp_ans s2.2]).length = a0.length + 2 := by rw [app_len]; rfl
  simp only [w1, w2, Int.toNat_natCast, x0, x1, l1]
  rw [if_pos (fun _ => by omega), show ((((((a0.length + 2 : Nat) : Int) : Int) != (((a0.length + 2 : Nat) : Int))) || (((fp_ans s2.2).Err : Int) == 0))) = false by simp [fp_ans]; exact k1, cond_false, if_pos (by omega)]
  by_cases he : s1.2.1 = 0
  · rw [show (((fp_ans s1.2).Err : Int) != 0) = false by simp [fp_ans, he], cond_false]
    obtain ⟨p0, p1, f0, f1, v0, hcell⟩ := k4 he
    have p0 : 0 ≤ a1 := p0
    have p1 : a1 < 4 := p1
    have f0 : 0 ≤ a2 := f0
    have f1 : a2 < 16 := f1
    have hv : (fp_ans s1.2).Value = s1.2.2 := rfl
    rw [hv, if_pos (fun _ => by omega), show (((((decide ((a1 : Int) < 0)) || (decide ((a1 : Int) ≥ 4))) || (decide ((a2 : Int) < 0))) || (decide ((a2 : Int) ≥ 16))) || (decide ((s1.2.2 : Int) < 0))) = false by simp; omega, cond_false, if_pos (by omega), if_pos (by omega)]
    have hF : (upd (cells (stOf a0)) (Int.toNat a1) (upd (cells (stOf a0) (Int.toNat a1)) (Int.toNat a2) (-1))) = cells s1.1 := by
      funext p fd
      have := hcell p fd
      simp only [cells, upd]
      rw [this]
      by_cases hp : p = a1.toNat
      · subst hp
        by_cases hf : fd = a2.toNat
        · subst hf; simp [cells, upd]
        · simp [hf, cells, upd]
      · simp [hp, cells, upd]
    simp only [hF, beq_self_eq_true, Bool.and_true]
  · rw [show (((fp_ans s1.2).Err : Int) != 0) = true by simpa [fp_ans] using he, cond_true, k3 he]
    simp only [beq_self_eq_true, Bool.and_true]
end Go.Proofs.Ytfkoglicoabbaaa

