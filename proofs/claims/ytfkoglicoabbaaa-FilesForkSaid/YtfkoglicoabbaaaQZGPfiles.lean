import Derived.Test.YtfkoglicoabbaaaQZGM
import Derived.Test.YtfkoglicoabbaaaQFA
set_option linter.unusedVariables false
set_option linter.unusedSimpArgs false
namespace Go.Proofs.Ytfkoglicoabbaaa
open Go Go.Ab Go.Fp
theorem alive : keep_alive22 = some true := by decide +kernel
def stOf (a : List Api_FileOp) : St := run (a.map fp_op) s0
def ansOf (a : List Api_FileOp) : List Api_FileAns := (answers (a.map fp_op) s0).map fp_ans
def tailOf (a b : List Api_FileOp) : List Api_FileAns := (answers (b.map fp_op) (stOf a)).map fp_ans
def cells (s : St) : Nat → Nat → Int := fun p fd => cell s p fd
theorem stOf_inv (a : List Api_FileOp) : Fp.Inv (stOf a) := inv_run _ inv_s0
theorem ansOf_length (a : List Api_FileOp) : (ansOf a).length = a.length := by simp [ansOf, answers_length]
theorem play_eq {a : List Api_FileOp} (hl : a.length ≤ 8796093022208) (hm : ∀ y ∈ a, y.Most ≤ 9223372036854775807) : files_Play a = some (ansOf a, cells (stOf a)) := by
  unfold files_Play
  rw [if_pos ⟨hl, List.all_eq_true.2 fun y hy => decide_eq_true (hm y hy)⟩]
  rfl
theorem stOf_app (a b : List Api_FileOp) : stOf (a ++ b) = run (b.map fp_op) (stOf a) := by
  unfold stOf; rw [List.map_append, run_append]
theorem ansOf_app (a b : List Api_FileOp) : ansOf (a ++ b) = ansOf a ++ tailOf a b := by
  unfold ansOf tailOf stOf; rw [List.map_append, answers_append, List.map_append]
theorem play_app {a b : List Api_FileOp} (hl : a.length + b.length ≤ 8796093022208) (hm : ∀ y ∈ a, y.Most ≤ 9223372036854775807) (hb : ∀ y ∈ b, y.Most ≤ 9223372036854775807) :
    files_Play (a ++ b) = some (ansOf a ++ tailOf a b, cells (run (b.map fp_op) (stOf a))) := by
  rw [play_eq (by simpa using hl) (fun y hy => by rcases List.mem_append.1 hy with h | h; exact hm y h; exact hb y h), ansOf_app, stOf_app]
theorem clone_eq {a : List Api_FileOp} (h : a.length * 56 ≤ 140737488355328) : slices_Clone_api_FileOp a = some a := by unfold slices_Clone_api_FileOp; rw [if_pos h]
theorem app_at {a : List Api_FileOp} {l : List Api_FileAns} {k m : Nat} (hm : m = a.length + k) {x : Api_FileAns} (hx : l[k]? = some x) : (ansOf a ++ l).getD (0 + m) ⟨0, 0⟩ = x := by
  rw [List.getD_eq_getElem?_getD, List.getElem?_append_right (by rw [ansOf_length]; omega), ansOf_length, show 0 + m - a.length = k by omega, hx]; rfl
theorem app_len {a : List Api_FileOp} {l : List Api_FileAns} : (ansOf a ++ l).length = a.length + l.length := by rw [List.length_append, ansOf_length]
theorem most_of {a : List Api_FileOp} (h : ∀ y ∈ a, Ok_Api_FileOp y) : ∀ y ∈ a, y.Most ≤ 9223372036854775807 := fun y hy => by have := h y hy; unfold Ok_Api_FileOp at this; omega
theorem FilesFork_true (a0 : List Api_FileOp) (a1 a2 a3 : Int) (h : a0.length * 56 ≤ 140737488351232 ∧ ∀ y ∈ a0, Ok_Api_FileOp y) (b1 : -9223372036854775808 ≤ a1 ∧ a1 ≤ 9223372036854775807) (b2 : -9223372036854775808 ≤ a2 ∧ a2 ≤ 9223372036854775807)
    (b3 : -9223372036854775808 ≤ a3 ∧ a3 ≤ 9223372036854775807) : keep_FilesFork a0 a1 a2 a3 = some true := by
  have hm := most_of h.2
  have hi := stOf_inv a0
  unfold keep_FilesFork
  rw [alive]
  simp only [Option.bind_some, Bool.not_true, cond_false]
  rw [play_eq (by omega) hm, clone_eq (by omega)]
  simp only [Option.bind_some]
  obtain ⟨s1, hs1⟩ : ∃ s1, s1 = doOp (stOf a0) ⟨7, a1, 0, 0, 0, a2, 0⟩ := ⟨_, rfl⟩
  obtain ⟨s2, hs2⟩ : ∃ s2, s2 = doOp s1.1 ⟨4, a1, 0, 0, a3, 0, 0⟩ := ⟨_, rfl⟩
  have e9 : files_Play (a0 ++ [(⟨7, a1, 0, 0, 0, a2, 0⟩ : Api_FileOp), ⟨4, a1, 0, 0, a3, 0, 0⟩]) = some (ansOf a0 ++ [fp_ans s1.2, fp_ans s2.2], cells s2.1) := by
    rw [play_app (by simp; omega) hm (fun y hy => by simp at hy; rcases hy with rfl | rfl <;> simp)]
    subst hs1 hs2; rfl
  rw [if_pos (by simp; omega), e9]
  simp only [Option.bind_some]
  have w2 : IntKind.i64.wrap (((a0.length : Nat) : Int) + 2) = ((a0.length + 2 : Nat) : Int) := by rw [wrap_id (by omega) (by omega)]; omega
  have x0 : (ansOf a0 ++ [fp_ans s1.2, fp_ans s2.2]).getD (0 + a0.length) ⟨0, 0⟩ = fp_ans s1.2 := app_at (k := 0) (by omega) rfl
  have l1 : (ansOf a0 ++ [fp_ans s1.2, fp_ans s2.2]).length = a0.length + 2 := by rw [app_len]; rfl
  simp only [w2, x0, l1]
  rw [if_pos (fun _ => by omega), show (!((((a0.length + 2 : Nat) : Int) : Int) != (((a0.length + 2 : Nat) : Int)))) = true by simp, cond_true]
  by_cases he : s1.2.1 = 0
  · rw [show ((((((a0.length + 2 : Nat) : Int) : Int) != (((a0.length + 2 : Nat) : Int))) || (((fp_ans s1.2).Err : Int) != 0))) = false by simp [fp_ans, he], cond_false]
    obtain ⟨p0, p1, d0, d1, hcell⟩ := fork hi (o := ⟨7, a1, 0, 0, 0, a2, 0⟩) (c := ⟨4, a1, 0, 0, a3, 0, 0⟩) rfl rfl rfl (by rw [← hs1]; exact he)
    rw [← hs1, ← hs2] at hcell
    have p0 : 0 ≤ a1 := p0
    have p1 : a1 < 4 := p1
    have d0 : 0 ≤ a2 := d0
    have d1 : a2 < 4 := d1
    have hb : ((((decide ((a1 : Int) ≥ 0)) && (decide ((a1 : Int) < 4))) && (decide ((a2 : Int) ≥ 0))) && (decide ((a2 : Int) < 4))) = true := by simp; omega
    have hF : ∀ fd, cells s2.1 a2.toNat fd = cells (stOf a0) a1.toNat fd := fun fd => hcell fd
    simp only [hb, cond_true]
    rw [if_pos (fun _ => by omega), if_pos (fun _ => by omega)]
    simp only [hF, beq_self_eq_true, Bool.and_true]
  · rw [show ((((((a0.length + 2 : Nat) : Int) : Int) != (((a0.length + 2 : Nat) : Int))) || (((fp_ans s1.2).Err : Int) != 0))) = true by simpa [fp_ans] using he, cond_true]
    simp
end Go.Proofs.Ytfkoglicoabbaaa

