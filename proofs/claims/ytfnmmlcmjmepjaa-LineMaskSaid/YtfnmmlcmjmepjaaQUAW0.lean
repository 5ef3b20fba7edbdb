import Derived.Test.YtfnmmlcmjmepjaaQUAT
import Derived.Test.YtfnmmlcmjmepjaaQUAM
import Derived.Test.YtfnmmlcmjmepjaaAbYh
import Derived.Test.YtfnmmlcmjmepjaaAbYc
import Derived.Test.YtfnmmlcmjmepjaaAbYi
set_option linter.unusedSimpArgs false
set_option linter.unusedVariables false
namespace Go.Proofs.Ytfnmmlcmjmepjaa
open Go Go.Ab
theorem mixed : Try.prog.follows .mixedOrders = true := by kernel_rfl
def E28 : Elem Api_PinOp := { s := 2, cf := fun x j => match j with | 0 => .raw (.int .i64 x.Kind) | _ => .raw (.int .i64 x.Pin), z := (⟨0, 0⟩ : Api_PinOp) }
theorem E28_raw : E28.Raw := by
  intro x j
  match j with
  | 0 => exact ⟨_, rfl⟩
  | n + 1 => exact ⟨_, rfl⟩
def E35 : Elem Api_Pin := { s := 7, cf := fun x j => match j with | 0 => .raw (.int .i64 x.Core) | 1 => .raw (.int .i64 x.Vec) | 2 => .raw (.bool x.Level) | 3 => .raw (.bool x.Masked) | 4 => .raw (.bool x.Up) | 5 => .raw (.bool x.Kept) | _ => .raw (.bool x.Sent), z := (⟨0, 0, false, false, false, false, false⟩ : Api_Pin) }
theorem E35_raw : E35.Raw := by
  intro x j
  match j with
  | 0 => exact ⟨_, rfl⟩
  | 1 => exact ⟨_, rfl⟩
  | 2 => exact ⟨_, rfl⟩
  | 3 => exact ⟨_, rfl⟩
  | 4 => exact ⟨_, rfl⟩
  | 5 => exact ⟨_, rfl⟩
  | n + 6 => exact ⟨_, rfl⟩
def E39 : Elem Api_Sent := { s := 3, cf := fun x j => match j with | 0 => .raw (.int .i64 x.Pin) | 1 => .raw (.int .i64 x.Core) | _ => .raw (.int .i64 x.Vec), z := (⟨0, 0, 0⟩ : Api_Sent) }
theorem E39_raw : E39.Raw := by
  intro x j
  match j with
  | 0 => exact ⟨_, rfl⟩
  | 1 => exact ⟨_, rfl⟩
  | n + 2 => exact ⟨_, rfl⟩
attribute [local irreducible] V VS runS Sk.Holds
set_option maxHeartbeats 40000000 in
set_option maxRecDepth 100000 in
theorem line_Right_1_ok (a0 : Api_Pin) (r : Bool) (h : line_Right_1 a0 = some r) {al : Bool} : PCalls Try.prog 29 [.agg [.pv (.raw (.int .i64 a0.Core)), .pv (.raw (.int .i64 a0.Vec)), .pv (.raw (.bool a0.Level)), .pv (.raw (.bool a0.Masked)), .pv (.raw (.bool a0.Up)), .pv (.raw (.bool a0.Kept)), .pv (.raw (.bool a0.Sent))]] al (.pv (.raw (.bool r))) [] := by
  unfold line_Right_1 at h
  refine fn_ok tabOk Try.func29 (by kernel_rfl) (by kernel_rfl) Try.ntmps29 (by simp) ?_
  refine segs [] tabOk mixed 4000 (S := .and (((!(decide ((a0.Core : Int) < 0))) = true → ((!(decide ((a0.Core : Int) < 0))) = true))) (.and (((!(decide ((a0.Core : Int) < 0))) = true → ((!(decide ((a0.Core : Int) < 0))) = true))) (.and ((decide ((a0.Core : Int) < 0)) = false → (!(decide ((a0.Core : Int) < 0))) = true) (.and (((!((decide ((a0.Core : Int) < 0)) || (decide ((a0.Core : Int) ≥ 8)))) = true → ((!((decide ((a0.Core : Int) < 0)) || (decide ((a0.Core : Int) ≥ 8)))) = true))) (.and (((!((decide ((a0.Core : Int) < 0)) || (decide ((a0.Core : Int) ≥ 8)))) = true → ((!((decide ((a0.Core : Int) < 0)) || (decide ((a0.Core : Int) ≥ 8)))) = true))) (.and (((decide ((a0.Core : Int) < 0)) || (decide ((a0.Core : Int) ≥ 8))) = false → (!((decide ((a0.Core : Int) < 0)) || (decide ((a0.Core : Int) ≥ 8)))) = true) (.and (((!(((decide ((a0.Core : Int) < 0)) || (decide ((a0.Core : Int) ≥ 8))) || (decide ((a0.Vec : Int) < 32)))) = true → ((!(((decide ((a0.Core : Int) < 0)) || (decide ((a0.Core : Int) ≥ 8))) || (decide ((a0.Vec : Int) < 32)))) = true))) (.and (((!(((decide ((a0.Core : Int) < 0)) || (decide ((a0.Core : Int) ≥ 8))) || (decide ((a0.Vec : Int) < 32)))) = true → ((!(((decide ((a0.Core : Int) < 0)) || (decide ((a0.Core : Int) ≥ 8))) || (decide ((a0.Vec : Int) < 32)))) = true))) (.and ((((decide ((a0.Core : Int) < 0)) || (decide ((a0.Core : Int) ≥ 8))) || (decide ((a0.Vec : Int) < 32))) = false → (!(((decide ((a0.Core : Int) < 0)) || (decide ((a0.Core : Int) ≥ 8))) || (decide ((a0.Vec : Int) < 32)))) = true) (.and (((!((((decide ((a0.Core : Int) < 0)) || (decide ((a0.Core : Int) ≥ 8))) || (decide ((a0.Vec : Int) < 32))) || (decide ((a0.Vec : Int) ≥ 256)))) = true → ((!((((decide ((a0.Core : Int) < 0)) || (decide ((a0.Core : Int) ≥ 8))) || (decide ((a0.Vec : Int) < 32))) || (decide ((a0.Vec : Int) ≥ 256)))) = true))) (.and (((!((((decide ((a0.Core : Int) < 0)) || (decide ((a0.Core : Int) ≥ 8))) || (decide ((a0.Vec : Int) < 32))) || (decide ((a0.Vec : Int) ≥ 256)))) = true → ((!((((decide ((a0.Core : Int) < 0)) || (decide ((a0.Core : Int) ≥ 8))) || (decide ((a0.Vec : Int) < 32))) || (decide ((a0.Vec : Int) ≥ 256)))) = true))) (.and ((((!((((decide ((a0.Core : Int) < 0)) || (decide ((a0.Core : Int) ≥ 8))) || (decide ((a0.Vec : Int) < 32))) || (decide ((a0.Vec : Int) ≥ 256)))) && a0.Level) = true → (((!((((decide ((a0.Core : Int) < 0)) || (decide ((a0.Core : Int) ≥ 8))) || (decide ((a0.Vec : Int) < 32))) || (decide ((a0.Vec : Int) ≥ 256)))) && a0.Level) = true))) (.and (((!((((decide ((a0.Core : Int) < 0)) || (decide ((a0.Core : Int) ≥ 8))) || (decide ((a0.Vec : Int) < 32))) || (decide ((a0.Vec : Int) ≥ 256)))) = true → ((!((((decide ((a0.Core : Int) < 0)) || (decide ((a0.Core : Int) ≥ 8))) || (decide ((a0.Vec : Int) < 32))) || (decide ((a0.Vec : Int) ≥ 256)))) = true))) (.and (((!((((decide ((a0.Core : Int) < 0)) || (decide ((a0.Core : Int) ≥ 8))) || (decide ((a0.Vec : Int) < 32))) || (decide ((a0.Vec : Int) ≥ 256)))) = true → (a0.Level = true → ((!((((decide ((a0.Core : Int) < 0)) || (decide ((a0.Core : Int) ≥ 8))) || (decide ((a0.Vec : Int) < 32))) || (decide ((a0.Vec : Int) ≥ 256)))) && a0.Level) = true))) (.and (((((decide ((a0.Core : Int) < 0)) || (decide ((a0.Core : Int) ≥ 8))) || (decide ((a0.Vec : Int) < 32))) || (decide ((a0.Vec : Int) ≥ 256))) = false → (!((((decide ((a0.Core : Int) < 0)) || (decide ((a0.Core : Int) ≥ 8))) || (decide ((a0.Vec : Int) < 32))) || (decide ((a0.Vec : Int) ≥ 256)))) = true) (.and (((!(((((decide ((a0.Core : Int) < 0)) || (decide ((a0.Core : Int) ≥ 8))) || (decide ((a0.Vec : Int) < 32))) || (decide ((a0.Vec : Int) ≥ 256))) || (a0.Level && a0.Kept))) = true → ((!(((((decide ((a0.Core : Int) < 0)) || (decide ((a0.Core : Int) ≥ 8))) || (decide ((a0.Vec : Int) < 32))) || (decide ((a0.Vec : Int) ≥ 256))) || (a0.Level && a0.Kept))) = true))) (.and (((!(((((decide ((a0.Core : Int) < 0)) || (decide ((a0.Core : Int) ≥ 8))) || (decide ((a0.Vec : Int) < 32))) || (decide ((a0.Vec : Int) ≥ 256))) || (a0.Level && a0.Kept))) = true → ((!(((((decide ((a0.Core : Int) < 0)) || (decide ((a0.Core : Int) ≥ 8))) || (decide ((a0.Vec : Int) < 32))) || (decide ((a0.Vec : Int) ≥ 256))) || (a0.Level && a0.Kept))) = true))) (.and (((!(((((decide ((a0.Core : Int) < 0)) || (decide ((a0.Core : Int) ≥ 8))) || (decide ((a0.Vec : Int) < 32))) || (decide ((a0.Vec : Int) ≥ 256))) || (a0.Level && a0.Kept))) = true → ((!(((((decide ((a0.Core : Int) < 0)) || (decide ((a0.Core : Int) ≥ 8))) || (decide ((a0.Vec : Int) < 32))) || (decide ((a0.Vec : Int) ≥ 256))) || (a0.Level && a0.Kept))) = true))) (.and ((((!(((((decide ((a0.Core : Int) < 0)) || (decide ((a0.Core : Int) ≥ 8))) || (decide ((a0.Vec : Int) < 32))) || (decide ((a0.Vec : Int) ≥ 256))) || (a0.Level && a0.Kept))) && (!a0.Level)) = true → (((!(((((decide ((a0.Core : Int) < 0)) || (decide ((a0.Core : Int) ≥ 8))) || (decide ((a0.Vec : Int) < 32))) || (decide ((a0.Vec : Int) ≥ 256))) || (a0.Level && a0.Kept))) && (!a0.Level)) = true))) (.and (((!(((((decide ((a0.Core : Int) < 0)) || (decide ((a0.Core : Int) ≥ 8))) || (decide ((a0.Vec : Int) < 32))) || (decide ((a0.Vec : Int) ≥ 256))) || (a0.Level && a0.Kept))) = true → ((!(((((decide ((a0.Core : Int) < 0)) || (decide ((a0.Core : Int) ≥ 8))) || (decide ((a0.Vec : Int) < 32))) || (decide ((a0.Vec : Int) ≥ 256))) || (a0.Level && a0.Kept))) = true))) (.and (((!(((((decide ((a0.Core : Int) < 0)) || (decide ((a0.Core : Int) ≥ 8))) || (decide ((a0.Vec : Int) < 32))) || (decide ((a0.Vec : Int) ≥ 256))) || (a0.Level && a0.Kept))) = true → ((!a0.Level) = true → ((!(((((decide ((a0.Core : Int) < 0)) || (decide ((a0.Core : Int) ≥ 8))) || (decide ((a0.Vec : Int) < 32))) || (decide ((a0.Vec : Int) ≥ 256))) || (a0.Level && a0.Kept))) && (!a0.Level)) = true))) (.and ((((((decide ((a0.Core : Int) < 0)) || (decide ((a0.Core : Int) ≥ 8))) || (decide ((a0.Vec : Int) < 32))) || (decide ((a0.Vec : Int) ≥ 256))) || (a0.Level && a0.Kept)) = false → (!(((((decide ((a0.Core : Int) < 0)) || (decide ((a0.Core : Int) ≥ 8))) || (decide ((a0.Vec : Int) < 32))) || (decide ((a0.Vec : Int) ≥ 256))) || (a0.Level && a0.Kept))) = true) (.and (((!((((((decide ((a0.Core : Int) < 0)) || (decide ((a0.Core : Int) ≥ 8))) || (decide ((a0.Vec : Int) < 32))) || (decide ((a0.Vec : Int) ≥ 256))) || (a0.Level && a0.Kept)) || ((!a0.Level) && a0.Sent))) = true → ((!((((((decide ((a0.Core : Int) < 0)) || (decide ((a0.Core : Int) ≥ 8))) || (decide ((a0.Vec : Int) < 32))) || (decide ((a0.Vec : Int) ≥ 256))) || (a0.Level && a0.Kept)) || ((!a0.Level) && a0.Sent))) = true))) (.and (((!((((((decide ((a0.Core : Int) < 0)) || (decide ((a0.Core : Int) ≥ 8))) || (decide ((a0.Vec : Int) < 32))) || (decide ((a0.Vec : Int) ≥ 256))) || (a0.Level && a0.Kept)) || ((!a0.Level) && a0.Sent))) = true → ((!((((((decide ((a0.Core : Int) < 0)) || (decide ((a0.Core : Int) ≥ 8))) || (decide ((a0.Vec : Int) < 32))) || (decide ((a0.Vec : Int) ≥ 256))) || (a0.Level && a0.Kept)) || ((!a0.Level) && a0.Sent))) = true))) (.and ((((!((((((decide ((a0.Core : Int) < 0)) || (decide ((a0.Core : Int) ≥ 8))) || (decide ((a0.Vec : Int) < 32))) || (decide ((a0.Vec : Int) ≥ 256))) || (a0.Level && a0.Kept)) || ((!a0.Level) && a0.Sent))) && a0.Kept) = true → (((!((((((decide ((a0.Core : Int) < 0)) || (decide ((a0.Core : Int) ≥ 8))) || (decide ((a0.Vec : Int) < 32))) || (decide ((a0.Vec : Int) ≥ 256))) || (a0.Level && a0.Kept)) || ((!a0.Level) && a0.Sent))) && a0.Kept) = true))) (.and ((((!((((((decide ((a0.Core : Int) < 0)) || (decide ((a0.Core : Int) ≥ 8))) || (decide ((a0.Vec : Int) < 32))) || (decide ((a0.Vec : Int) ≥ 256))) || (a0.Level && a0.Kept)) || ((!a0.Level) && a0.Sent))) && a0.Kept) = true → (((!((((((decide ((a0.Core : Int) < 0)) || (decide ((a0.Core : Int) ≥ 8))) || (decide ((a0.Vec : Int) < 32))) || (decide ((a0.Vec : Int) ≥ 256))) || (a0.Level && a0.Kept)) || ((!a0.Level) && a0.Sent))) && a0.Kept) = true))) (.and (((!((((((decide ((a0.Core : Int) < 0)) || (decide ((a0.Core : Int) ≥ 8))) || (decide ((a0.Vec : Int) < 32))) || (decide ((a0.Vec : Int) ≥ 256))) || (a0.Level && a0.Kept)) || ((!a0.Level) && a0.Sent))) = true → ((!((((((decide ((a0.Core : Int) < 0)) || (decide ((a0.Core : Int) ≥ 8))) || (decide ((a0.Vec : Int) < 32))) || (decide ((a0.Vec : Int) ≥ 256))) || (a0.Level && a0.Kept)) || ((!a0.Level) && a0.Sent))) = true))) (.and (((!((((((decide ((a0.Core : Int) < 0)) || (decide ((a0.Core : Int) ≥ 8))) || (decide ((a0.Vec : Int) < 32))) || (decide ((a0.Vec : Int) ≥ 256))) || (a0.Level && a0.Kept)) || ((!a0.Level) && a0.Sent))) = true → (a0.Kept = true → ((!((((((decide ((a0.Core : Int) < 0)) || (decide ((a0.Core : Int) ≥ 8))) || (decide ((a0.Vec : Int) < 32))) || (decide ((a0.Vec : Int) ≥ 256))) || (a0.Level && a0.Kept)) || ((!a0.Level) && a0.Sent))) && a0.Kept) = true))) (.and (((((((decide ((a0.Core : Int) < 0)) || (decide ((a0.Core : Int) ≥ 8))) || (decide ((a0.Vec : Int) < 32))) || (decide ((a0.Vec : Int) ≥ 256))) || (a0.Level && a0.Kept)) || ((!a0.Level) && a0.Sent)) = false → (!((((((decide ((a0.Core : Int) < 0)) || (decide ((a0.Core : Int) ≥ 8))) || (decide ((a0.Vec : Int) < 32))) || (decide ((a0.Vec : Int) ≥ 256))) || (a0.Level && a0.Kept)) || ((!a0.Level) && a0.Sent))) = true) (.and (((!(((((((decide ((a0.Core : Int) < 0)) || (decide ((a0.Core : Int) ≥ 8))) || (decide ((a0.Vec : Int) < 32))) || (decide ((a0.Vec : Int) ≥ 256))) || (a0.Level && a0.Kept)) || ((!a0.Level) && a0.Sent)) || (a0.Kept && (!a0.Masked)))) = true → ((!(((((((decide ((a0.Core : Int) < 0)) || (decide ((a0.Core : Int) ≥ 8))) || (decide ((a0.Vec : Int) < 32))) || (decide ((a0.Vec : Int) ≥ 256))) || (a0.Level && a0.Kept)) || ((!a0.Level) && a0.Sent)) || (a0.Kept && (!a0.Masked)))) = true))) (.and (((!(((((((decide ((a0.Core : Int) < 0)) || (decide ((a0.Core : Int) ≥ 8))) || (decide ((a0.Vec : Int) < 32))) || (decide ((a0.Vec : Int) ≥ 256))) || (a0.Level && a0.Kept)) || ((!a0.Level) && a0.Sent)) || (a0.Kept && (!a0.Masked)))) = true → ((!(((((((decide ((a0.Core : Int) < 0)) || (decide ((a0.Core : Int) ≥ 8))) || (decide ((a0.Vec : Int) < 32))) || (decide ((a0.Vec : Int) ≥ 256))) || (a0.Level && a0.Kept)) || ((!a0.Level) && a0.Sent)) || (a0.Kept && (!a0.Masked)))) = true))) (.and ((((!(((((((decide ((a0.Core : Int) < 0)) || (decide ((a0.Core : Int) ≥ 8))) || (decide ((a0.Vec : Int) < 32))) || (decide ((a0.Vec : Int) ≥ 256))) || (a0.Level && a0.Kept)) || ((!a0.Level) && a0.Sent)) || (a0.Kept && (!a0.Masked)))) && a0.Level) = true → (((!(((((((decide ((a0.Core : Int) < 0)) || (decide ((a0.Core : Int) ≥ 8))) || (decide ((a0.Vec : Int) < 32))) || (decide ((a0.Vec : Int) ≥ 256))) || (a0.Level && a0.Kept)) || ((!a0.Level) && a0.Sent)) || (a0.Kept && (!a0.Masked)))) && a0.Level) = true))) (.and (((!(((((((decide ((a0.Core : Int) < 0)) || (decide ((a0.Core : Int) ≥ 8))) || (decide ((a0.Vec : Int) < 32))) || (decide ((a0.Vec : Int) ≥ 256))) || (a0.Level && a0.Kept)) || ((!a0.Level) && a0.Sent)) || (a0.Kept && (!a0.Masked)))) = true → ((!(((((((decide ((a0.Core : Int) < 0)) || (decide ((a0.Core : Int) ≥ 8))) || (decide ((a0.Vec : Int) < 32))) || (decide ((a0.Vec : Int) ≥ 256))) || (a0.Level && a0.Kept)) || ((!a0.Level) && a0.Sent)) || (a0.Kept && (!a0.Masked)))) = true))) (.and (((!(((((((decide ((a0.Core : Int) < 0)) || (decide ((a0.Core : Int) ≥ 8))) || (decide ((a0.Vec : Int) < 32))) || (decide ((a0.Vec : Int) ≥ 256))) || (a0.Level && a0.Kept)) || ((!a0.Level) && a0.Sent)) || (a0.Kept && (!a0.Masked)))) = true → (a0.Level = true → ((!(((((((decide ((a0.Core : Int) < 0)) || (decide ((a0.Core : Int) ≥ 8))) || (decide ((a0.Vec : Int) < 32))) || (decide ((a0.Vec : Int) ≥ 256))) || (a0.Level && a0.Kept)) || ((!a0.Level) && a0.Sent)) || (a0.Kept && (!a0.Masked)))) && a0.Level) = true))) (.and (((!(((((((decide ((a0.Core : Int) < 0)) || (decide ((a0.Core : Int) ≥ 8))) || (decide ((a0.Vec : Int) < 32))) || (decide ((a0.Vec : Int) ≥ 256))) || (a0.Level && a0.Kept)) || ((!a0.Level) && a0.Sent)) || (a0.Kept && (!a0.Masked)))) = true → ((!(((((((decide ((a0.Core : Int) < 0)) || (decide ((a0.Core : Int) ≥ 8))) || (decide ((a0.Vec : Int) < 32))) || (decide ((a0.Vec : Int) ≥ 256))) || (a0.Level && a0.Kept)) || ((!a0.Level) && a0.Sent)) || (a0.Kept && (!a0.Masked)))) = true))) (.and ((((!(((((((decide ((a0.Core : Int) < 0)) || (decide ((a0.Core : Int) ≥ 8))) || (decide ((a0.Vec : Int) < 32))) || (decide ((a0.Vec : Int) ≥ 256))) || (a0.Level && a0.Kept)) || ((!a0.Level) && a0.Sent)) || (a0.Kept && (!a0.Masked)))) && (a0.Level && a0.Up)) = true → (((!(((((((decide ((a0.Core : Int) < 0)) || (decide ((a0.Core : Int) ≥ 8))) || (decide ((a0.Vec : Int) < 32))) || (decide ((a0.Vec : Int) ≥ 256))) || (a0.Level && a0.Kept)) || ((!a0.Level) && a0.Sent)) || (a0.Kept && (!a0.Masked)))) && (a0.Level && a0.Up)) = true))) (.and ((((!(((((((decide ((a0.Core : Int) < 0)) || (decide ((a0.Core : Int) ≥ 8))) || (decide ((a0.Vec : Int) < 32))) || (decide ((a0.Vec : Int) ≥ 256))) || (a0.Level && a0.Kept)) || ((!a0.Level) && a0.Sent)) || (a0.Kept && (!a0.Masked)))) && (a0.Level && a0.Up)) = true → (((!(((((((decide ((a0.Core : Int) < 0)) || (decide ((a0.Core : Int) ≥ 8))) || (decide ((a0.Vec : Int) < 32))) || (decide ((a0.Vec : Int) ≥ 256))) || (a0.Level && a0.Kept)) || ((!a0.Level) && a0.Sent)) || (a0.Kept && (!a0.Masked)))) && (a0.Level && a0.Up)) = true))) (.and (((!(((((((decide ((a0.Core : Int) < 0)) || (decide ((a0.Core : Int) ≥ 8))) || (decide ((a0.Vec : Int) < 32))) || (decide ((a0.Vec : Int) ≥ 256))) || (a0.Level && a0.Kept)) || ((!a0.Level) && a0.Sent)) || (a0.Kept && (!a0.Masked)))) = true → ((!(((((((decide ((a0.Core : Int) < 0)) || (decide ((a0.Core : Int) ≥ 8))) || (decide ((a0.Vec : Int) < 32))) || (decide ((a0.Vec : Int) ≥ 256))) || (a0.Level && a0.Kept)) || ((!a0.Level) && a0.Sent)) || (a0.Kept && (!a0.Masked)))) = true))) (.and (((!(((((((decide ((a0.Core : Int) < 0)) || (decide ((a0.Core : Int) ≥ 8))) || (decide ((a0.Vec : Int) < 32))) || (decide ((a0.Vec : Int) ≥ 256))) || (a0.Level && a0.Kept)) || ((!a0.Level) && a0.Sent)) || (a0.Kept && (!a0.Masked)))) = true → ((a0.Level && a0.Up) = true → ((!(((((((decide ((a0.Core : Int) < 0)) || (decide ((a0.Core : Int) ≥ 8))) || (decide ((a0.Vec : Int) < 32))) || (decide ((a0.Vec : Int) ≥ 256))) || (a0.Level && a0.Kept)) || ((!a0.Level) && a0.Sent)) || (a0.Kept && (!a0.Masked)))) && (a0.Level && a0.Up)) = true))) (.and (((!(((((((decide ((a0.Core : Int) < 0)) || (decide ((a0.Core : Int) ≥ 8))) || (decide ((a0.Vec : Int) < 32))) || (decide ((a0.Vec : Int) ≥ 256))) || (a0.Level && a0.Kept)) || ((!a0.Level) && a0.Sent)) || (a0.Kept && (!a0.Masked)))) = true → ((!(((((((decide ((a0.Core : Int) < 0)) || (decide ((a0.Core : Int) ≥ 8))) || (decide ((a0.Vec : Int) < 32))) || (decide ((a0.Vec : Int) ≥ 256))) || (a0.Level && a0.Kept)) || ((!a0.Level) && a0.Sent)) || (a0.Kept && (!a0.Masked)))) = true))) (.and ((((!(((((((decide ((a0.Core : Int) < 0)) || (decide ((a0.Core : Int) ≥ 8))) || (decide ((a0.Vec : Int) < 32))) || (decide ((a0.Vec : Int) ≥ 256))) || (a0.Level && a0.Kept)) || ((!a0.Level) && a0.Sent)) || (a0.Kept && (!a0.Masked)))) && ((a0.Level && a0.Up) && (!a0.Masked))) = true → (((!(((((((decide ((a0.Core : Int) < 0)) || (decide ((a0.Core : Int) ≥ 8))) || (decide ((a0.Vec : Int) < 32))) || (decide ((a0.Vec : Int) ≥ 256))) || (a0.Level && a0.Kept)) || ((!a0.Level) && a0.Sent)) || (a0.Kept && (!a0.Masked)))) && ((a0.Level && a0.Up) && (!a0.Masked))) = true))) (.and ((((!(((((((decide ((a0.Core : Int) < 0)) || (decide ((a0.Core : Int) ≥ 8))) || (decide ((a0.Vec : Int) < 32))) || (decide ((a0.Vec : Int) ≥ 256))) || (a0.Level && a0.Kept)) || ((!a0.Level) && a0.Sent)) || (a0.Kept && (!a0.Masked)))) && ((a0.Level && a0.Up) && (!a0.Masked))) = true → (((!(((((((decide ((a0.Core : Int) < 0)) || (decide ((a0.Core : Int) ≥ 8))) || (decide ((a0.Vec : Int) < 32))) || (decide ((a0.Vec : Int) ≥ 256))) || (a0.Level && a0.Kept)) || ((!a0.Level) && a0.Sent)) || (a0.Kept && (!a0.Masked)))) && ((a0.Level && a0.Up) && (!a0.Masked))) = true))) (.and (((!(((((((decide ((a0.Core : Int) < 0)) || (decide ((a0.Core : Int) ≥ 8))) || (decide ((a0.Vec : Int) < 32))) || (decide ((a0.Vec : Int) ≥ 256))) || (a0.Level && a0.Kept)) || ((!a0.Level) && a0.Sent)) || (a0.Kept && (!a0.Masked)))) = true → ((!(((((((decide ((a0.Core : Int) < 0)) || (decide ((a0.Core : Int) ≥ 8))) || (decide ((a0.Vec : Int) < 32))) || (decide ((a0.Vec : Int) ≥ 256))) || (a0.Level && a0.Kept)) || ((!a0.Level) && a0.Sent)) || (a0.Kept && (!a0.Masked)))) = true))) (.and (((!(((((((decide ((a0.Core : Int) < 0)) || (decide ((a0.Core : Int) ≥ 8))) || (decide ((a0.Vec : Int) < 32))) || (decide ((a0.Vec : Int) ≥ 256))) || (a0.Level && a0.Kept)) || ((!a0.Level) && a0.Sent)) || (a0.Kept && (!a0.Masked)))) = true → (((a0.Level && a0.Up) && (!a0.Masked)) = true → ((!(((((((decide ((a0.Core : Int) < 0)) || (decide ((a0.Core : Int) ≥ 8))) || (decide ((a0.Vec : Int) < 32))) || (decide ((a0.Vec : Int) ≥ 256))) || (a0.Level && a0.Kept)) || ((!a0.Level) && a0.Sent)) || (a0.Kept && (!a0.Masked)))) && ((a0.Level && a0.Up) && (!a0.Masked))) = true))) (.and ((((((((decide ((a0.Core : Int) < 0)) || (decide ((a0.Core : Int) ≥ 8))) || (decide ((a0.Vec : Int) < 32))) || (decide ((a0.Vec : Int) ≥ 256))) || (a0.Level && a0.Kept)) || ((!a0.Level) && a0.Sent)) || (a0.Kept && (!a0.Masked))) = false → (!(((((((decide ((a0.Core : Int) < 0)) || (decide ((a0.Core : Int) ≥ 8))) || (decide ((a0.Vec : Int) < 32))) || (decide ((a0.Vec : Int) ≥ 256))) || (a0.Level && a0.Kept)) || ((!a0.Level) && a0.Sent)) || (a0.Kept && (!a0.Masked)))) = true) (.leaf 0)))))))))))))))))))))))))))))))))))))))))))))) (by kernel_rfl) ?_
  refine sk_and (fun h => h) ?_
  refine sk_and (fun h => h) ?_
  refine sk_and ((by decide : ∀ y0 : Bool, ((y0 = false) → ((!y0) = true))) (decide ((a0.Core : Int) < 0))) ?_
  refine sk_and (fun h => h) ?_
  refine sk_and (fun h => h) ?_
  refine sk_and ((by decide : ∀ y0 : Bool, ((y0 = false) → ((!y0) = true))) ((decide ((a0.Core : Int) < 0)) || (decide ((a0.Core : Int) ≥ 8)))) ?_
  refine sk_and (fun h => h) ?_
  refine sk_and (fun h => h) ?_
  refine sk_and ((by decide : ∀ y0 : Bool, ((y0 = false) → ((!y0) = true))) (((decide ((a0.Core : Int) < 0)) || (decide ((a0.Core : Int) ≥ 8))) || (decide ((a0.Vec : Int) < 32)))) ?_
  refine sk_and (fun h => h) ?_
  refine sk_and (fun h => h) ?_
  refine sk_and (fun h => h) ?_
  refine sk_and (fun h => h) ?_
  refine sk_and ((by decide : ∀ y0 y1 : Bool, ((y0 = true) → ((y1 = true) → ((y0 && y1) = true)))) (!((((decide ((a0.Core : Int) < 0)) || (decide ((a0.Core : Int) ≥ 8))) || (decide ((a0.Vec : Int) < 32))) || (decide ((a0.Vec : Int) ≥ 256)))) a0.Level) ?_
  refine sk_and ((by decide : ∀ y0 : Bool, ((y0 = false) → ((!y0) = true))) ((((decide ((a0.Core : Int) < 0)) || (decide ((a0.Core : Int) ≥ 8))) || (decide ((a0.Vec : Int) < 32))) || (decide ((a0.Vec : Int) ≥ 256)))) ?_
  refine sk_and (fun h => h) ?_
  refine sk_and (fun h => h) ?_
  refine sk_and (fun h => h) ?_
  refine sk_and (fun h => h) ?_
  refine sk_and (fun h => h) ?_
  refine sk_and ((by decide : ∀ y0 y1 : Bool, ((y0 = true) → ((y1 = true) → ((y0 && y1) = true)))) (!(((((decide ((a0.Core : Int) < 0)) || (decide ((a0.Core : Int) ≥ 8))) || (decide ((a0.Vec : Int) < 32))) || (decide ((a0.Vec : Int) ≥ 256))) || (a0.Level && a0.Kept))) (!a0.Level)) ?_
  refine sk_and ((by decide : ∀ y0 : Bool, ((y0 = false) → ((!y0) = true))) (((((decide ((a0.Core : Int) < 0)) || (decide ((a0.Core : Int) ≥ 8))) || (decide ((a0.Vec : Int) < 32))) || (decide ((a0.Vec : Int) ≥ 256))) || (a0.Level && a0.Kept))) ?_
  refine sk_and (fun h => h) ?_
  refine sk_and (fun h => h) ?_
  refine sk_and (fun h => h) ?_
  refine sk_and (fun h => h) ?_
  refine sk_and (fun h => h) ?_
  refine sk_and ((by decide : ∀ y0 y1 : Bool, ((y0 = true) → ((y1 = true) → ((y0 && y1) = true)))) (!((((((decide ((a0.Core : Int) < 0)) || (decide ((a0.Core : Int) ≥ 8))) || (decide ((a0.Vec : Int) < 32))) || (decide ((a0.Vec : Int) ≥ 256))) || (a0.Level && a0.Kept)) || ((!a0.Level) && a0.Sent))) a0.Kept) ?_
  refine sk_and ((by decide : ∀ y0 : Bool, ((y0 = false) → ((!y0) = true))) ((((((decide ((a0.Core : Int) < 0)) || (decide ((a0.Core : Int) ≥ 8))) || (decide ((a0.Vec : Int) < 32))) || (decide ((a0.Vec : Int) ≥ 256))) || (a0.Level && a0.Kept)) || ((!a0.Level) && a0.Sent))) ?_
  refine sk_and (fun h => h) ?_
  refine sk_and (fun h => h) ?_
  refine sk_and (fun h => h) ?_
  refine sk_and (fun h => h) ?_
  refine sk_and ((by decide : ∀ y0 y1 : Bool, ((y0 = true) → ((y1 = true) → ((y0 && y1) = true)))) (!(((((((decide ((a0.Core : Int) < 0)) || (decide ((a0.Core : Int) ≥ 8))) || (decide ((a0.Vec : Int) < 32))) || (decide ((a0.Vec : Int) ≥ 256))) || (a0.Level && a0.Kept)) || ((!a0.Level) && a0.Sent)) || (a0.Kept && (!a0.Masked)))) a0.Level) ?_
  refine sk_and (fun h => h) ?_
  refine sk_and (fun h => h) ?_
  refine sk_and (fun h => h) ?_
  refine sk_and (fun h => h) ?_
  refine sk_and ((by decide : ∀ y0 y1 : Bool, ((y0 = true) → ((y1 = true) → ((y0 && y1) = true)))) (!(((((((decide ((a0.Core : Int) < 0)) || (decide ((a0.Core : Int) ≥ 8))) || (decide ((a0.Vec : Int) < 32))) || (decide ((a0.Vec : Int) ≥ 256))) || (a0.Level && a0.Kept)) || ((!a0.Level) && a0.Sent)) || (a0.Kept && (!a0.Masked)))) (a0.Level && a0.Up)) ?_
  refine sk_and (fun h => h) ?_
  refine sk_and (fun h => h) ?_
  refine sk_and (fun h => h) ?_
  refine sk_and (fun h => h) ?_
  refine sk_and ((by decide : ∀ y0 y1 : Bool, ((y0 = true) → ((y1 = true) → ((y0 && y1) = true)))) (!(((((((decide ((a0.Core : Int) < 0)) || (decide ((a0.Core : Int) ≥ 8))) || (decide ((a0.Vec : Int) < 32))) || (decide ((a0.Vec : Int) ≥ 256))) || (a0.Level && a0.Kept)) || ((!a0.Level) && a0.Sent)) || (a0.Kept && (!a0.Masked)))) ((a0.Level && a0.Up) && (!a0.Masked))) ?_
  refine sk_and ((by decide : ∀ y0 : Bool, ((y0 = false) → ((!y0) = true))) (((((((decide ((a0.Core : Int) < 0)) || (decide ((a0.Core : Int) ≥ 8))) || (decide ((a0.Vec : Int) < 32))) || (decide ((a0.Vec : Int) ≥ 256))) || (a0.Level && a0.Kept)) || ((!a0.Level) && a0.Sent)) || (a0.Kept && (!a0.Masked)))) ?_
  refine sk_leaf ?_
  obtain rfl := some_ h
  exact end_ok [] Try.results29 (ps := [((((((((decide ((a0.Core : Int) < 0)) || (decide ((a0.Core : Int) ≥ 8))) || (decide ((a0.Vec : Int) < 32))) || (decide ((a0.Vec : Int) ≥ 256))) || (a0.Level && a0.Kept)) || ((!a0.Level) && a0.Sent)) || (a0.Kept && (!a0.Masked))) || (((a0.Level && a0.Up) && (!a0.Masked)) && (!a0.Sent))) = ((((((((decide ((a0.Core : Int) < 0)) || (decide ((a0.Core : Int) ≥ 8))) || (decide ((a0.Vec : Int) < 32))) || (decide ((a0.Vec : Int) ≥ 256))) || (a0.Level && a0.Kept)) || ((!a0.Level) && a0.Sent)) || (a0.Kept && (!a0.Masked))) || (((a0.Level && a0.Up) && (!a0.Masked)) && (!a0.Sent)))]) (by kernel_rfl) ⟨rfl, trivial⟩ (fun _ => ⟨rfl, by simp⟩)
set_option maxHeartbeats 40000000 in
set_option maxRecDepth 100000 in
theorem slices_IndexFunc_api_Pin_line_Right_1_ok (a0 : (List Api_Pin)) (r : Int) (h : slices_IndexFunc_api_Pin_line_Right_1 a0 = some r) {al : Bool} : PCalls Try.prog 43 [.pv ((E35.ro a0)), .fn 29 []] al (.pv (.raw (.int .i64 r))) [] := by
  unfold slices_IndexFunc_api_Pin_line_Right_1 at h
  refine fn_ok tabOk Try.func43 (by kernel_rfl) (by kernel_rfl) Try.ntmps43 (by simp) ?_
  refine segs [] tabOk mixed 4000 (S := .leaf 0) (by kernel_rfl) ?_
  refine sk_leaf ?_
  refine len_ro (by kernel_rfl) 0 (s := 7) (n := a0.length) (c := fun i j => E35.cf (a0.getD i E35.z) j) (by kernel_rfl) ?_; intro hl1_0
  replace h : (fun (x : Nat × Nat) => slices_IndexFunc_api_Pin_line_Right_1_l1 a0 x.1 x.2 = some r) (FUEL, 0) := h
  refine loop_ok (by kernel_rfl) (X := Nat × Nat) (fun x => slices_IndexFunc_api_Pin_line_Right_1_l1 a0 x.1 x.2 = some r) (fun x => x.1) (fun x => mk 19 [(0, .pv ((E35.ro a0))), (1, .fn 29 []), (4, .pv (.raw (.int .i64 0))), (7, .pv (.raw (.int .i64 ((a0.length : Nat) : Int)))), (8, .pv (.raw (.int .i64 ((x.2 : Nat) : Int))))] []) (FUEL, 0) h ?_ ?_
  · exact sub_ok (ρ := []) (l := [a0.length = a0.length, ∀ i, i < a0.length → ∀ j, j < 7 → E35.cf (a0.getD i E35.z) j = E35.cf (a0.getD i E35.z) j, (0 : Int) = 0, (((a0.length : Nat) : Int) : Int) = ((a0.length : Nat) : Int), (0 : Int) = ((0 : Nat) : Int)]) (by kernel_rfl) ⟨rfl, fun _ _ _ _ => rfl, rfl, rfl, (by first | rfl | simp), trivial⟩
  · clear h; rintro ⟨n1, k1⟩ h p1 hp1
    obtain _ | n1 := n1
    · cases (show (none : Option (Int)) = some r from h)
    have h : slices_IndexFunc_api_Pin_line_Right_1_l1 a0 (n1 + 1) k1 = some r := h
    unfold slices_IndexFunc_api_Pin_line_Right_1_l1 at h
    refine segs [] tabOk mixed 4000 (S := .br (decide ((((k1 : Nat) : Int) : Int) < ((a0.length : Nat) : Int))) (.and (0 ≤ (((k1 : Nat) : Int) : Int) ∧ ((k1 : Nat) : Int) < ((a0.length : Nat) : Int)) (.leaf 0)) (.leaf 1)) (by kernel_rfl) ?_
    refine br_ h ?_ ?_ <;> clear h <;> intro c2 h
    · refine sk_and ⟨Int.natCast_nonneg _, of_decide_eq_true c2⟩ ?_
      refine sk_leaf ?_
      obtain ⟨r4, e5, h⟩ := bd_ h
      refine call_ok (d := some 16) (fn := 29) (ax := [.agg [.pv (.raw (.int .i64 ((a0.getD k1 (⟨0, 0, false, false, false, false, false⟩ : Api_Pin)).Core))), .pv (.raw (.int .i64 ((a0.getD k1 (⟨0, 0, false, false, false, false, false⟩ : Api_Pin)).Vec))), .pv (.raw (.bool ((a0.getD k1 (⟨0, 0, false, false, false, false, false⟩ : Api_Pin)).Level))), .pv (.raw (.bool ((a0.getD k1 (⟨0, 0, false, false, false, false, false⟩ : Api_Pin)).Masked))), .pv (.raw (.bool ((a0.getD k1 (⟨0, 0, false, false, false, false, false⟩ : Api_Pin)).Up))), .pv (.raw (.bool ((a0.getD k1 (⟨0, 0, false, false, false, false, false⟩ : Api_Pin)).Kept))), .pv (.raw (.bool ((a0.getD k1 (⟨0, 0, false, false, false, false, false⟩ : Api_Pin)).Sent)))]]) (args := [.agg [.pv (.raw (.int .i64 ((a0.getD k1 (⟨0, 0, false, false, false, false, false⟩ : Api_Pin)).Core))), .pv (.raw (.int .i64 ((a0.getD k1 (⟨0, 0, false, false, false, false, false⟩ : Api_Pin)).Vec))), .pv (.raw (.bool ((a0.getD k1 (⟨0, 0, false, false, false, false, false⟩ : Api_Pin)).Level))), .pv (.raw (.bool ((a0.getD k1 (⟨0, 0, false, false, false, false, false⟩ : Api_Pin)).Masked))), .pv (.raw (.bool ((a0.getD k1 (⟨0, 0, false, false, false, false, false⟩ : Api_Pin)).Up))), .pv (.raw (.bool ((a0.getD k1 (⟨0, 0, false, false, false, false, false⟩ : Api_Pin)).Kept))), .pv (.raw (.bool ((a0.getD k1 (⟨0, 0, false, false, false, false, false⟩ : Api_Pin)).Sent)))]]) (ps := [((a0.getD k1 (⟨0, 0, false, false, false, false, false⟩ : Api_Pin)).Core : Int) = ((a0.getD k1 (⟨0, 0, false, false, false, false, false⟩ : Api_Pin)).Core), ((a0.getD k1 (⟨0, 0, false, false, false, false, false⟩ : Api_Pin)).Vec : Int) = ((a0.getD k1 (⟨0, 0, false, false, false, false, false⟩ : Api_Pin)).Vec), ((a0.getD k1 (⟨0, 0, false, false, false, false, false⟩ : Api_Pin)).Level) = ((a0.getD k1 (⟨0, 0, false, false, false, false, false⟩ : Api_Pin)).Level), ((a0.getD k1 (⟨0, 0, false, false, false, false, false⟩ : Api_Pin)).Masked) = ((a0.getD k1 (⟨0, 0, false, false, false, false, false⟩ : Api_Pin)).Masked), ((a0.getD k1 (⟨0, 0, false, false, false, false, false⟩ : Api_Pin)).Up) = ((a0.getD k1 (⟨0, 0, false, false, false, false, false⟩ : Api_Pin)).Up), ((a0.getD k1 (⟨0, 0, false, false, false, false, false⟩ : Api_Pin)).Kept) = ((a0.getD k1 (⟨0, 0, false, false, false, false, false⟩ : Api_Pin)).Kept), ((a0.getD k1 (⟨0, 0, false, false, false, false, false⟩ : Api_Pin)).Sent) = ((a0.getD k1 (⟨0, 0, false, false, false, false, false⟩ : Api_Pin)).Sent)]) (hb' := []) (by kernel_rfl) (line_Right_1_ok _ _ e5 (al := true)) (by kernel_rfl) ⟨rfl, rfl, rfl, rfl, rfl, rfl, rfl, trivial⟩ (fun _ => (by kernel_rfl)) (by simp) rfl (by kernel_rfl) ?_
      refine segs [] tabOk mixed 4000 (S := .br r4 (.leaf 0) (.leaf 1)) (by kernel_rfl) ?_
      refine br_ h ?_ ?_ <;> clear h <;> intro c6 h
      · refine sk_leaf ?_
        obtain rfl := some_ h
        exact end_ok [] Try.results43 (ps := [(((k1 : Nat) : Int) : Int) = ((k1 : Nat) : Int)]) (by kernel_rfl) ⟨rfl, trivial⟩ (fun _ => ⟨rfl, by simp⟩)
      · refine sk_leaf ?_
        refine back_ok (p := p1) (by kernel_rfl) (hp1 (n1, k1 + 1) _ h (Nat.lt_succ_self n1) ?_)
        exact sub_ok (ρ := []) (l := [a0.length = a0.length, ∀ i, i < a0.length → ∀ j, j < 7 → E35.cf (a0.getD i E35.z) j = E35.cf (a0.getD i E35.z) j, (0 : Int) = 0, (((a0.length : Nat) : Int) : Int) = ((a0.length : Nat) : Int), ((IntKind.i64.wrap (((k1 : Nat) : Int) + 1)) : Int) = (((k1 + 1) : Nat) : Int)]) (by kernel_rfl) ⟨rfl, fun _ _ _ _ => rfl, rfl, rfl, (wrap_nat (Int.ofNat_lt.1 (of_decide_eq_true c2)) (by omega)), trivial⟩
    · refine sk_leaf ?_
      obtain rfl := some_ h
      exact end_ok [] Try.results43 (ps := [((-1) : Int) = (-1)]) (by kernel_rfl) ⟨rfl, trivial⟩ (fun _ => ⟨rfl, by simp⟩)
set_option maxHeartbeats 40000000 in
set_option maxRecDepth 100000 in
theorem slices_ContainsFunc_api_Pin_line_Right_1_ok (a0 : (List Api_Pin)) (r : Bool) (h : slices_ContainsFunc_api_Pin_line_Right_1 a0 = some r) {al : Bool} : PCalls Try.prog 28 [.pv ((E35.ro a0)), .fn 29 []] al (.pv (.raw (.bool r))) [] := by
  unfold slices_ContainsFunc_api_Pin_line_Right_1 at h
  refine fn_ok tabOk Try.func28 (by kernel_rfl) (by kernel_rfl) Try.ntmps28 (by simp) ?_
  refine segs [] tabOk mixed 4000 (S := .leaf 0) (by kernel_rfl) ?_
  refine sk_leaf ?_
  obtain ⟨r1, e2, h⟩ := bd_ h
  refine call_ok (d := some 7) (fn := 43) (ax := [.pv ((E35.ro a0)), .fn 29 []]) (args := [.pv ((E35.ro a0)), .fn 29 []]) (ps := [a0.length = a0.length, ∀ i, i < a0.length → ∀ j, j < 7 → E35.cf (a0.getD i E35.z) j = E35.cf (a0.getD i E35.z) j]) (hb' := []) (by kernel_rfl) (slices_IndexFunc_api_Pin_line_Right_1_ok _ _ e2 (al := false)) (by kernel_rfl) ⟨rfl, fun _ _ _ _ => rfl, trivial⟩ (fun hx => by cases hx) (by simp) rfl (by kernel_rfl) ?_
  refine segs [] tabOk mixed 4000 (S := .leaf 0) (by kernel_rfl) ?_
  refine sk_leaf ?_
  obtain rfl := some_ h
  exact end_ok [] Try.results28 (ps := [(decide ((r1 : Int) ≥ 0)) = (decide ((r1 : Int) ≥ 0))]) (by kernel_rfl) ⟨rfl, trivial⟩ (fun _ => ⟨rfl, by simp⟩)
set_option maxHeartbeats 40000000 in
set_option maxRecDepth 100000 in
theorem line_Right_ok (a0 : (List Api_Pin)) (r : Bool) (h : line_Right a0 = some r) {al : Bool} : PCalls Try.prog 8 [.pv ((E35.ro a0))] al (.pv (.raw (.bool r))) [] := by
  unfold line_Right at h
  refine fn_ok tabOk Try.func8 (by kernel_rfl) (by kernel_rfl) Try.ntmps8 (by simp) ?_
  refine segs [] tabOk mixed 4000 (S := .leaf 0) (by kernel_rfl) ?_
  refine sk_leaf ?_
  obtain ⟨r1, e2, h⟩ := bd_ h
  refine callG_ok (d := some 8) (fn := 28) (ax := [.pv ((E35.ro a0)), .fn 29 []]) (args := [.pv ((E35.ro a0)), .fn 29 []]) (g := (decide ((((a0.length : Nat) : Int) : Int) ≤ 24))) (ws := [(decide ((((a0.length : Nat) : Int) : Int) ≤ 24)) = true]) (ps := [a0.length = a0.length, ∀ i, i < a0.length → ∀ j, j < 7 → E35.cf (a0.getD i E35.z) j = E35.cf (a0.getD i E35.z) j]) (by kernel_rfl) (fun hg => ⟨((by decide : ∀ y0 : Bool, ((y0 = true) → (y0 = true))) (decide ((((a0.length : Nat) : Int) : Int) ≤ 24))) hg, trivial⟩) (fun hg => slices_ContainsFunc_api_Pin_line_Right_1_ok _ _ (by rw [hg] at e2; exact e2) (al := false)) (by kernel_rfl) (fun hg => ⟨rfl, fun _ _ _ _ => rfl, trivial⟩) (fun hx => by cases hx) ?_
  refine segs [] tabOk mixed 4000 (S := .and (((decide ((((a0.length : Nat) : Int) : Int) ≤ 24)) = true → ((decide ((((a0.length : Nat) : Int) : Int) ≤ 24)) = true))) (.and ((decide ((((a0.length : Nat) : Int) : Int) ≤ 24)) = true → (decide ((((a0.length : Nat) : Int) : Int) ≤ 24)) = true) (.leaf 0))) (by kernel_rfl) ?_
  refine sk_and (fun h => h) ?_
  refine sk_and (fun h => h) ?_
  refine sk_leaf ?_
  obtain rfl := some_ h
  exact end_ok [] Try.results8 (ps := [((decide ((((a0.length : Nat) : Int) : Int) ≤ 24)) && (!r1)) = ((decide ((((a0.length : Nat) : Int) : Int) ≤ 24)) && (!r1))]) (by kernel_rfl) ⟨rfl, trivial⟩ (fun _ => ⟨rfl, by simp⟩)
set_option maxRecDepth 100000 in
theorem slices_Clone_api_Pin_ok (a0 r : List Api_Pin) (h : slices_Clone_api_Pin a0 = some r) {al : Bool} : PCalls Try.prog 33 [.pv (E35.ro a0)] al (.row 0 7 0 r.length) [.row 35 7 (E35.cR r)] := by
  unfold slices_Clone_api_Pin at h
  obtain ⟨g, h⟩ := if_ h
  obtain rfl := some_ h
  refine fn_ok tabOk Try.func33 (by kernel_rfl) (by kernel_rfl) Try.ntmps33 (by simp) ?_
  refine segs [1] tabOk mixed 4000 (S := .leaf 0) (by kernel_rfl) ?_
  refine sk_leaf ?_
  refine nil_ok (d1 := 3) (d2 := 4) (s := 7) (n := a0.length) (c := fun i j => E35.cf (a0.getD i E35.z) j) tabOk (by kernel_rfl) ?_
  intro b hb
  refine segs [] tabOk mixed 4000 (S := .br b (.leaf 0) (.leaf 1)) (by kernel_rfl) ?_
  refine sk_br ?_ ?_ <;> intro hc <;> refine sk_leaf ?_
  · obtain rfl : a0 = [] := List.eq_nil_of_length_eq_zero (hb hc)
    exact end_ok [(0, none)] Try.results33 (ps := [0 = 0, 0 = 0, E35.cR [] = []]) (by kernel_rfl) ⟨rfl, rfl, rfl, trivial⟩ (fun _ => ⟨rfl, by simp only [List.mem_cons, List.not_mem_nil, or_false, forall_eq]; exact Elem.cR_bald E35_raw _⟩)
  · refine bs_ok (d := 5) (e := 35) (s := 7) (n := 0) (cs := []) (cs' := E35.cR []) (by kernel_rfl) rfl (by kernel_rfl) ?_
    refine segs [] tabOk mixed 4000 (S := .leaf 0) (by kernel_rfl) ?_
    refine sk_leaf ?_
    refine app_ok (d := 7) (e := 35) (s := 7) (b := 24) (x := .row 16704 7 0 0) (y := .pv (E35.ro a0)) E35 (xs := []) (ys := a0) (by kernel_rfl) rfl (.row 16704 [] 0 rfl (by kernel_rfl)) (.ro a0) ⟨by simp; omega, by simp; omega⟩ (by kernel_rfl) ?_
    refine segs [] tabOk mixed 4000 (S := .leaf 0) (by kernel_rfl) ?_
    refine sk_leaf ?_
    exact end_ok [(0, some 16832)] Try.results33 (ps := [0 = 0, a0.length = a0.length, E35.cR a0 = E35.cR a0, AllPv (E35.cR a0)]) (by kernel_rfl) ⟨rfl, rfl, rfl, Elem.cR_pv _ _, trivial⟩ (fun _ => ⟨rfl, by simp only [List.mem_cons, List.not_mem_nil, or_false, forall_eq]; exact Elem.cR_bald E35_raw _⟩)
set_option maxHeartbeats 40000000 in
set_option maxRecDepth 100000 in
theorem line_fire_ok (l_a0 : List Api_Pin) (i_a0 : Nat) (hi_a0 : i_a0 < l_a0.length) (a0 : Api_Pin) (hx_a0 : l_a0.getD i_a0 (⟨0, 0, false, false, false, false, false⟩ : Api_Pin) = a0) (a1 : Bool) (r : Bool × Api_Pin) (h : line_fire a0 a1 = some r) {al : Bool} : MCalls Try.prog 45 [.ptr 0 (i_a0 * 7), .pv (.raw (.bool a1))] [.row 35 7 (E35.cR l_a0)] 1 al (.pv (.raw (.bool r.1))) [.row 35 7 (E35.cR (l_a0.set i_a0 r.2))] := by
  unfold line_fire at h
  refine fnM_ok tabOk (fz := []) Try.func45 (by kernel_rfl) (by kernel_rfl) Try.ntmps45 (by simp) (by first | (simp; done) | exact Nat.le_of_ble_eq_true rfl) ?_
  refine segs [] tabOk mixed 4000 (S := .leaf 0) (by kernel_rfl) ?_
  refine sk_leaf ?_
  refine ldx_ok (d := 9) (id := 0) (i := i_a0) (j := 2) (e := 35) (n := 1) (off := i_a0 * 7 + 2) E35 (xs := l_a0) (.raw (.bool a0.Level)) (by kernel_rfl) (by show i_a0 * 7 + 2 = i_a0 * 7 + 2; omega) (by kernel_rfl) (by first | omega | (simp <;> omega)) (by exact Nat.le_of_ble_eq_true rfl) (show E35.cf _ 2 = E35.cf a0 2 from congrArg (fun x => E35.cf x 2) hx_a0) ?_
  refine segs [] tabOk mixed 4000 (S := .br a0.Level (.leaf 0) (.and ((a1 = true → (a1 = true))) (.and ((a1 = true → (a1 = true))) (.leaf 1)))) (by kernel_rfl) ?_
  refine br_ h ?_ ?_ <;> clear h <;> intro c1 h
  · refine sk_leaf ?_
    refine ldx_ok (d := 13) (id := 0) (i := i_a0) (j := 4) (e := 35) (n := 1) (off := i_a0 * 7 + 4) E35 (xs := l_a0) (.raw (.bool a0.Up)) (by kernel_rfl) (by show i_a0 * 7 + 4 = i_a0 * 7 + 4; omega) (by kernel_rfl) (by first | omega | (simp <;> omega)) (by exact Nat.le_of_ble_eq_true rfl) (show E35.cf _ 4 = E35.cf a0 4 from congrArg (fun x => E35.cf x 4) hx_a0) ?_
    refine segs [] tabOk mixed 4000 (S := .and ((a0.Up = true → (a0.Up = true))) (.and ((a0.Up = true → (a0.Up = true))) (.leaf 0))) (by kernel_rfl) ?_
    refine sk_and (fun h => h) ?_
    refine sk_and (fun h => h) ?_
    refine sk_leaf ?_
    refine ldxG_ok (d := 18) (id := 0) (i := i_a0) (j := 3) (e := 35) (n := 1) (g := a0.Up) (ws := [a0.Up = true]) E35 (xs := l_a0) (.raw (.bool a0.Masked)) (off := i_a0 * 7 + 3) (by kernel_rfl) (by show i_a0 * 7 + 3 = i_a0 * 7 + 3; omega) (fun hg => ⟨((by decide : ∀ y0 : Bool, ((y0 = true) → (y0 = true))) a0.Up) hg, trivial⟩) (by kernel_rfl) (fun hg => ⟨(by first | omega | (simp <;> omega)), (by exact Nat.le_of_ble_eq_true rfl), (show E35.cf _ 3 = E35.cf a0 3 from congrArg (fun x => E35.cf x 3) hx_a0)⟩) ?_
    refine segs [] tabOk mixed 4000 (S := .and ((a0.Up = true → (a0.Up = true))) (.and (a0.Up = true → a0.Up = true) (.and (((a0.Up && (!a0.Masked)) = true → ((a0.Up && (!a0.Masked)) = true))) (.and (((a0.Up && (!a0.Masked)) = true → ((a0.Up && (!a0.Masked)) = true))) (.leaf 0))))) (by kernel_rfl) ?_
    refine sk_and (fun h => h) ?_
    refine sk_and (fun h => h) ?_
    refine sk_and (fun h => h) ?_
    refine sk_and (fun h => h) ?_
    refine sk_leaf ?_
    refine ldxG_ok (d := 25) (id := 0) (i := i_a0) (j := 6) (e := 35) (n := 1) (g := (a0.Up && (!a0.Masked))) (ws := [(a0.Up && (!a0.Masked)) = true]) E35 (xs := l_a0) (.raw (.bool a0.Sent)) (off := i_a0 * 7 + 6) (by kernel_rfl) (by show i_a0 * 7 + 6 = i_a0 * 7 + 6; omega) (fun hg => ⟨((by decide : ∀ y0 : Bool, ((y0 = true) → (y0 = true))) (a0.Up && (!a0.Masked))) hg, trivial⟩) (by kernel_rfl) (fun hg => ⟨(by first | omega | (simp <;> omega)), (by exact Nat.le_of_ble_eq_true rfl), (show E35.cf _ 6 = E35.cf a0 6 from congrArg (fun x => E35.cf x 6) hx_a0)⟩) ?_
    refine segs [] tabOk mixed 4000 (S := .and (((a0.Up && (!a0.Masked)) = true → ((a0.Up && (!a0.Masked)) = true))) (.and ((a0.Up && (!a0.Masked)) = true → (a0.Up && (!a0.Masked)) = true) (.br ((a0.Up && (!a0.Masked)) && (!a0.Sent)) (.leaf 0) (.leaf 1)))) (by kernel_rfl) ?_
    refine sk_and (fun h => h) ?_
    refine sk_and (fun h => h) ?_
    refine br_ h ?_ ?_ <;> clear h <;> intro c10 h
    · refine sk_leaf ?_
      refine stl_ok (id := 0) (i := i_a0) (j := 6) (e := 35) (off := i_a0 * 7 + 6) (vs := [.pv (.raw (.bool true))]) E35 (xs := l_a0) (⟨a0.Core, a0.Vec, a0.Level, a0.Masked, a0.Up, a0.Kept, true⟩ : Api_Pin) (l_a0.set i_a0 (⟨a0.Core, a0.Vec, a0.Level, a0.Masked, a0.Up, a0.Kept, true⟩ : Api_Pin)) (by first | rfl | simp only [List.set_set]) (by kernel_rfl) (by show i_a0 * 7 + 6 = i_a0 * 7 + 6; omega) (by kernel_rfl) (by first | omega | (simp <;> omega)) (by exact Nat.le_of_ble_eq_true rfl) ((show E35.cs (⟨a0.Core, a0.Vec, a0.Level, a0.Masked, a0.Up, a0.Kept, true⟩ : Api_Pin) = setCells (E35.cs a0) 6 [.pv (.raw (.bool true))] from rfl).trans (congrArg (fun x => setCells (E35.cs x) 6 [.pv (.raw (.bool true))]) hx_a0).symm) ?_
      refine segs [] tabOk mixed 4000 (S := .leaf 0) (by kernel_rfl) ?_
      refine sk_leaf ?_
      obtain rfl := some_ h
      exact endM_ok [(0, some 0)] Try.results45 (ps := [true = true, E35.cR (l_a0.set i_a0 (⟨a0.Core, a0.Vec, a0.Level, a0.Masked, a0.Up, a0.Kept, true⟩ : Api_Pin)) = E35.cR (l_a0.set i_a0 (⟨a0.Core, a0.Vec, a0.Level, a0.Masked, a0.Up, a0.Kept, true⟩ : Api_Pin)), AllPv (E35.cR (l_a0.set i_a0 (⟨a0.Core, a0.Vec, a0.Level, a0.Masked, a0.Up, a0.Kept, true⟩ : Api_Pin)))]) (by kernel_rfl) ⟨rfl, rfl, (Elem.cR_pv _ _), trivial⟩ (fun _ => ⟨rfl, by simp only [List.mem_cons, List.not_mem_nil, or_false, forall_eq_or_imp, forall_eq]; exact Elem.cR_bald E35_raw _⟩)
    · refine sk_leaf ?_
      obtain rfl := some_ h
      exact endM_ok [(0, some 0)] Try.results45 (ps := [false = false, E35.cR l_a0 = E35.cR (l_a0.set i_a0 a0), AllPv (E35.cR (l_a0.set i_a0 a0))]) (by kernel_rfl) ⟨rfl, (congrArg E35.cR (focus_same hi_a0 hx_a0).symm), (Elem.cR_pv _ _), trivial⟩ (fun _ => ⟨rfl, by simp only [List.mem_cons, List.not_mem_nil, or_false, forall_eq_or_imp, forall_eq]; exact Elem.cR_bald E35_raw _⟩)
  · refine sk_and (fun h => h) ?_
    refine sk_and (fun h => h) ?_
    refine sk_leaf ?_
    refine ldxG_ok (d := 37) (id := 0) (i := i_a0) (j := 3) (e := 35) (n := 1) (g := a1) (ws := [a1 = true]) E35 (xs := l_a0) (.raw (.bool a0.Masked)) (off := i_a0 * 7 + 3) (by kernel_rfl) (by show i_a0 * 7 + 3 = i_a0 * 7 + 3; omega) (fun hg => ⟨((by decide : ∀ y0 : Bool, ((y0 = true) → (y0 = true))) a1) hg, trivial⟩) (by kernel_rfl) (fun hg => ⟨(by first | omega | (simp <;> omega)), (by exact Nat.le_of_ble_eq_true rfl), (show E35.cf _ 3 = E35.cf a0 3 from congrArg (fun x => E35.cf x 3) hx_a0)⟩) ?_
    refine segs [] tabOk mixed 4000 (S := .and (a1 = true → a1 = true) (.br (a1 && a0.Masked) (.leaf 0) (.br a1 (.br a1 (.leaf 1) (.leaf 2)) (.leaf 3)))) (by kernel_rfl) ?_
    refine sk_and (fun h => h) ?_
    refine br_ h ?_ ?_ <;> clear h <;> intro c14 h
    · refine sk_leaf ?_
      refine stl_ok (id := 0) (i := i_a0) (j := 5) (e := 35) (off := i_a0 * 7 + 5) (vs := [.pv (.raw (.bool true))]) E35 (xs := l_a0) (⟨a0.Core, a0.Vec, a0.Level, a0.Masked, a0.Up, true, a0.Sent⟩ : Api_Pin) (l_a0.set i_a0 (⟨a0.Core, a0.Vec, a0.Level, a0.Masked, a0.Up, true, a0.Sent⟩ : Api_Pin)) (by first | rfl | simp only [List.set_set]) (by kernel_rfl) (by show i_a0 * 7 + 5 = i_a0 * 7 + 5; omega) (by kernel_rfl) (by first | omega | (simp <;> omega)) (by exact Nat.le_of_ble_eq_true rfl) ((show E35.cs (⟨a0.Core, a0.Vec, a0.Level, a0.Masked, a0.Up, true, a0.Sent⟩ : Api_Pin) = setCells (E35.cs a0) 5 [.pv (.raw (.bool true))] from rfl).trans (congrArg (fun x => setCells (E35.cs x) 5 [.pv (.raw (.bool true))]) hx_a0).symm) ?_
      refine segs [] tabOk mixed 4000 (S := .leaf 0) (by kernel_rfl) ?_
      refine sk_leaf ?_
      obtain rfl := some_ h
      exact endM_ok [(0, some 0)] Try.results45 (ps := [false = false, E35.cR (l_a0.set i_a0 (⟨a0.Core, a0.Vec, a0.Level, a0.Masked, a0.Up, true, a0.Sent⟩ : Api_Pin)) = E35.cR (l_a0.set i_a0 (⟨a0.Core, a0.Vec, a0.Level, a0.Masked, a0.Up, true, a0.Sent⟩ : Api_Pin)), AllPv (E35.cR (l_a0.set i_a0 (⟨a0.Core, a0.Vec, a0.Level, a0.Masked, a0.Up, true, a0.Sent⟩ : Api_Pin)))]) (by kernel_rfl) ⟨rfl, rfl, (Elem.cR_pv _ _), trivial⟩ (fun _ => ⟨rfl, by simp only [List.mem_cons, List.not_mem_nil, or_false, forall_eq_or_imp, forall_eq]; exact Elem.cR_bald E35_raw _⟩)
    · refine br_ h ?_ ?_ <;> clear h <;> intro c15 h
      · refine br_ h ?_ ?_ <;> clear h <;> intro c16 h
        · refine sk_leaf ?_
          refine stl_ok (id := 0) (i := i_a0) (j := 5) (e := 35) (off := i_a0 * 7 + 5) (vs := [.pv (.raw (.bool false))]) E35 (xs := l_a0) (⟨a0.Core, a0.Vec, a0.Level, a0.Masked, a0.Up, false, a0.Sent⟩ : Api_Pin) (l_a0.set i_a0 (⟨a0.Core, a0.Vec, a0.Level, a0.Masked, a0.Up, false, a0.Sent⟩ : Api_Pin)) (by first | rfl | simp only [List.set_set]) (by kernel_rfl) (by show i_a0 * 7 + 5 = i_a0 * 7 + 5; omega) (by kernel_rfl) (by first | omega | (simp <;> omega)) (by exact Nat.le_of_ble_eq_true rfl) ((show E35.cs (⟨a0.Core, a0.Vec, a0.Level, a0.Masked, a0.Up, false, a0.Sent⟩ : Api_Pin) = setCells (E35.cs a0) 5 [.pv (.raw (.bool false))] from rfl).trans (congrArg (fun x => setCells (E35.cs x) 5 [.pv (.raw (.bool false))]) hx_a0).symm) ?_
          refine segs [] tabOk mixed 4000 (S := .leaf 0) (by kernel_rfl) ?_
          refine sk_leaf ?_
          obtain rfl := some_ h
          exact endM_ok [(0, some 0)] Try.results45 (ps := [true = true, E35.cR (l_a0.set i_a0 (⟨a0.Core, a0.Vec, a0.Level, a0.Masked, a0.Up, false, a0.Sent⟩ : Api_Pin)) = E35.cR (l_a0.set i_a0 (⟨a0.Core, a0.Vec, a0.Level, a0.Masked, a0.Up, false, a0.Sent⟩ : Api_Pin)), AllPv (E35.cR (l_a0.set i_a0 (⟨a0.Core, a0.Vec, a0.Level, a0.Masked, a0.Up, false, a0.Sent⟩ : Api_Pin)))]) (by kernel_rfl) ⟨rfl, rfl, (Elem.cR_pv _ _), trivial⟩ (fun _ => ⟨rfl, by simp only [List.mem_cons, List.not_mem_nil, or_false, forall_eq_or_imp, forall_eq]; exact Elem.cR_bald E35_raw _⟩)
        · refine sk_leaf ?_
          obtain rfl := some_ h
          exact endM_ok [(0, some 0)] Try.results45 (ps := [false = false, E35.cR l_a0 = E35.cR (l_a0.set i_a0 a0), AllPv (E35.cR (l_a0.set i_a0 a0))]) (by kernel_rfl) ⟨rfl, (congrArg E35.cR (focus_same hi_a0 hx_a0).symm), (Elem.cR_pv _ _), trivial⟩ (fun _ => ⟨rfl, by simp only [List.mem_cons, List.not_mem_nil, or_false, forall_eq_or_imp, forall_eq]; exact Elem.cR_bald E35_raw _⟩)
      · refine sk_leaf ?_
        refine ldx_ok (d := 47) (id := 0) (i := i_a0) (j := 5) (e := 35) (n := 1) (off := i_a0 * 7 + 5) E35 (xs := l_a0) (.raw (.bool a0.Kept)) (by kernel_rfl) (by show i_a0 * 7 + 5 = i_a0 * 7 + 5; omega) (by kernel_rfl) (by first | omega | (simp <;> omega)) (by exact Nat.le_of_ble_eq_true rfl) (show E35.cf _ 5 = E35.cf a0 5 from congrArg (fun x => E35.cf x 5) hx_a0) ?_
        refine segs [] tabOk mixed 4000 (S := .and ((a0.Kept = true → (a0.Kept = true))) (.and ((a0.Kept = true → (a0.Kept = true))) (.leaf 0))) (by kernel_rfl) ?_
        refine sk_and (fun h => h) ?_
        refine sk_and (fun h => h) ?_
        refine sk_leaf ?_
        refine ldxG_ok (d := 52) (id := 0) (i := i_a0) (j := 3) (e := 35) (n := 1) (g := a0.Kept) (ws := [a0.Kept = true]) E35 (xs := l_a0) (.raw (.bool a0.Masked)) (off := i_a0 * 7 + 3) (by kernel_rfl) (by show i_a0 * 7 + 3 = i_a0 * 7 + 3; omega) (fun hg => ⟨((by decide : ∀ y0 : Bool, ((y0 = true) → (y0 = true))) a0.Kept) hg, trivial⟩) (by kernel_rfl) (fun hg => ⟨(by first | omega | (simp <;> omega)), (by exact Nat.le_of_ble_eq_true rfl), (show E35.cf _ 3 = E35.cf a0 3 from congrArg (fun x => E35.cf x 3) hx_a0)⟩) ?_
        refine segs [] tabOk mixed 4000 (S := .and ((a0.Kept = true → (a0.Kept = true))) (.and (a0.Kept = true → a0.Kept = true) (.br (a0.Kept && (!a0.Masked)) (.leaf 0) (.leaf 1)))) (by kernel_rfl) ?_
        refine sk_and (fun h => h) ?_
        refine sk_and (fun h => h) ?_
        refine br_ h ?_ ?_ <;> clear h <;> intro c21 h
        · refine sk_leaf ?_
          refine stl_ok (id := 0) (i := i_a0) (j := 5) (e := 35) (off := i_a0 * 7 + 5) (vs := [.pv (.raw (.bool false))]) E35 (xs := l_a0) (⟨a0.Core, a0.Vec, a0.Level, a0.Masked, a0.Up, false, a0.Sent⟩ : Api_Pin) (l_a0.set i_a0 (⟨a0.Core, a0.Vec, a0.Level, a0.Masked, a0.Up, false, a0.Sent⟩ : Api_Pin)) (by first | rfl | simp only [List.set_set]) (by kernel_rfl) (by show i_a0 * 7 + 5 = i_a0 * 7 + 5; omega) (by kernel_rfl) (by first | omega | (simp <;> omega)) (by exact Nat.le_of_ble_eq_true rfl) ((show E35.cs (⟨a0.Core, a0.Vec, a0.Level, a0.Masked, a0.Up, false, a0.Sent⟩ : Api_Pin) = setCells (E35.cs a0) 5 [.pv (.raw (.bool false))] from rfl).trans (congrArg (fun x => setCells (E35.cs x) 5 [.pv (.raw (.bool false))]) hx_a0).symm) ?_
          refine segs [] tabOk mixed 4000 (S := .leaf 0) (by kernel_rfl) ?_
          refine sk_leaf ?_
          obtain rfl := some_ h
          exact endM_ok [(0, some 0)] Try.results45 (ps := [true = true, E35.cR (l_a0.set i_a0 (⟨a0.Core, a0.Vec, a0.Level, a0.Masked, a0.Up, false, a0.Sent⟩ : Api_Pin)) = E35.cR (l_a0.set i_a0 (⟨a0.Core, a0.Vec, a0.Level, a0.Masked, a0.Up, false, a0.Sent⟩ : Api_Pin)), AllPv (E35.cR (l_a0.set i_a0 (⟨a0.Core, a0.Vec, a0.Level, a0.Masked, a0.Up, false, a0.Sent⟩ : Api_Pin)))]) (by kernel_rfl) ⟨rfl, rfl, (Elem.cR_pv _ _), trivial⟩ (fun _ => ⟨rfl, by simp only [List.mem_cons, List.not_mem_nil, or_false, forall_eq_or_imp, forall_eq]; exact Elem.cR_bald E35_raw _⟩)
        · refine sk_leaf ?_
          obtain rfl := some_ h
          exact endM_ok [(0, some 0)] Try.results45 (ps := [false = false, E35.cR l_a0 = E35.cR (l_a0.set i_a0 a0), AllPv (E35.cR (l_a0.set i_a0 a0))]) (by kernel_rfl) ⟨rfl, (congrArg E35.cR (focus_same hi_a0 hx_a0).symm), (Elem.cR_pv _ _), trivial⟩ (fun _ => ⟨rfl, by simp only [List.mem_cons, List.not_mem_nil, or_false, forall_eq_or_imp, forall_eq]; exact Elem.cR_bald E35_raw _⟩)
end Go.Proofs.Ytfnmmlcmjmepjaa

