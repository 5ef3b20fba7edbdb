import Derived.Test.YtegafdnfcijemaaTA
import Derived.Test.YtegafdnfcijemaaAbV
set_option linter.unusedSimpArgs false
set_option linter.unusedVariables false
set_option maxRecDepth 20000
namespace Go.Proofs.Ytegafdnfcijemaa
open Go Go.Ab
theorem cells4 : Try.prog.cellsOf 4 = 1 := by kernel_rfl
theorem cells67 : Try.prog.cellsOf 67 = 2 := by kernel_rfl
theorem cells22 : Try.prog.cellsOf 22 = 1 := by kernel_rfl
theorem cells24 : Try.prog.cellsOf 24 = 2 := by kernel_rfl
theorem bytes67 : Try.prog.bytesOf 67 = 2 := by kernel_rfl
theorem reads_fr : Reads Try.prog 67 Fr (fun f => [.raw (.bool f.1), .raw (.bool f.2)]) (fun _ => True) :=
  (reads_struct Try.underlying67 (readsFs_cons (reads_bool Try.underlying4) rfl cells4 rfl (readsFs_cons (reads_bool Try.underlying4) rfl cells4 rfl readsFs_nil)) (by kernel_rfl)).map (fun x => (x.1, x.2.1)) _ _ (fun _ => rfl) (fun _ _ => trivial)
theorem reads_frs : Reads Try.prog 22 (List Fr) (fun fs => [.ro 2 fs.length (frCell fs)]) (fun fs => fs.length * 2 ≤ reachBytes ∧ ∀ x ∈ fs, True) :=
  reads_slice frCell Try.underlying22 reads_fr cells67 (by decide) bytes67 (by decide) (fun xs i hi j hj => by
    rcases (show j = 0 ∨ j = 1 by omega) with rfl | rfl <;> rfl)
theorem reads_core : Reads Try.prog 24 (Bool × List Fr) (fun c => [.raw (.bool c.1), .ro 2 c.2.length (frCell c.2)]) (fun c => c.2.length * 2 ≤ reachBytes) :=
  (reads_struct Try.underlying24 (readsFs_cons (reads_bool Try.underlying4) rfl cells4 rfl (readsFs_cons reads_frs rfl cells22 rfl readsFs_nil)) (by kernel_rfl)).map (fun x => (x.1, x.2.1)) _ _ (fun _ => rfl) (fun _ h => h.2.1.1)
end Go.Proofs.Ytegafdnfcijemaa
