/- A library's table in its variable: what the row tells of it. -/
import Derived.Test.YtdfgmloipigmfaaDoorAbZ
import Derived.LaidMore
import Derived.OpenShut
import Derived.ChangeArms
import Derived.FnData
import Derived.MakeChecks
set_option linter.unusedVariables false
set_option linter.unusedSimpArgs false
namespace Go.Ab
open Go.RowKit

/-- The table, as a datum. -/
def tabD (tab : List Nat) : DataW Unit := .agg (tab.map fun n : Nat => .lit (.int .u8 (n : Int)))

theorem gok_of_laid {P : Program} {W : World} {g t u : Nat} (hg : P.globalNamed "math/bits.deBruijn64tab" = some g) (ht : (P.globals[g]?).map (·.type) = some t)
    (hut : P.underlying t = some (.array 64 u)) (hu : P.underlying u = some (.int .u8)) (hc : P.cellsOf u = 1) {D : DataW Unit} (hD : D = tabD Lib.deBruijn64tab)
    (h : laidMetH P [("math/bits.deBruijn64tab", D)] W) : GOk P W := by
  subst hD
  rw [MakeChecks.laidMetH_plain _ _ _ rfl] at h
  obtain ⟨ps, ⟨g0, t0, cs, f0, p0, q0, hg0, ht0, hv0, hd0, _, _⟩, _, _⟩ := h
  obtain rfl := Option.some.inj (hg.symm.trans hg0)
  obtain rfl := Option.some.inj (ht.symm.trans ht0)
  intro x hx
  have hx : x = (g, Lib.deBruijn64tab) := by
    unfold tabsOf at hx
    rw [hg] at hx
    simpa using hx
  subst hx
  obtain ⟨xs, m, rfl, hx1, hlen, hn, hel⟩ := DataW.trod_array hut hd0
  have hl64 : Lib.deBruijn64tab.length = 64 := by decide
  have hxs : xs.map (·.1) = Lib.deBruijn64tab.map fun n : Nat => DataW.lit (.int .u8 (n : Int)) := by
    have := congrArg Prod.fst hx1
    simpa [tabD] using this.symm
  have hcell : ∀ j, j < 64 → W.cell? ⟨g, j, none⟩ = some (.int .u8 (Lib.deBruijn64tab.getD j 0)) := by
    intro j hj
    have hjx : j < xs.length := by omega
    have h1 := hel j hj
    rw [hc, Nat.mul_one, List.getElem?_eq_getElem hjx] at h1
    obtain ⟨n, e1, e2, _⟩ := DataW.trod_int hu h1
    have h2 : (xs.map (·.1))[j]? = some (DataW.lit (.int .u8 n)) := by
      rw [List.getElem?_map, List.getElem?_eq_getElem hjx, e2]
      rfl
    rw [hxs, List.getElem?_map, List.getElem?_eq_getElem (by omega)] at h2
    have h3 : ((Lib.deBruijn64tab[j]'(by omega) : Nat) : Int) = n := by simpa using h2
    rw [World.var?_cell hg hv0 j]
    have h4 : cs.toList[j]? = some (.int .u8 n) := by
      have : ((cs.toList.drop j).take 1)[0]? = some (.int .u8 n) := by rw [e1]; rfl
      rw [List.getElem?_take] at this
      simpa using this
    rw [← Array.getElem?_toList, h4, ← h3]
    simp [List.getD_eq_getElem?_getD, hl64, hj]
  refine ⟨?_, fun j hj => hcell j (by simpa [hl64] using hj)⟩
  have := hcell 0 (by omega)
  simp only [World.cell?] at this
  rcases Nat.lt_or_ge g W.heap.size with h | h
  · exact h
  · rw [Array.getElem?_eq_none h] at this
    simp at this
end Go.Ab
