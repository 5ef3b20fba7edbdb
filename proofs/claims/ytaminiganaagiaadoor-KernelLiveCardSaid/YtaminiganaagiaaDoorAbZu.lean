import Derived.Test.YtaminiganaagiaaDoorAbZ
import Derived.JoinedCond
import Derived.OpenShut
set_option linter.unusedVariables false
set_option linter.unusedSimpArgs false
namespace Go.Ab
open Go.RowKit Go.ChangeShapes Go.WideShapes Go.ChangeAt
structure Bulks (H : Type) where
 f : DataW H → Nat
 fs : List (DataW H) → Nat
 nil : fs [] = 0
 cons : ∀ d r, fs (d :: r) = f d + fs r
 str : ∀ b, f (.lit (.string b)) = b.length + 1
 slice : ∀ a b, f (.slice a b) = fs a + fs b + 1
 agg : ∀ a, f (.agg a) = fs a + 1
 one : ∀ d, 1 ≤ f d
theorem Bulks.part {H : Type} (B : Bulks H) : ∀ {l : List (DataW H)} {d : DataW H}, d ∈ l → B.f d ≤ B.fs l
 | x :: r, d, h => by
  rw [B.cons]
  rcases List.mem_cons.1 h with rfl | h
  ·omega
  ·have := B.part h; omega
theorem Bulks.len {H : Type} (B : Bulks H) : ∀ (l : List (DataW H)), l.length ≤ B.fs l
 | [] => by rw [B.nil]; simp
 | x :: r => by rw [B.cons, List.length_cons]; have := B.len r; have := B.one x; omega
def ReadsU (P : Program) (t : TypeId) (α : Type) (pv : α → List PV) (ok : α → Prop) : Prop :=
 ∀ (H : Type) (B : Bulks H) (enc : TypeId × Value → H) (w : World) (fuel : Nat) (cs : List Value) (d : DataW H) (ps : List MemPlace), DataW.trod enc P w 0 (fun _ => true) true fuel t cs = some (d, ps) → B.f d ≤ 1048576 →
  ∃ x, RelPs (fun k => k < w.heap.size) w (pv x) cs ∧ ok x
theorem ReadsU.map {P : Program} {t : TypeId} {α β : Type} {pv : α → List PV} {ok : α → Prop} (h : ReadsU P t α pv ok) (g : α → β) (pv' : β → List PV) (ok' : β → Prop) (h1 : ∀ x, pv' (g x) = pv x) (h2 : ∀ x, ok x → ok' (g x)) : ReadsU P t β pv' ok' := by
 intro H B enc w fuel cs d ps ht hs
 obtain ⟨x, hx, ho⟩ := h H B enc w fuel cs d ps ht hs
 exact ⟨g x, by rw [h1]; exact hx, h2 x ho⟩
end Go.Ab

