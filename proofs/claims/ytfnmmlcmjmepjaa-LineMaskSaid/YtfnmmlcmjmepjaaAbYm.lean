import Derived.Test.YtfnmmlcmjmepjaaAbY
set_option linter.unusedVariables false
set_option linter.unusedSimpArgs false
namespace Go.Ab
open Go.RowKit
variable {P : Program} {T : Tab} {α : Type}
def mK (m : List (Int × α)) : List Value := m.map fun p => .int .i64 p.1
def Elem.mX (E : Elem α) (m : List (Int × α)) : List AV := m.map fun p => .pv (E.cf p.2 0)
theorem Elem.mX_pv (E : Elem α) (m : List (Int × α)) : AllPv (E.mX m) := by
 intro c hc
 obtain ⟨p, _, rfl⟩ := List.mem_map.1 hc
 exact ⟨_, rfl⟩
theorem mset_map (E : Elem α) (f : Nat → Nat) (i : Nat) (m : List (Int × α)) (r : List Blk) : mset f i (.map (mK m) (E.mX m) :: r) = (f i, .map (mK m) (E.mX m)) :: mset f (i + 1) r := by
 show (f i, Blk.map (mK m) (AV.renL f (E.mX m))) :: _ = _
 rw [renL_pv f (E.mX_pv m)]
theorem up_map (E : Elem α) (k : Nat) (m : List (Int × α)) : Blk.up k (.map (mK m) (E.mX m)) = .map (mK m) (E.mX m) := by
 have : ∀ cs : List AV, AllPv cs → AV.upL k cs = cs := by
  intro cs
  induction cs with
  | nil => intro _; rfl
  | cons c cs ih =>
   intro h
   obtain ⟨p, rfl⟩ := h c (by simp)
   simp only [AV.upL, AV.up]
   rw [ih fun d hd => h d (by simp [hd])]
 show Blk.map (mK m) (AV.upL k (E.mX m)) = _
 rw [this _ (E.mX_pv m)]
def NilEq : List AV → List AV → Prop
 | [], [] => True
 | x :: xs, y :: ys => (x = y ∨ (x = .pv (.raw (.slice none 0 0)) ∧ ∃ s c, y = .pv (.ro s 0 c))) ∧ NilEq xs ys
 | _, _ => False
theorem NilEq.get {ρ : Nat → Option Nat} {D F : Nat → Prop} {H : Heap} {p : PV} : ∀ {cs ds : List AV} {k : Nat}, NilEq cs ds → ds[k]? = some (.pv p) → ∃ x, cs[k]? = some x ∧ Wk ρ D F H x (.pv p)
 | [], [], k, _, h => by simp at h
 | [], _ :: _, _, hn, _ => hn.elim
 | _ :: _, [], _, hn, _ => hn.elim
 | x :: xs, y :: ys, 0, hn, h => by
  simp only [List.getElem?_cons_zero, Option.some.injEq] at h
  subst h
  refine ⟨x, rfl, ?_⟩
  rcases hn.1 with rfl | ⟨rfl, s, c, hy⟩
  ·exact .pv _
  ·rw [hy]; exact .nil s c
 | x :: xs, y :: ys, k + 1, hn, h => by
  simp only [List.getElem?_cons_succ] at h ⊢
  exact hn.2.get h
end Go.Ab

