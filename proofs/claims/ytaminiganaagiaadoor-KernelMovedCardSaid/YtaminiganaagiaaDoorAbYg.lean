import Derived.Test.YtaminiganaagiaaDoorAbYm
import Derived.Lib.AppendZeros
import Derived.Lib.Walk
import Derived.Lib.SliceRun
set_option linter.unusedVariables false
set_option linter.unusedSimpArgs false
namespace Go.Ab
open Go.RowKit Go.Lib
variable {P : Program} {T : Tab} {α : Type}
theorem PCalls.data {f : FuncId} {args : List AV} {al : Bool} {res v : AV} {hb : List Blk} {ps : List Prop} (h : PCalls P f args al res hb) (ha : argsE (hbHeap hb) [res] [v] = some ps) (hps : allP ps) : PCalls P f args al v [] := by
 have hwk := (args1_sound (argsE_ok ha hps)).1
 refine ⟨h.1, fun R w vs hv hR hgo => (h.2 R w vs hv hR hgo).mono ?_⟩
 rintro ex w' ⟨u, ι', rfl, hbel, hB, hr, hnew, hinj, hlt⟩
 refine ⟨u, fun _ => none, rfl, hbel, fun i b hb => by simp at hb, ?_, fun i b g c hb => by simp at hb, fun i j b b' g c c' hb => by simp at hb, fun i x hx => by cases hx⟩
 refine wk_sound (H := hbHeap hb) (ι := ι') hB (fun k hk => ?_) (fun _ _ _ hd => hd.elim) (fun _ hd => hd.elim) (fun i b g c _ hb hi => ?_) hwk u hr
 ·rcases hk with hk | ⟨h1, h2, _⟩
  ·exact .inl hk
  ·exact .inr ⟨h1, h2, fun i b c hb => by simp at hb⟩
 ·refine .inr ⟨hnew i b g c hb hi, ?_, fun i b c hb => by simp at hb⟩
  have := hB i b hb
  cases b with
  | box cells =>
   obtain ⟨g', k, cur, e, hi', hh, _⟩ := this
   rw [hi] at hi'
   cases hi'
   exact (Array.getElem?_eq_some_iff.1 hh).1
  | row e s cells =>
   obtain ⟨n, _, _, _, hrow⟩ := this
   rcases hrow with ⟨hi', _⟩ | ⟨g', cap, base, cur, hi', hh, _⟩
   ·rw [hi] at hi'; cases hi'
   ·rw [hi] at hi'
    cases hi'
    exact (Array.getElem?_eq_some_iff.1 hh).1
  | map ks xs =>
   obtain ⟨g', c', es, ck, hi', hh, _⟩ := this
   rw [hi] at hi'
   cases hi'
   exact (Array.getElem?_eq_some_iff.1 hh).1
theorem raw_pcalls {f : FuncId} (hf : FnOk P f) {xs : List Value} {v : Value} {al : Bool} (h : ∀ w : World, GOk P w → Calls P f xs.toArray w fun ex w' => ex = .returned v ∧ w' = w) :
  PCalls P f (xs.map fun v => .pv (.raw v)) al (.pv (.raw v)) [] := by
 refine ⟨hf, fun R w vs hv hR hgo => ?_⟩
 have hrest : vs = xs := by
  have key : ∀ (rest us : List Value), RelL (fun _ => none) R w (rest.map fun v => .pv (.raw v)) us → us = rest := by
   intro rest
   induction rest with
   | nil =>
    intro us h
    cases us with
    | nil => rfl
    | cons _ _ => simp [RelL] at h
   | cons r rest ih =>
    intro us h
    cases us with
    | nil => simp [RelL] at h
    | cons v us =>
     simp only [List.map_cons, RelL] at h
     rw [raw_inv h.1, ih us h.2]
  exact key xs vs hv
 subst hrest
 refine (h w hgo).mono ?_
 rintro ex w' ⟨rfl, rfl⟩
 refine ⟨v, fun _ => none, rfl, Below.refl _ _, fun i b hb => by simp at hb, ?_, fun i b g c hb => by simp at hb, fun i j b b' g c c' hb => by simp at hb, fun i x hx => by cases hx⟩
 simp only [RelA, RelP]
def cpL {α : Type} (xs : List α) (off m : Nat) (ys : List α) : List α := xs.take off ++ ys.take m ++ xs.drop (off + m)
@[simp] theorem cpL_length {α : Type} (xs : List α) (off m : Nat) (ys : List α) : (cpL xs off m ys).length = min off xs.length + min m ys.length + (xs.length - (off + m)) := by
 simp [cpL]; omega
end Go.Ab

