import Derived.Test.YtfnmmlcmjmepjaaAbYm
import Derived.Lib.AppendZeros
import Derived.Lib.Walk
import Derived.Lib.SliceRun
set_option linter.unusedVariables false
set_option linter.unusedSimpArgs false
namespace Go.Ab
open Go.RowKit Go.Lib
variable {P : Program} {T : Tab} {α : Type}
def GrowPost (e : TypeId) (s : Nat) (w : World) (ex : Ending) (w' : World) : Prop :=
 (ex = .returned (.slice none 0 0) ∧ w' = w) ∨ ∃ cap cur, ex = .returned (.slice (some ⟨w.heap.size, 0, none⟩) 0 cap) ∧ w' = w.drew.alloc (.cells cur e) ∧ cur.size = cap * s ∧ cap ≤ maxLen
theorem grow_pcalls {f : FuncId} (hf : FnOk P f) {e : TypeId} {n : Int} {al : Bool} {E : Elem α} (hs : 0 < E.s)
  (hG : ∀ w : World, Calls P f #[.slice none 0 0, .int .i64 n] w fun ex w' => GrowPost e E.s w ex w') :
  PCalls P f [.pv (.raw (.slice none 0 0)), .pv (.raw (.int .i64 n))] al (.row 0 E.s 0 ([] : List α).length) [.row e E.s (E.cR [])] := by
 refine ⟨hf, fun R w vs hv hR _ => ?_⟩
 match vs, hv with
 | [u, v], hv =>
  simp only [RelL] at hv
  obtain ⟨h1, h2, _⟩ := hv
  obtain rfl := raw_inv h1
  obtain rfl := raw_inv h2
  refine (hG w).mono ?_
  rintro ex w' (⟨rfl, rfl⟩ | ⟨cap, cur, rfl, rfl, hsz, hcap⟩)
  ·refine ⟨_, fun i => if i = 0 then some none else none, rfl, Below.refl _ _, ?_, ?_, ?_, ?_, ?_⟩
   ·intro i b hb
    cases i with
    | zero =>
     simp at hb
     subst hb
     exact ⟨0, by simp [Elem.cR], hs, by omega, .inl ⟨rfl, rfl⟩⟩
    | succ i => simp at hb
   ·simp only [RelA]
    exact .inl ⟨by simp, by simp, by simp, by first | trivial | rfl⟩
   ·intro i b g c hb hi
    cases i with
    | zero => simp at hi
    | succ i => simp at hb
   ·intro i j b b' g c c' hb hb' hi hj
    cases i with
    | zero => simp at hi
    | succ i => simp at hb
   ·intro i x hi
    cases i with
    | zero => simp
    | succ i => simp at hi
  ·refine ⟨_, fun i => if i = 0 then some (some (w.heap.size, ⟨cap, 0⟩)) else none, rfl, below_drew_alloc w _, ?_, ?_, ?_, ?_, ?_⟩
   ·intro i b hb
    cases i with
    | zero =>
     simp at hb
     subst hb
     refine ⟨0, by simp [Elem.cR], hs, by omega, .inr ⟨w.heap.size, cap, 0, cur, rfl, heap_alloc_new w.drew _, by rw [Nat.zero_add]; exact hsz, Nat.zero_le _, hcap, ?_, ?_⟩⟩
     ·simp [Elem.cR, RelL]
     ·intro u hu; simp at hu
    | succ i => simp at hb
   ·simp only [RelA]
    exact .inr ⟨w.heap.size, ⟨cap, 0⟩, some ⟨w.heap.size, 0, none⟩, by simp, by first | rfl | simp, by simp, fun _ => by simp⟩
   ·intro i b g c hb hi
    cases i with
    | zero =>
     simp only [if_true, Option.some.injEq, Prod.mk.injEq] at hi
     omega
    | succ i => simp at hb
   ·intro i j b b' g c c' hb hb' hi hj
    cases i with
    | zero =>
     cases j with
     | zero => rfl
     | succ j => simp at hb'
    | succ i => simp at hb
   ·intro i x hi
    cases i with
    | zero => simp
    | succ i => simp at hi
theorem PCalls.data {f : FuncId} {args : List AV} {al : Bool} {res v : AV} {hb : List Blk} {ps : List Prop} (h : PCalls P f args al res hb) (ha : argsE (hbHeap hb) [res] [v] = some ps) (hps : allP ps) : PCalls P f args al v [] := by
 have hwk := (args1_sound (argsE_ok ha hps)).1
 refine ⟨h.1, fun R w vs hv hR hgo => (h.2 R w vs hv hR hgo).mono ?_⟩
 rintro ex w' ⟨u, ι', rfl, hbel, hB, hr, hnew, hinj, hlt⟩
 refine ⟨u, fun _ => none, rfl, hbel, fun i b hb => by simp at hb, ?_, fun i b g c hb => by simp at hb, fun i j b b' g c c' hb => by simp at hb, fun i x hx => by cases hx⟩
 refine wk_sound (H := hbHeap hb) (ι := ι') hB (fun k hk => ?_) (fun _ _ _ hd => hd.elim) (fun _ hd => hd.elim) (fun i b g c _ hb hi => ?_) hwk u hr
 ·rcases hk with hk | ⟨h1, h2, _⟩
  ·exact .inl hk
  ·exact .inr ⟨h1, h2, fun i b c hb => by simp at hb⟩
 ·refine .inr ⟨hnew i b g c hb hi, ?_, fun i b c hb => by simp at hb⟩
  have := hB i b hb
  cases b with
  | box cells =>
   obtain ⟨g', k, cur, e, hi', hh, _⟩ := this
   rw [hi] at hi'
   cases hi'
   exact (Array.getElem?_eq_some_iff.1 hh).1
  | row e s cells =>
   obtain ⟨n, _, _, _, hrow⟩ := this
   rcases hrow with ⟨hi', _⟩ | ⟨g', cap, base, cur, hi', hh, _⟩
   ·rw [hi] at hi'; cases hi'
   ·rw [hi] at hi'
    cases hi'
    exact (Array.getElem?_eq_some_iff.1 hh).1
  | map ks xs =>
   obtain ⟨g', c', es, ck, hi', hh, _⟩ := this
   rw [hi] at hi'
   cases hi'
   exact (Array.getElem?_eq_some_iff.1 hh).1
def cpL {α : Type} (xs : List α) (off m : Nat) (ys : List α) : List α := xs.take off ++ ys.take m ++ xs.drop (off + m)
@[simp] theorem cpL_length {α : Type} (xs : List α) (off m : Nat) (ys : List α) : (cpL xs off m ys).length = min off xs.length + min m ys.length + (xs.length - (off + m)) := by
 simp [cpL]; omega
end Go.Ab

