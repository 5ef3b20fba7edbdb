/- slices.Grow from nothing: what it comes to. -/
import Derived.Test.YtdfgmloipigmfaaDoorAbYm
import Derived.Lib.AppendZeros
import Derived.Lib.Walk
import Derived.Lib.SliceRun
set_option linter.unusedVariables false
set_option linter.unusedSimpArgs false
namespace Go.Ab
open Go.RowKit Go.Lib

/-- A number by a name of its own: a row's place in an array, told case by case. -/
def atN {α : Type} (x : Nat) (f : Nat → Option α) : Option α := f x
theorem spl_ {α : Type} {x : Nat} {f : Nat → Option α} {r : α} (h : atN x f = some r) : ∃ k, k = x ∧ f k = some r := ⟨x, rfl, h⟩
/-- Ids, but for one. -/
def rsel (k n : Nat) (f : Nat → Nat) (j : Nat) : Nat := bif Nat.beq j k then n else f j

variable {P : Program} {T : Tab} {α : Type}

/-- What a call of it leaves. -/
def GrowPost (e : TypeId) (s : Nat) (w : World) (ex : Ending) (w' : World) : Prop :=
  (ex = .returned (.slice none 0 0) ∧ w' = w) ∨ ∃ cap cur, ex = .returned (.slice (some ⟨w.heap.size, 0, none⟩) 0 cap) ∧ w' = w.drew.alloc (.cells cur e) ∧ cur.size = cap * s ∧ cap ≤ maxLen

theorem grow_pcalls {f : FuncId} (hf : FnOk P f) {e : TypeId} {n : Int} {al : Bool} {E : Elem α} (hs : 0 < E.s)
    (hG : ∀ w : World, Calls P f #[.slice none 0 0, .int .i64 n] w fun ex w' => GrowPost e E.s w ex w') :
    PCalls P f [.pv (.raw (.slice none 0 0)), .pv (.raw (.int .i64 n))] al (.row 0 E.s 0 ([] : List α).length) [.row e E.s (E.cR [])] := by
  refine ⟨hf, fun R w vs hv hR _ => ?_⟩
  match vs, hv with
  | [u, v], hv =>
    simp only [RelL] at hv
    obtain ⟨h1, h2, _⟩ := hv
    obtain rfl := raw_inv h1
    obtain rfl := raw_inv h2
    refine (hG w).mono ?_
    rintro ex w' (⟨rfl, rfl⟩ | ⟨cap, cur, rfl, rfl, hsz, hcap⟩)
    · refine ⟨_, fun i => if i = 0 then some none else none, rfl, Below.refl _ _, ?_, ?_, ?_, ?_, ?_⟩
      · intro i b hb
        cases i with
        | zero =>
          simp at hb
          subst hb
          exact ⟨0, by simp [Elem.cR], hs, by omega, .inl ⟨rfl, rfl⟩⟩
        | succ i => simp at hb
      · simp only [RelA]
        exact .inl ⟨by simp, by simp, by simp, by first | trivial | rfl⟩
      · intro i b g c hb hi
        cases i with
        | zero => simp at hi
        | succ i => simp at hb
      · intro i j b b' g c c' hb hb' hi hj
        cases i with
        | zero => simp at hi
        | succ i => simp at hb
      · intro i x hi
        cases i with
        | zero => simp
        | succ i => simp at hi
    · refine ⟨_, fun i => if i = 0 then some (some (w.heap.size, ⟨cap, 0⟩)) else none, rfl, below_drew_alloc w _, ?_, ?_, ?_, ?_, ?_⟩
      · intro i b hb
        cases i with
        | zero =>
          simp at hb
          subst hb
          refine ⟨0, by simp [Elem.cR], hs, by omega, .inr ⟨w.heap.size, cap, 0, cur, rfl, heap_alloc_new w.drew _, by rw [Nat.zero_add]; exact hsz, Nat.zero_le _, hcap, ?_, ?_⟩⟩
          · simp [Elem.cR, RelL]
          · intro u hu; simp at hu
        | succ i => simp at hb
      · simp only [RelA]
        exact .inr ⟨w.heap.size, ⟨cap, 0⟩, some ⟨w.heap.size, 0, none⟩, by simp, by first | rfl | simp, by simp, fun _ => by simp⟩
      · intro i b g c hb hi
        cases i with
        | zero =>
          simp only [if_true, Option.some.injEq, Prod.mk.injEq] at hi
          omega
        | succ i => simp at hb
      · intro i j b b' g c c' hb hb' hi hj
        cases i with
        | zero =>
          cases j with
          | zero => rfl
          | succ j => simp at hb'
        | succ i => simp at hb
      · intro i x hi
        cases i with
        | zero => simp
        | succ i => simp at hi

/-- What a call makes, taken as data. -/
theorem PCalls.data {f : FuncId} {args : List AV} {al : Bool} {res v : AV} {hb : List Blk} {ps : List Prop} (h : PCalls P f args al res hb) (ha : argsE (hbHeap hb) [res] [v] = some ps) (hps : allP ps) : PCalls P f args al v [] := by
  have hwk := (args1_sound (argsE_ok ha hps)).1
  refine ⟨h.1, fun R w vs hv hR hgo => (h.2 R w vs hv hR hgo).mono ?_⟩
  rintro ex w' ⟨u, ι', rfl, hbel, hB, hr, hnew, hinj, hlt⟩
  refine ⟨u, fun _ => none, rfl, hbel, fun i b hb => by simp at hb, ?_, fun i b g c hb => by simp at hb, fun i j b b' g c c' hb => by simp at hb, fun i x hx => by cases hx⟩
  refine wk_sound (H := hbHeap hb) (ι := ι') hB (fun k hk => ?_) (fun _ _ _ hd => hd.elim) (fun _ hd => hd.elim) (fun i b g c _ hb hi => ?_) hwk u hr
  · rcases hk with hk | ⟨h1, h2, _⟩
    · exact .inl hk
    · exact .inr ⟨h1, h2, fun i b c hb => by simp at hb⟩
  · refine .inr ⟨hnew i b g c hb hi, ?_, fun i b c hb => by simp at hb⟩
    have := hB i b hb
    cases b with
    | box cells =>
      obtain ⟨g', k, cur, e, hi', hh, _⟩ := this
      rw [hi] at hi'
      cases hi'
      exact (Array.getElem?_eq_some_iff.1 hh).1
    | row e s cells =>
      obtain ⟨n, _, _, _, hrow⟩ := this
      rcases hrow with ⟨hi', _⟩ | ⟨g', cap, base, cur, hi', hh, _⟩
      · rw [hi] at hi'; cases hi'
      · rw [hi] at hi'
        cases hi'
        exact (Array.getElem?_eq_some_iff.1 hh).1
    | map ks xs =>
      obtain ⟨g', c', es, ck, hi', hh, _⟩ := this
      rw [hi] at hi'
      cases hi'
      exact (Array.getElem?_eq_some_iff.1 hh).1

/-- A function of plain values that leaves the world as it was. -/
theorem raw_pcalls {f : FuncId} (hf : FnOk P f) {xs : List Value} {v : Value} {al : Bool} (h : ∀ w : World, GOk P w → Calls P f xs.toArray w fun ex w' => ex = .returned v ∧ w' = w) :
    PCalls P f (xs.map fun v => .pv (.raw v)) al (.pv (.raw v)) [] := by
  refine ⟨hf, fun R w vs hv hR hgo => ?_⟩
  have hrest : vs = xs := by
    have key : ∀ (rest us : List Value), RelL (fun _ => none) R w (rest.map fun v => .pv (.raw v)) us → us = rest := by
      intro rest
      induction rest with
      | nil =>
        intro us h
        cases us with
        | nil => rfl
        | cons _ _ => simp [RelL] at h
      | cons r rest ih =>
        intro us h
        cases us with
        | nil => simp [RelL] at h
        | cons v us =>
          simp only [List.map_cons, RelL] at h
          rw [raw_inv h.1, ih us h.2]
    exact key xs vs hv
  subst hrest
  refine (h w hgo).mono ?_
  rintro ex w' ⟨rfl, rfl⟩
  refine ⟨v, fun _ => none, rfl, Below.refl _ _, fun i b hb => by simp at hb, ?_, fun i b g c hb => by simp at hb, fun i j b b' g c c' hb => by simp at hb, fun i x hx => by cases hx⟩
  simp only [RelA, RelP]

/-- A list, written over from a place on. -/
def cpL {α : Type} (xs : List α) (off m : Nat) (ys : List α) : List α := xs.take off ++ ys.take m ++ xs.drop (off + m)

@[simp] theorem cpL_length {α : Type} (xs : List α) (off m : Nat) (ys : List α) : (cpL xs off m ys).length = min off xs.length + min m ys.length + (xs.length - (off + m)) := by
  simp [cpL]; omega

theorem setCells_eq : ∀ (cs cells : List AV) (off : Nat), off + cs.length ≤ cells.length → setCells cells off cs = cells.take off ++ cs ++ cells.drop (off + cs.length)
  | [], cells, off, _ => by simp [setCells]
  | c :: cs, cells, off, h => by
    rw [List.length_cons] at h
    rw [setCells, setCells_eq cs _ (off + 1) (by rw [List.length_set]; omega)]
    apply List.ext_getElem?
    intro j
    simp only [List.getElem?_append, List.length_append, List.length_take, List.length_set, List.getElem?_take, List.getElem?_set, List.getElem?_drop, List.length_cons, List.append_assoc]
    have e1 : min (off + 1) cells.length = off + 1 := by omega
    have e2 : min off cells.length = off := by omega
    rw [e1, e2]
    by_cases h1 : j < off
    · rw [if_pos (by omega), if_pos (by omega), if_neg (by omega), if_pos h1, if_pos h1]
    · by_cases h2 : j = off
      · subst h2
        simp; omega
      · rw [if_neg (by omega), if_neg h1]
        by_cases h3 : j - (off + 1) < cs.length
        · rw [if_pos h3, if_pos (by omega)]
          rw [show j - off = (j - (off + 1)) + 1 by omega, List.getElem?_cons_succ]
        · rw [if_neg h3, if_neg (by omega), if_neg (by omega)]
          congr 1
          omega

theorem Elem.cR_cpL (E : Elem α) (xs ys : List α) (off m : Nat) (hm : m ≤ ys.length) (h : off + m ≤ xs.length) : setCells (E.cR xs) (off * E.s) ((E.cR ys).take (m * E.s)) = E.cR (cpL xs off m ys) := by
  have e1 : (E.cR ys).take (m * E.s) = E.cR (ys.take m) := E.cR_take m ys
  have e2 : (ys.take m).length = m := by rw [List.length_take]; omega
  rw [e1, setCells_eq _ _ _ (by rw [E.cR_length, E.cR_length, e2, ← Nat.add_mul]; exact Nat.mul_le_mul_right _ h), E.cR_length, e2, ← Nat.add_mul]
  unfold cpL
  rw [E.cR_append, E.cR_append]
  congr 1
  · congr 1
    exact E.cR_take off xs
  · have := congrArg (fun l => l.drop ((off + m) * E.s)) (congrArg E.cR (List.take_append_drop (off + m) xs).symm)
    simp only [E.cR_append] at this
    rw [this, List.drop_append, E.cR_length, List.length_take, show min (off + m) xs.length = off + m by omega, List.drop_of_length_le (by rw [E.cR_length, List.length_take, show min (off + m) xs.length = off + m by omega]; exact Nat.le_refl _)]
    simp

/-- The copy at hand: where to, what, the size of an element. -/
def cpV (T : Tab) (l : Lf) : Option (Nat × AV × AV × Nat) :=
  match hardV l with
  | some (d, o) => match o.op with
    | .call { callee := .builtin .copy, args := args, argTypes := ts } => match args.toList, ts.toList with
      | [s, x], [t, t'] => match T t with
        | some { under := .slice e, .. } => match T e with
          | some ti => bif Nat.blt 0 ti.size then some (d, l.σ.bev s, l.σ.bev x, ti.size) else none
          | none => none
        | _ => none
      | _, _ => none
    | _ => none
  | none => none

theorem cp_ok {Q : Exit → AS → Prop} {l : Lf} {d s id e off len : Nat} {y : AV} (E : Elem α) {xs ys : List α} (hv : cpV T l = some (d, .row id s off len, y, s)) (hE : E.s = s) (hid : l.σ.heap id = some (.row e s (E.cR xs))) (hy : NewIs l.σ.heap E y ys)
    (hb : off + len ≤ xs.length)
    (hk : VS P T Q l.rest .normal (l.σ.eff (some d) (.raw (.int .i64 ((min ys.length len : Nat) : Int))) [(id, .row e s (E.cR (cpL xs off (min ys.length len) ys)))] [])) : V P T Q l := by
  unfold cpV at hv
  split at hv
  · rename_i d' o hh
    split at hv
    · rename_i args ts hop
      split at hv
      · rename_i sx xx t t' hargs hts
        split at hv
        · rename_i e1 _ _ _ _ ht
          split at hv
          · rename_i ti hti
            revert hv
            cases hbb : Nat.blt 0 ti.size with
            | false => intro hv; cases hv
            | true =>
              intro hv
              simp only [cond_true, Option.some.injEq, Prod.mk.injEq] at hv
              obtain ⟨rfl, hsx, rfl, rfl⟩ := hv
              have h2 : 0 < ti.size := Nat.le_of_ble_eq_true hbb
              obtain ⟨n1, n2, n3⟩ := hy.news
              rw [hE] at n1 n2 n3
              have hcl := E.cR_cpL xs ys off (min ys.length len) (Nat.min_le_left _ _) (by have := Nat.min_le_right ys.length len; omega)
              rw [hE] at hcl
              refine hard_ok (T := T) hh (e := _) rfl ?_ (.inl ?_) ?_
              rotate_left
              · rw [hop]; rfl
              all_goals (unfold effOf; simp only [hop, hargs, hts, ht, hti, hsx, hid])
              rotate_left
              · refine ⟨n1, h2, trivial, trivial, ?_⟩
                rw [E.cR_length, hE]
                exact Nat.mul_le_mul_right _ hb
              · rw [n2, n3, hcl]
                exact hk
          · cases hv
        · cases hv
      · cases hv
    · cases hv
  · cases hv

/-- A part of a row set to zero. -/
def clV (T : Tab) (l : Lf) : Option (AV × Nat × List AV) :=
  match storeV l with
  | some o => match o.op with
    | .call { callee := .builtin .clear, args := args, argTypes := ts } => match args.toList, ts.toList with
      | [s], [t] => match T t with
        | some { under := .slice e, .. } => match T e with
          | some ti => bif decide (0 < ti.size) && decide (ti.zero.cells.size = ti.size) && (ti.zero.cells.toList.map AV.raw).all AV.one then some (l.σ.bev s, ti.size, ti.zero.cells.toList.map AV.raw) else none
          | none => none
        | _ => none
      | _, _ => none
    | _ => none
  | none => none

theorem cl_ok {Q : Exit → AS → Prop} {l : Lf} {s id e off len : Nat} {zs : List AV} (E : Elem α) {xs : List α} (hv : clV T l = some (.row id s off len, s, zs)) (hE : E.s = s) (hz : zs = E.cs E.z) (hid : l.σ.heap id = some (.row e s (E.cR xs)))
    (hb : off + len ≤ xs.length)
    (hk : VS P T Q l.rest .normal (l.σ.eff none (.tup []) [(id, .row e s (E.cR (cpL xs off len (List.replicate len E.z))))] [])) : V P T Q l := by
  unfold clV at hv
  split at hv
  · rename_i o hh
    split at hv
    · rename_i args ts hop
      split at hv
      · rename_i sx t hargs hts
        split at hv
        · rename_i e1 _ _ _ _ ht
          split at hv
          · rename_i ti hti
            revert hv
            cases hbb : decide (0 < ti.size) && decide (ti.zero.cells.size = ti.size) && (ti.zero.cells.toList.map AV.raw).all AV.one with
            | false => intro hv; cases hv
            | true =>
              intro hv
              simp only [cond_true, Option.some.injEq, Prod.mk.injEq] at hv
              obtain ⟨hsx, rfl, hzs⟩ := hv
              simp only [Bool.and_eq_true, decide_eq_true_eq] at hbb
              obtain ⟨⟨h1, h2⟩, h3⟩ := hbb
              have hrep := rep_cR E ti.zero.cells.toList E.z (hzs.trans hz) len
              have hcl := E.cR_cpL xs (List.replicate len E.z) off len (by simp) hb
              rw [List.take_of_length_le (by rw [E.cR_length]; simp)] at hcl
              rw [hE] at hcl hrep
              refine store_ok (T := T) hh (e := _) rfl ?_ ?_
              all_goals (unfold effOf; simp only [hop, hargs, hts, ht, hti, hsx, hid])
              · refine ⟨h1, trivial, trivial, h2, h3, ?_⟩
                rw [E.cR_length, hE]
                exact Nat.mul_le_mul_right _ hb
              · rw [hrep, hcl]
                exact hk
          · cases hv
        · cases hv
      · cases hv
    · cases hv
  · cases hv

end Go.Ab
