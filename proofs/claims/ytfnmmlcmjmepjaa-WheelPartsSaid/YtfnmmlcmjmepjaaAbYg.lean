import Derived.Test.YtfnmmlcmjmepjaaAbYm
import Derived.Lib.AppendZeros
import Derived.Lib.Walk
import Derived.Lib.SliceRun
set_option linter.unusedVariables false
set_option linter.unusedSimpArgs false
namespace Go.Ab
open Go.RowKit Go.Lib
variable {P : Program} {T : Tab} {α : Type}
def cpL {α : Type} (xs : List α) (off m : Nat) (ys : List α) : List α := xs.take off ++ ys.take m ++ xs.drop (off + m)
@[simp] theorem cpL_length {α : Type} (xs : List α) (off m : Nat) (ys : List α) : (cpL xs off m ys).length = min off xs.length + min m ys.length + (xs.length - (off + m)) := by
 simp [cpL]; omega
theorem setCells_eq : ∀ (cs cells : List AV) (off : Nat), off + cs.length ≤ cells.length → setCells cells off cs = cells.take off ++ cs ++ cells.drop (off + cs.length)
 | [], cells, off, _ => by simp [setCells]
 | c :: cs, cells, off, h => by
  rw [List.length_cons] at h
  rw [setCells, setCells_eq cs _ (off + 1) (by rw [List.length_set]; omega)]
  apply List.ext_getElem?
  intro j
  simp only [List.getElem?_append, List.length_append, List.length_take, List.length_set, List.getElem?_take, List.getElem?_set, List.getElem?_drop, List.length_cons, List.append_assoc]
  have e1 : min (off + 1) cells.length = off + 1 := by omega
  have e2 : min off cells.length = off := by omega
  rw [e1, e2]
  by_cases h1 : j < off
  ·rw [if_pos (by omega), if_pos (by omega), if_neg (by omega), if_pos h1, if_pos h1]
  ·by_cases h2 : j = off
   ·subst h2
    simp; omega
   ·rw [if_neg (by omega), if_neg h1]
    by_cases h3 : j - (off + 1) < cs.length
    ·rw [if_pos h3, if_pos (by omega)]
     rw [show j - off = (j - (off + 1)) + 1 by omega, List.getElem?_cons_succ]
    ·rw [if_neg h3, if_neg (by omega), if_neg (by omega)]
     congr 1
     omega
theorem Elem.cR_cpL (E : Elem α) (xs ys : List α) (off m : Nat) (hm : m ≤ ys.length) (h : off + m ≤ xs.length) : setCells (E.cR xs) (off * E.s) ((E.cR ys).take (m * E.s)) = E.cR (cpL xs off m ys) := by
 have e1 : (E.cR ys).take (m * E.s) = E.cR (ys.take m) := E.cR_take m ys
 have e2 : (ys.take m).length = m := by rw [List.length_take]; omega
 rw [e1, setCells_eq _ _ _ (by rw [E.cR_length, E.cR_length, e2, ← Nat.add_mul]; exact Nat.mul_le_mul_right _ h), E.cR_length, e2, ← Nat.add_mul]
 unfold cpL
 rw [E.cR_append, E.cR_append]
 congr 1
 ·congr 1
  exact E.cR_take off xs
 ·have := congrArg (fun l => l.drop ((off + m) * E.s)) (congrArg E.cR (List.take_append_drop (off + m) xs).symm)
  simp only [E.cR_append] at this
  rw [this, List.drop_append, E.cR_length, List.length_take, show min (off + m) xs.length = off + m by omega, List.drop_of_length_le (by rw [E.cR_length, List.length_take, show min (off + m) xs.length = off + m by omega]; exact Nat.le_refl _)]
  simp
def clV (T : Tab) (l : Lf) : Option (AV × Nat × List AV) :=
 match storeV l with
 | some o => match o.op with
  | .call { callee := .builtin .clear, args := args, argTypes := ts } => match args.toList, ts.toList with
   | [s], [t] => match T t with
    | some { under := .slice e, .. } => match T e with
     | some ti => bif decide (0 < ti.size) && decide (ti.zero.cells.size = ti.size) && (ti.zero.cells.toList.map AV.raw).all AV.one then some (l.σ.bev s, ti.size, ti.zero.cells.toList.map AV.raw) else none
     | none => none
    | _ => none
   | _, _ => none
  | _ => none
 | none => none
theorem cl_ok {Q : Exit → AS → Prop} {l : Lf} {s id e off len : Nat} {zs : List AV} (E : Elem α) {xs : List α} (hv : clV T l = some (.row id s off len, s, zs)) (hE : E.s = s) (hz : zs = E.cs E.z) (hid : l.σ.heap id = some (.row e s (E.cR xs)))
  (hb : off + len ≤ xs.length)
  (hk : VS P T Q l.rest .normal (l.σ.eff none (.tup []) [(id, .row e s (E.cR (cpL xs off len (List.replicate len E.z))))] [])) : V P T Q l := by
 unfold clV at hv
 split at hv
 ·rename_i o hh
  split at hv
  ·rename_i args ts hop
   split at hv
   ·rename_i sx t hargs hts
    split at hv
    ·rename_i e1 _ _ _ _ ht
     split at hv
     ·rename_i ti hti
      revert hv
      cases hbb : decide (0 < ti.size) && decide (ti.zero.cells.size = ti.size) && (ti.zero.cells.toList.map AV.raw).all AV.one with
      | false => intro hv; cases hv
      | true =>
       intro hv
       simp only [cond_true, Option.some.injEq, Prod.mk.injEq] at hv
       obtain ⟨hsx, rfl, hzs⟩ := hv
       simp only [Bool.and_eq_true, decide_eq_true_eq] at hbb
       obtain ⟨⟨h1, h2⟩, h3⟩ := hbb
       have hrep := rep_cR E ti.zero.cells.toList E.z (hzs.trans hz) len
       have hcl := E.cR_cpL xs (List.replicate len E.z) off len (by simp) hb
       rw [List.take_of_length_le (by rw [E.cR_length]; simp)] at hcl
       rw [hE] at hcl hrep
       refine store_ok (T := T) hh (e := _) rfl ?_ ?_
       all_goals (unfold effOf; simp only [hop, hargs, hts, ht, hti, hsx, hid])
       ·refine ⟨h1, trivial, trivial, h2, h3, ?_⟩
        rw [E.cR_length, hE]
        exact Nat.mul_le_mul_right _ hb
       ·rw [hrep, hcl]
        exact hk
     ·cases hv
    ·cases hv
   ·cases hv
  ·cases hv
 ·cases hv
end Go.Ab

