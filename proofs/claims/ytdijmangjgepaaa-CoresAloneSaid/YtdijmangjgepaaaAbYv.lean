/- slices.Sorted(slices.Values(xs)) at ints: what it comes to, off a contract at the seat. -/
import Derived.Test.YtdijmangjgepaaaAbYh
import Derived.Sort.OwnSorted
set_option linter.unusedVariables false
set_option linter.unusedSimpArgs false
namespace Go.Ab
open Go.RowKit

variable {P : Program}

theorem getD_eq {α : Type} (l : List α) (d : α) {j : Nat} (h : j < l.length) : l.getD j d = l[j] := by simp [h]

theorem sortv_pcalls {fS fV : FuncId} (hf : FnOk P fS) {E : Elem Int} (hs : E.s = 1) (hcf : ∀ x, E.cf x 0 = .raw (.int .i64 x)) {e : TypeId} {c : Nat → PV} {xs ys : List Int} (hc : c 0 = .ro 1 xs.length (fun i j => E.cf (xs.getD i E.z) j)) (hlen : ys.length = xs.length)
    (hC : ∀ (g o b off cap : Nat) (a : Option Addr) (w : World), xs.length ≤ 140737488355328 → g < w.heap.size → (0 < xs.length → b < w.heap.size) → (0 < xs.length → a = some ⟨b, off, none⟩) → w.cell? ⟨g, o, none⟩ = some (.slice a xs.length cap) →
      (∀ j, j < xs.length → w.cell? ⟨b, off + j, none⟩ = some (.int .i64 (xs.getD j 0))) →
      Calls P fS #[.func (.func fV) #[] #[.pointer (some ⟨g, o, none⟩)]] w fun ex w' => ∃ v : Value, ex = .returned v ∧ w'.ownsRow w.heap.size e 1 v xs.length (ys.map fun x => .int .i64 x) ∧ Below w.heap.size w w')
    {al : Bool} : PCalls P fS [.fn fV [.roat 1 c]] al (.row 0 1 0 ys.length) [.row e 1 (E.cR ys)] := by
  have hcell : ∀ (zs : List Int) (j : Nat), j < zs.length → (E.cR zs)[j]? = some (.pv (.raw (.int .i64 (zs.getD j 0)))) := by
    intro zs j hj
    have := E.cR_get zs (i := j) (j := 0) hj (by rw [hs]; omega)
    rw [hs, Nat.mul_one, Nat.add_zero, hcf] at this
    rw [this]
    simp [hj]
  refine ⟨hf, fun R w vs hv hR _ => ?_⟩
  match vs, hv with
  | [u], hv =>
    simp only [RelL] at hv
    obtain ⟨hu, _⟩ := hv
    simp only [RelA] at hu
    obtain ⟨us, rfl, hus⟩ := hu
    obtain ⟨l⟩ := us
    match l, hus with
    | [p], hus =>
      simp only [RelL, RelA] at hus
      obtain ⟨⟨g, o, rfl, hRg, hcl⟩, _⟩ := hus
      obtain ⟨x, hx, _, hr⟩ := hcl 0 (by omega)
      rw [hc] at hr
      simp only [RelP] at hr
      obtain ⟨a, cap, rfl, hnc, hn47, h⟩ := hr
      have hgl := hR g hRg
      obtain ⟨b, off, hb⟩ : ∃ b off, 0 < xs.length → a = some ⟨b, off, none⟩ ∧ R b ∧ ∀ i, i < xs.length → w.cell? ⟨b, off + i, none⟩ = some (.int .i64 (xs.getD i 0)) := by
        by_cases h0 : 0 < xs.length
        · obtain ⟨b, off, ha, hRb, hcs⟩ := h h0
          refine ⟨b, off, fun _ => ⟨ha, hRb, fun i hi => ?_⟩⟩
          obtain ⟨y, hy, _, hry⟩ := hcs i hi 0 (by omega)
          rw [hcf] at hry
          simp only [RelP] at hry
          rw [Nat.mul_one, Nat.add_zero] at hy
          rw [hy, hry]
          simp [List.getD_eq_getElem?_getD, hi]
        · exact ⟨0, 0, fun h1 => absurd h1 h0⟩
      have key := hC g o b off cap a w hn47 hgl (fun h0 => hR b (hb h0).2.1) (fun h0 => (hb h0).1) (by simpa using hx) (fun j hj => (hb (by omega)).2.2 j hj)
      refine key.mono ?_
      rintro ex w' ⟨v, rfl, hrow, hbel⟩
      rcases hrow.2 with ⟨rfl, hz⟩ | ⟨gb, cap', cur, rfl, hbase, hgb, r1, r2, r3, r4⟩
      · have hy0 : ys = [] := List.eq_nil_of_length_eq_zero (by omega)
        subst hy0
        refine ⟨_, fun i => if i = 0 then some none else none, rfl, hbel, ?_, ?_, ?_, ?_, ?_⟩
        · intro i b hb
          cases i with
          | zero =>
            simp at hb
            subst hb
            exact ⟨0, by simp [Elem.cR], by omega, by omega, .inl ⟨rfl, rfl⟩⟩
          | succ i => simp at hb
        · simp only [RelA]
          exact .inl ⟨by simp, by simp, by simp, by first | trivial | rfl⟩
        · intro i b g c hb hi
          cases i with
          | zero => simp at hi
          | succ i => simp at hb
        · intro i j b b' g c c' hb hb' hi hj
          cases i with
          | zero => simp at hi
          | succ i => simp at hb
        · intro i x hi
          cases i with
          | zero => simp
          | succ i => simp at hi
      · have hsz : gb < w'.heap.size := (Array.getElem?_eq_some_iff.1 hgb).1
        refine ⟨_, fun i => if i = 0 then some (some (gb, ⟨cap', 0⟩)) else none, rfl, hbel, ?_, ?_, ?_, ?_, ?_⟩
        · intro i b hb
          cases i with
          | zero =>
            simp at hb
            subst hb
            rw [Nat.mul_one] at r3 r4
            refine ⟨ys.length, by rw [E.cR_length, hs], by omega, by omega, .inr ⟨gb, cap', 0, cur, rfl, hgb, by rw [r3]; omega, by omega, r2, ?_, ?_⟩⟩
            · rw [List.drop_zero, Nat.mul_one, hlen, r4]
              refine RelL.of_get (by rw [E.cR_length, hs, List.length_map]; omega) fun j x u hj hu => ?_
              have hjl : j < ys.length := by
                have := (List.getElem?_eq_some_iff.1 hj).1
                rw [E.cR_length, hs] at this; omega
              rw [hcell ys j hjl] at hj
              cases hj
              have hu' : u = .int .i64 (ys.getD j 0) := by
                rw [List.getElem?_map, List.getElem?_eq_getElem hjl] at hu
                rw [getD_eq ys 0 hjl]
                exact (Option.some.inj hu).symm
              rw [hu']
              simp only [RelA, RelP]
            · rw [List.drop_zero, Nat.mul_one, hlen, r4]
              intro u hu
              obtain ⟨x, _, rfl⟩ := List.mem_map.1 hu
              rfl
          | succ i => simp at hb
        · simp only [RelA]
          exact .inr ⟨gb, ⟨cap', 0⟩, some ⟨gb, 0, none⟩, by simp, by rw [hlen]; simp, by show 0 + ys.length ≤ cap'; omega, fun _ => by simp⟩
        · intro i b g c hb hi
          cases i with
          | zero =>
            simp at hi
            rw [← hi.1]; exact hbase
          | succ i => simp at hb
        · intro i j b b' g c c' hb hb' hi hj
          cases i with
          | zero => cases j with
            | zero => rfl
            | succ j => simp at hb'
          | succ i => simp at hb
        · intro i x hi
          cases i with
          | zero => simp
          | succ i => simp at hi
    | [], hus => simp [RelL] at hus
    | _ :: _ :: _, hus => simp [RelL] at hus


theorem values_pcalls {α : Type} {fL fV : FuncId} (hf : FnOk P fL) {E : Elem α} {t : TypeId} {c : Nat → PV} {xs : List α} (hc : c 0 = E.ro xs)
    (hC : ∀ (a : Option Addr) (n cap : Nat) (w : World), Calls P fL #[.slice a n cap] w fun ex w' => ex = .returned (.func (.func fV) #[] #[.pointer (some ⟨w.heap.size, 0, none⟩)]) ∧ w' = w.alloc (.cells #[.slice a n cap] t)) :
    PCalls P fL [.pv (E.ro xs)] true (.fn fV [.roat 1 c]) [] := by
  refine ⟨hf, fun R w vs hv hR _ => ?_⟩
  match vs, hv with
  | [u], hv =>
    simp only [RelL] at hv
    obtain ⟨hu, _⟩ := hv
    have hu0 : RelP R w (E.ro xs) u := hu
    obtain ⟨a, n, cap, rfl⟩ : ∃ a n cap, u = .slice a n cap := by
      simp only [RelA, Elem.ro, RelP] at hu
      obtain ⟨a, cap, rfl, _⟩ := hu
      exact ⟨a, _, cap, rfl⟩
    refine (hC a n cap w).mono ?_
    rintro ex w' ⟨rfl, rfl⟩
    have hb : Below w.heap.size w (w.alloc (.cells #[.slice a n cap] t)) := (Below.refl _ w).alloc (Nat.le_refl _) _
    have hsz : (w.alloc (.cells #[.slice a n cap] t)).heap.size = w.heap.size + 1 := by simp
    refine ⟨_, fun _ => none, rfl, hb, by simp, ?_, by simp, by simp, by simp⟩
    simp only [RelA]
    refine ⟨_, rfl, ?_⟩
    simp only [RelL, RelA, and_true]
    refine ⟨w.heap.size, 0, rfl, .inr ⟨Nat.le_refl _, by rw [hsz]; omega, by simp⟩, fun j hj => ?_⟩
    obtain rfl : j = 0 := by omega
    refine ⟨.slice a n cap, ?_, rfl, ?_⟩
    · rw [World.cell?, heap_alloc_new w]; rfl
    · rw [hc]
      exact RelP.mono (fun k hk => .inl ⟨by trivial, hk⟩) (fun k hk => hb.block k (hR k hk)) _ _ hu0

def cl2 (xs : List (Int × Int)) : List Value := xs.flatMap fun x => [.int .i64 x.1, .int .i64 x.2]
theorem cl2_get : ∀ (l : List (Int × Int)) (i : Nat), i < l.length → (cl2 l)[i * 2]? = some (.int .i64 (l.getD i (0, 0)).1) ∧ (cl2 l)[i * 2 + 1]? = some (.int .i64 (l.getD i (0, 0)).2)
  | x :: l, 0, _ => by simp [cl2]
  | x :: l, i + 1, h => by
    have e : cl2 (x :: l) = .int .i64 x.1 :: .int .i64 x.2 :: cl2 l := rfl
    have ih := cl2_get l i (by simpa using h)
    rw [e, show (i + 1) * 2 = i * 2 + 1 + 1 by omega, show i * 2 + 1 + 1 + 1 = (i * 2 + 1) + 1 + 1 by omega]
    simp only [List.getElem?_cons_succ, List.getD_cons_succ]
    exact ih
theorem cl2_length (l : List (Int × Int)) : (cl2 l).length = l.length * 2 := by
  induction l with
  | nil => rfl
  | cons x l ih =>
    have e : cl2 (x :: l) = .int .i64 x.1 :: .int .i64 x.2 :: cl2 l := rfl
    rw [e]; simp [ih]; omega
theorem cl2_one (l : List (Int × Int)) : ∀ u ∈ cl2 l, u.oneCell' = true := by
  intro u hu
  unfold cl2 at hu
  obtain ⟨x, _, hu⟩ := List.mem_flatMap.1 hu
  simp at hu
  rcases hu with rfl | rfl <;> rfl

theorem collect2_pcalls {α : Type} {fS fV : FuncId} (hf : FnOk P fS) {E : Elem α} (hs : E.s = 2) {q : α → Int × Int} (h1 : ∀ x, E.cf x 0 = .raw (.int .i64 (q x).1)) (h2 : ∀ x, E.cf x 1 = .raw (.int .i64 (q x).2)) {e : TypeId} {c : Nat → PV} {xs : List α} (hc : c 0 = .ro 2 xs.length (fun i j => E.cf (xs.getD i E.z) j))
    (hC : ∀ (g o b off cap : Nat) (a : Option Addr) (w : World), xs.length ≤ 140737488355328 → g < w.heap.size → (0 < xs.length → b < w.heap.size) → (0 < xs.length → a = some ⟨b, off, none⟩) → w.cell? ⟨g, o, none⟩ = some (.slice a xs.length cap) →
      (∀ j, j < xs.length → w.cell? ⟨b, off + j * 2, none⟩ = some (.int .i64 ((xs.map q).getD j (0, 0)).1) ∧ w.cell? ⟨b, off + j * 2 + 1, none⟩ = some (.int .i64 ((xs.map q).getD j (0, 0)).2)) →
      Calls P fS #[.func (.func fV) #[] #[.pointer (some ⟨g, o, none⟩)]] w fun ex w' => ∃ v : Value, ex = .returned v ∧ w'.ownsRow w.heap.size e 2 v xs.length (cl2 (xs.map q)) ∧ Below w.heap.size w w')
    {al : Bool} : PCalls P fS [.fn fV [.roat 1 c]] al (.row 0 2 0 xs.length) [.row e 2 (E.cR xs)] := by
  refine ⟨hf, fun R w vs hv hR _ => ?_⟩
  match vs, hv with
  | [u], hv =>
    simp only [RelL] at hv
    obtain ⟨hu, _⟩ := hv
    simp only [RelA] at hu
    obtain ⟨us, rfl, hus⟩ := hu
    obtain ⟨l⟩ := us
    match l, hus with
    | [p], hus =>
      simp only [RelL, RelA] at hus
      obtain ⟨⟨g, o, rfl, hRg, hcl⟩, _⟩ := hus
      obtain ⟨x, hx, _, hr⟩ := hcl 0 (by omega)
      rw [hc] at hr
      simp only [RelP] at hr
      obtain ⟨a, cap, rfl, hnc, hn47, h⟩ := hr
      have hgl := hR g hRg
      have hq : ∀ j (hj : j < xs.length), (xs.map q).getD j (0, 0) = q xs[j] := by intro j hj; simp [hj]
      obtain ⟨b, off, hb⟩ : ∃ b off, 0 < xs.length → a = some ⟨b, off, none⟩ ∧ R b ∧ ∀ i, i < xs.length → w.cell? ⟨b, off + i * 2, none⟩ = some (.int .i64 ((xs.map q).getD i (0, 0)).1) ∧ w.cell? ⟨b, off + i * 2 + 1, none⟩ = some (.int .i64 ((xs.map q).getD i (0, 0)).2) := by
        by_cases h0 : 0 < xs.length
        · obtain ⟨b, off, ha, hRb, hcs⟩ := h h0
          refine ⟨b, off, fun _ => ⟨ha, hRb, fun i hi => ?_⟩⟩
          obtain ⟨y, hy, _, hry⟩ := hcs i hi 0 (by omega)
          obtain ⟨y', hy', _, hry'⟩ := hcs i hi 1 (by omega)
          rw [h1] at hry
          rw [h2] at hry'
          simp only [RelP] at hry hry'
          rw [Nat.add_zero] at hy
          rw [hq i hi, hy, hy', hry, hry']
          simp [List.getD_eq_getElem?_getD, hi]
        · exact ⟨0, 0, fun h1 => absurd h1 h0⟩
      have key := hC g o b off cap a w hn47 hgl (fun h0 => hR b (hb h0).2.1) (fun h0 => (hb h0).1) (by simpa using hx) (fun j hj => (hb (by omega)).2.2 j hj)
      refine key.mono ?_
      rintro ex w' ⟨v, rfl, hrow, hbel⟩
      rcases hrow.2 with ⟨rfl, hz⟩ | ⟨gb, cap', cur, rfl, hbase, hgb, r1, r2, r3, r4⟩
      · have hy0 : xs = [] := List.eq_nil_of_length_eq_zero (by omega)
        subst hy0
        refine ⟨_, fun i => if i = 0 then some none else none, rfl, hbel, ?_, ?_, ?_, ?_, ?_⟩
        · intro i b hb
          cases i with
          | zero =>
            simp at hb
            subst hb
            exact ⟨0, by simp [Elem.cR], by omega, by omega, .inl ⟨rfl, rfl⟩⟩
          | succ i => simp at hb
        · simp only [RelA]
          exact .inl ⟨by simp, by simp, by simp, by first | trivial | rfl⟩
        · intro i b g c hb hi
          cases i with
          | zero => simp at hi
          | succ i => simp at hb
        · intro i j b b' g c c' hb hb' hi hj
          cases i with
          | zero => simp at hi
          | succ i => simp at hb
        · intro i x hi
          cases i with
          | zero => simp
          | succ i => simp at hi
      · refine ⟨_, fun i => if i = 0 then some (some (gb, ⟨cap', 0⟩)) else none, rfl, hbel, ?_, ?_, ?_, ?_, ?_⟩
        · intro i b hb
          cases i with
          | zero =>
            simp at hb
            subst hb
            refine ⟨xs.length, by rw [E.cR_length, hs], by omega, hn47, .inr ⟨gb, cap', 0, cur, rfl, hgb, by rw [r3]; omega, r1, r2, ?_, ?_⟩⟩
            · rw [List.drop_zero, r4]
              refine RelL.of_get (by rw [E.cR_length, hs, cl2_length, List.length_map]) fun k x u hk hu => ?_
              have hkl : k < xs.length * 2 := by
                have := (List.getElem?_eq_some_iff.1 hk).1
                rw [E.cR_length, hs] at this; exact this
              obtain ⟨i, j, hj, rfl⟩ : ∃ i j, j < 2 ∧ k = i * 2 + j := ⟨k / 2, k % 2, Nat.mod_lt _ (by omega), by omega⟩
              have hi : i < xs.length := by omega
              have hg := E.cR_get xs (i := i) (j := j) hi (by rw [hs]; exact hj)
              rw [hs] at hg
              rw [hg] at hk
              cases hk
              obtain ⟨c1, c2⟩ := cl2_get (xs.map q) i (by simpa using hi)
              rw [hq i hi] at c1 c2
              match j, hj with
              | 0, _ =>
                rw [Nat.add_zero, c1] at hu
                cases hu
                simp only [RelA]
                rw [h1]
                simp [RelP, hi]
              | 1, _ =>
                rw [c2] at hu
                cases hu
                simp only [RelA]
                rw [h2]
                simp [RelP, hi]
            · rw [List.drop_zero, r4]
              exact cl2_one _
          | succ i => simp at hb
        · simp only [RelA]
          exact .inr ⟨gb, ⟨cap', 0⟩, some ⟨gb, 0, none⟩, by simp, by simp, by show 0 + xs.length ≤ cap'; omega, fun _ => by simp⟩
        · intro i b g c hb hi
          cases i with
          | zero =>
            simp at hi
            rw [← hi.1]; exact hbase
          | succ i => simp at hb
        · intro i j b b' g c c' hb hb' hi hj
          cases i with
          | zero => cases j with
            | zero => rfl
            | succ j => simp at hb'
          | succ i => simp at hb
        · intro i x hi
          cases i with
          | zero => simp
          | succ i => simp at hi
    | [], hus => simp [RelL] at hus
    | _ :: _ :: _, hus => simp [RelL] at hus

end Go.Ab
