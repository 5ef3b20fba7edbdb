/- slices.SortFunc on a row of structs of plain cells that is handed over: what it comes to, off the kit's contract. -/
import Derived.Test.YtkccegeejlbhnaaAbYs
import Derived.Shelf.SlSortCmp.WholeK
set_option linter.unusedVariables false
set_option linter.unusedSimpArgs false
set_option linter.unusedSectionVars false
namespace Go.Ab
open Go.RowKit Go.Sort Go.Proofs

theorem flat_length {α : Type} {k : Nat} (q : α → List Value) (hk : ∀ x, (q x).length = k) : ∀ l : List α, (l.flatMap q).length = l.length * k
  | [] => by simp
  | x :: l => by rw [List.flatMap_cons, List.length_append, hk, flat_length q hk l, List.length_cons, Nat.succ_mul, Nat.add_comm]

theorem flat_get {α : Type} {k : Nat} (q : α → List Value) (hk : ∀ x, (q x).length = k) : ∀ (l : List α) (i j : Nat) (hi : i < l.length), j < k → (l.flatMap q)[i * k + j]? = (q l[i])[j]?
  | x :: l, 0, j, hi, hj => by
    rw [List.flatMap_cons, Nat.zero_mul, Nat.zero_add, List.getElem?_append_left (by rw [hk]; exact hj)]; rfl
  | x :: l, i + 1, j, hi, hj => by
    rw [List.flatMap_cons, List.getElem?_append_right (by rw [hk, Nat.succ_mul]; omega), hk]
    have e : (i + 1) * k + j - k = i * k + j := by rw [Nat.succ_mul]; omega
    rw [e, flat_get q hk l i j (by simpa using hi) hj]; rfl

theorem flatK_eq {α : Type} [Inhabited α] {k : Nat} (q : α → List Value) (hk : ∀ x, (q x).length = k) (d : Array α) : flatK q k d = (d.toList.flatMap q).toArray := by
  apply Array.ext_getElem?
  intro t
  rw [show (d.toList.flatMap q).toArray[t]? = (d.toList.flatMap q)[t]? from List.getElem?_toArray]
  by_cases h : t < d.size * k
  · have k0 : 0 < k := by rcases Nat.eq_zero_or_pos k with h0 | h0; · subst h0; simp at h
                          · exact h0
    have hi : t / k < d.size := Nat.div_lt_of_lt_mul (by rw [Nat.mul_comm]; exact h)
    have e : t / k * k + t % k = t := by rw [Nat.mul_comm]; exact Nat.div_add_mod t k
    have hj : t % k < (q d[t / k]).length := by rw [hk]; exact Nat.mod_lt _ k0
    have := flat_get q hk d.toList (t / k) (t % k) (by simpa using hi) (Nat.mod_lt _ k0)
    rw [e] at this
    rw [this]
    unfold flatK
    simp [h, hi, hj]
  · rw [Array.getElem?_eq_none (by rw [size_flatK]; omega), List.getElem?_eq_none (by rw [flat_length q hk]; simpa using h)]

variable {P : Program} {β : Type}

theorem sortf_mcalls {f G : FuncId} (hf : FnOk P f) {E : Elem β} {k : Nat} (k0 : 0 < k) (hs : E.s = k) {q : β → List Value} (hk : ∀ x, (q x).length = k) (hcf : ∀ x j, j < k → ∃ v, (q x)[j]? = some v ∧ E.cf x j = .raw v) (ho : ∀ x, ∀ v ∈ q x, v.oneCell' = true) {e : TypeId} {xs ys : List β} (hpad : ys.length = xs.length)
    (h0 : xs = [] → ∀ (a : Option Addr) (c : Nat) (w : World), Calls P f #[.slice a 0 c, .func (.func G) #[] #[]] w fun ex w' => ex = .returned (.tuple #[]) ∧ w' = w)
    (h1 : ∀ (g o c : Nat) (w : World), xs ≠ [] → g < w.heap.size → Holds id w g o (xs.flatMap q).toArray → xs.length < 4611686018427387904 →
      Calls P f #[.slice (some ⟨g, o, none⟩) xs.length c, .func (.func G) #[] #[]] w fun ex w' => ex = .returned (.tuple #[]) ∧ ∃ n os, w' = grow (putRow id (Sort.ahead w n) g o (ys.flatMap q).toArray) os)
    {al : Bool} : MCalls P f [.row 0 k 0 xs.length, .fn G []] [.row e k (E.cR xs)] 1 al (.tup []) [.row e k (E.cR ys)] := by
  have hcell : ∀ (zs : List β) (t : Nat), t < zs.length * k → ∃ v, (zs.flatMap q)[t]? = some v ∧ (E.cR zs)[t]? = some (.pv (.raw v)) := by
    intro zs t ht
    have hi : t / k < zs.length := Nat.div_lt_of_lt_mul (by rw [Nat.mul_comm]; exact ht)
    have hj := Nat.mod_lt t k0
    have e1 : t / k * k + t % k = t := by rw [Nat.mul_comm]; exact Nat.div_add_mod t k
    have h2 := flat_get q hk zs (t / k) (t % k) hi hj
    have h3 := E.cR_get zs (i := t / k) (j := t % k) hi (by rw [hs]; exact hj)
    rw [hs] at h3
    rw [e1] at h2 h3
    obtain ⟨v, hv1, hv2⟩ := hcf zs[t / k] (t % k) hj
    refine ⟨v, by rw [h2, hv1], ?_⟩
    rw [h3]
    have e2 : zs.getD (t / k) E.z = zs[t / k] := by simp [hi]
    first
    | rw [e2, hv2]
    | rw [hv2]
  refine ⟨hf, fun ι R w vs hv hR hin hinj hout hlt _ _ => ?_⟩
  match vs, hv with
  | u :: us, hv =>
    simp only [RelL] at hv
    obtain ⟨hu, hus⟩ := hv
    obtain ⟨fv, rfl⟩ : ∃ fv, us = [fv] := by
      match us, hus with
      | [fv], _ => exact ⟨fv, rfl⟩
      | [], hus => simp [RelL] at hus
      | _ :: _ :: _, hus => simp [RelL] at hus
    simp only [RelL, RelA, and_true] at hus
    obtain ⟨cs, rfl, hcs⟩ := hus
    obtain rfl : cs = #[] := by
      obtain ⟨cl⟩ := cs
      cases cl with
      | nil => rfl
      | cons _ _ => simp [RelL] at hcs
    have hB := hin 0 _ rfl
    by_cases hx : xs = []
    · subst hx
      have hy : ys = [] := List.eq_nil_of_length_eq_zero (by have h := hpad; simp only [List.length_nil] at h; omega)
      subst hy
      have hform : ∃ a c, u = .slice a 0 c := by
        simp only [RelA] at hu
        rcases hu with ⟨_, _, _, rfl⟩ | ⟨g, c, a, _, rfl, _⟩
        · exact ⟨none, 0, rfl⟩
        · exact ⟨a, _, rfl⟩
      obtain ⟨a, c, rfl⟩ := hform
      refine (h0 rfl a c w).mono ?_
      rintro ex w' ⟨rfl, rfl⟩
      refine ⟨_, ι, rfl, BelowB.refl _ _ _, ?_, ?_, ?_, ?_, ?_, fun _ _ _ h => h⟩
      · intro i b hb
        cases i with
        | zero =>
          simp at hb
          subst hb
          obtain ⟨n, hn, hs1, hn47, h⟩ := hB
          have hn0 : n = 0 := by
            have hn' : 0 = n * k := by simpa [Elem.cR] using hn
            rcases Nat.mul_eq_zero.1 hn'.symm with h | h
            · exact h
            · omega
          subst hn0
          refine ⟨0, by simp [Elem.cR], hs1, by omega, ?_⟩
          rcases h with h | ⟨g, cap, base, cur, h1, h2, h3, h4, h5, _, _⟩
          · exact .inl h
          · exact .inr ⟨g, cap, base, cur, h1, h2, h3, h4, h5, by simp [Elem.cR, RelL], by intro v hv; simp at hv⟩
        | succ i => simp at hb
      · exact ⟨#[], rfl, by simp [RelL]⟩
      · intro i b g c hb hi
        cases i with
        | zero => exact .inr ⟨0, _, c, rfl, hi⟩
        | succ i => simp at hb
      · intro i j b b' g c c' hb hb' _ _
        cases i with
        | zero => cases j with
          | zero => rfl
          | succ j => simp at hb'
        | succ i => simp at hb
      · intro i x hi; exact hlt i x hi
    · obtain ⟨n, hn, hs1, hn47, h⟩ := hB
      rw [E.cR_length, hs] at hn
      have hnx : n = xs.length := Nat.eq_of_mul_eq_mul_right k0 hn.symm
      subst hnx
      have hpos : 0 < xs.length := List.length_pos_iff.2 hx
      rcases h with ⟨_, h⟩ | ⟨g, cap, base, cur, hi, hh, hsz, hnc, hcm, hr, hone⟩
      · omega
      simp only [RelA] at hu
      rcases hu with ⟨_, _, h, _⟩ | ⟨g', c', a, hi', rfl, hle, ha0⟩
      · omega
      rw [hi] at hi'
      obtain ⟨rfl, rfl⟩ : g = g' ∧ ⟨cap, base⟩ = c' := by simpa using hi'
      obtain rfl := ha0 (by show 0 < cap; omega)
      have hck : xs.length * k ≤ cap * k := Nat.mul_le_mul_right k hnc
      have hsz' : cur.size = base + cap * k := by rw [hsz]
      have hcells : ∀ t v, t < xs.length * k → (xs.flatMap q)[t]? = some v → cur[base + t]? = some v := by
        intro t v ht htv
        obtain ⟨v', hv1, hv2⟩ := hcell xs t ht
        rw [htv] at hv1
        cases hv1
        obtain ⟨u', hu', hrv⟩ := hr.get t _ hv2
        rw [raw_inv hrv] at hu'
        rw [List.getElem?_take, if_pos (by omega), List.getElem?_drop] at hu'
        simpa using hu'
      have e0 : (0 * k + base) = base := by omega
      rw [Nat.sub_zero, e0]
      have hfl := flat_length q hk xs
      have hfly := flat_length q hk ys
      have hH : Holds id w g base (xs.flatMap q).toArray := by
        intro j hj
        have hj' : j < (xs.flatMap q).length := by simpa using hj
        have hj2 : j < xs.length * k := by omega
        refine ⟨?_, by simp [World.frozen?, hh]⟩
        have hv := List.getElem?_eq_getElem hj'
        have := hcells j _ hj2 hv
        have hj3 : j < (xs.flatMap q).toArray.size := by simpa using hj'
        have e4 : (xs.flatMap q).toArray[j]! = (xs.flatMap q)[j] := by rw [getElem!_pos (xs.flatMap q).toArray j hj3, List.getElem_toArray]
        rw [e4]
        simp [World.cell?, hh, this]
      refine (h1 g base cap w hx (Array.getElem?_eq_some_iff.1 hh).1 hH (by omega)).mono ?_
      rintro ex w' ⟨rfl, m, os, rfl⟩
      rw [Go.Lib.putRow_eq_setCells id w g base (xs.flatMap q).toArray (ys.flatMap q) m hH (by rw [List.size_toArray, hfl, hfly, hpad]), List.map_id]
      have hvl : (ys.flatMap q).length = xs.length * k := by rw [hfly, hpad]
      obtain ⟨hp, cur', e1, e2, e3, e4, e5, e6, e7⟩ := setCells_block g (ys.flatMap q) base (w.drewN m) cur e (0, 0) hh (by rw [hvl]; omega)
      rw [e1]
      have hglt : g < w.heap.size := (Array.getElem?_eq_some_iff.1 hh).1
      have e4' : (grow { w.drewN m with heap := hp } os).heap[g]? = some (.cells cur' e (0, 0)) := by
        rw [heap_grow_old _ _ (by show g < hp.size; rw [e2]; exact hglt)]; exact e4
      refine ⟨_, ι, rfl, ⟨rfl, rfl, rfl, by rw [size_grow]; show w.heap.size ≤ hp.size + os.size; rw [e2]; show w.heap.size ≤ w.heap.size + _; omega, fun k hk hnb => ?_⟩, ?_, ?_, ?_, ?_, ?_, fun _ _ _ h => h⟩
      · rw [heap_grow_old _ _ (by show k < hp.size; rw [e2]; exact hk)]
        exact e3 k (fun hkg => hnb (by rw [hkg]; exact ⟨0, _, ⟨cap, base⟩, rfl, hi⟩))
      · intro i b hb
        cases i with
        | zero =>
          simp at hb
          subst hb
          refine ⟨ys.length, by rw [E.cR_length, hs], hs1, by omega, .inr ⟨g, cap, base, cur', hi, e4', by rw [e5, hsz], by omega, hcm, ?_, ?_⟩⟩
          · have hyk : ys.length * k = xs.length * k := by rw [hpad]
            refine RelL.of_get (by rw [E.cR_length, hs, List.length_take, List.length_drop]; show _ = min _ (cur'.size - _); rw [e5]; omega) ?_
            intro t x v htx htv
            have ht : t < ys.length * k := by
              have := (List.getElem?_eq_some_iff.1 htx).1
              rw [E.cR_length, hs] at this; exact this
            obtain ⟨v', hv1, hv2⟩ := hcell ys t ht
            rw [hv2] at htx
            cases htx
            rw [List.getElem?_take, if_pos (by omega), List.getElem?_drop] at htv
            have h6 := e6 t (by rw [hvl]; omega)
            have htv' : cur'[base + t]? = some v := by simpa using htv
            rw [h6, hv1] at htv'
            simp only [RelA, RelP]
            exact (Option.some.inj htv').symm
          · have hyk : ys.length * k = xs.length * k := by rw [hpad]
            intro v hv
            obtain ⟨j, hj, rfl⟩ := List.getElem_of_mem hv
            rw [List.length_take, List.length_drop] at hj
            have hj1 : j < ys.length * k := by omega
            have h6 := e6 j (by rw [hvl]; omega)
            have hjl : base + j < cur'.size := by have : cur'.toList.length = cur'.size := rfl; omega
            rw [List.getElem_take, List.getElem_drop]
            have hlt' : j < (ys.flatMap q).length := by rw [hvl]; omega
            rw [Array.getElem?_eq_getElem hjl, List.getElem?_eq_getElem hlt'] at h6
            have h7 := Option.some.inj h6
            have h8 : cur'.toList[base + j] = cur'[base + j] := by simp
            rw [h8, h7]
            have hm := List.getElem_mem hlt'
            obtain ⟨x, _, hx2⟩ := List.mem_flatMap.1 hm
            exact ho x _ hx2
        | succ i => simp at hb
      · exact ⟨#[], rfl, by simp [RelL]⟩
      · intro i b g' c hb hi'
        cases i with
        | zero => exact .inr ⟨0, _, c, rfl, hi'⟩
        | succ i => simp at hb
      · intro i j b b' g c c' hb hb' hi hj
        cases i with
        | zero => cases j with
          | zero => rfl
          | succ j => simp at hb'
        | succ i => simp at hb
      · intro i x hi; exact hlt i x hi

/-! ### the answer, in plain words -/
section

/-- what slices.SortFunc leaves, where every element is p -/
def srtF (p : β → Prop) [Inhabited {x // p x}] (cf : β → β → Int) (xs : List β) (h : ∀ x ∈ xs, p x) : List β :=
  (pdq (ltOf fun x y : {x // p x} => cf x.1 y.1) (xs.attachWith p h).toArray 0 xs.length (Lib.bitLen xs.length) true true).toList.map (·.1)

variable {p : β → Prop} [Inhabited {x // p x}] {cf : β → β → Int} {xs : List β} {h : ∀ x ∈ xs, p x}

theorem srtF_spec (hO : SWO (ltOf fun x y : {x // p x} => cf x.1 y.1)) : (srtF p cf xs h).Perm xs ∧ (srtF p cf xs h).Pairwise fun x y => ¬ cf y x < 0 := by
  have hd : (xs.attachWith p h).toArray.size = xs.length := by simp
  have hs := pdq_sorts (ltOf fun x y : {x // p x} => cf x.1 y.1) hO (xs.attachWith p h).toArray 0 xs.length (Lib.bitLen xs.length) true true (Nat.zero_le _) (by rw [hd]; exact Nat.le_refl _) (Or.inl rfl)
  unfold srtF
  obtain ⟨d', hd'⟩ : ∃ d', d' = pdq (ltOf fun x y : {x // p x} => cf x.1 y.1) (xs.attachWith p h).toArray 0 xs.length (Lib.bitLen xs.length) true true := ⟨_, rfl⟩
  rw [← hd'] at hs ⊢
  obtain ⟨⟨h1, _, h3⟩, h4⟩ := hs
  have e1 : d'.extract 0 xs.length = d' := by apply Array.ext <;> simp [h1]
  have e2 : (xs.attachWith p h).toArray.extract 0 xs.length = (xs.attachWith p h).toArray := by apply Array.ext <;> simp
  rw [e1, e2] at h3
  refine ⟨?_, ?_⟩
  · have := h3.map (·.1)
    have e3 : ((xs.attachWith p h).toArray.toList.map (·.1)) = xs := by simp
    rw [e3] at this
    exact this
  · rw [List.pairwise_map, List.pairwise_iff_getElem]
    intro i j hi hj hij
    have hj' : j < d'.size := by simpa using hj
    have hi' : i < d'.size := by simpa using hi
    have := h4 i j (Nat.zero_le _) hij (by omega)
    rw [getElem!_pos d' i hi', getElem!_pos d' j hj'] at this
    unfold ltOf at this
    simpa using this

theorem swo_of (h1 : ∀ x, ¬ cf x x < 0) (h2 : ∀ x y z, cf x y < 0 → cf y z < 0 → cf x z < 0) (h3 : ∀ x y z, ¬ cf x y < 0 → ¬ cf y z < 0 → ¬ cf x z < 0) : SWO (ltOf fun x y : {x // p x} => cf x.1 y.1) where
  irrefl x := by unfold ltOf; simpa using h1 x.1
  trans x y z a b := by unfold ltOf at *; exact decide_eq_true (h2 x.1 y.1 z.1 (of_decide_eq_true a) (of_decide_eq_true b))
  ntrans x y z a b := by unfold ltOf at *; exact decide_eq_false (h3 x.1 y.1 z.1 (of_decide_eq_false a) (of_decide_eq_false b))

theorem srtF_length (hO : SWO (ltOf fun x y : {x // p x} => cf x.1 y.1)) : (srtF p cf xs h).length = xs.length := (srtF_spec hO).1.length_eq

/-- the kit's contract, in the words of sortf_mcalls -/
theorem srtF_calls {ρ : Shelf.Ren} (L : SlLaysF0.n6 P ρ) {k : Nat} (aE : ∀ w, (isAgg (ρ.t 24)).run P w = .ok true w) (zE : ∀ w, (Go.sizeOf (ρ.t 24)).run P w = .ok k w) {q : β → List Value} (hk : ∀ x, (q x).length = k) (ho : ∀ x, ∀ v ∈ q x, v.oneCell' = true) (hO : SWO (ltOf fun x y : {x // p x} => cf x.1 y.1)) {G : FuncId} (hG : FnOk P G)
    (hC : ∀ (x y : β) (w : World), p x → p y → Calls P G #[.agg (q x).toArray, .agg (q y).toArray] w fun e w' => e = .returned (.int .i64 (cf x y)) ∧ ∃ n os, w' = grow (w.drewN n) os)
    (eg : ∀ args w, (callFunc G args).run P w = .ok (.enter G args) w)
    (g o c : Nat) (w : World) (hg : g < w.heap.size) (hH : Holds id w g o (xs.flatMap q).toArray) (hsz : xs.length < 4611686018427387904) :
    Calls P (ρ.f 6) #[.slice (some ⟨g, o, none⟩) xs.length c, .func (.func G) #[] #[]] w fun ex w' => ex = .returned (.tuple #[]) ∧ ∃ n os, w' = grow (putRow id (Sort.ahead w n) g o ((srtF p cf xs h).flatMap q).toArray) os := by
  have hd : (xs.attachWith p h).toArray.size = xs.length := by simp
  have hf1 : flatK (fun x : {x // p x} => q x.1) k (xs.attachWith p h).toArray = (xs.flatMap q).toArray := by
    rw [flatK_eq (fun x : {x // p x} => q x.1) (fun x => hk x.1)]
    congr 1
    have : (fun x : {x // p x} => q x.1) = q ∘ (·.1) := rfl
    rw [this]
    conv => rhs; rw [show xs = (xs.attachWith p h).map (·.1) by simp]
    rw [List.flatMap_map]
    rfl
  have key := AnyQ.slices_SortFunc_eq L k aE zE (fun x : {x // p x} => q x.1) (fun x => hk x.1) (fun x => ho x.1) (fun x y => cf x.1 y.1) hO G #[] g o c (xs.attachWith p h).toArray w eg
    (fun m os dk hdk x y => by
      have := hC x.1 y.1 (sortWorldK (fun x : {x // p x} => q x.1) k w g o m dk os) x.2 y.2
      simpa using this)
    (by unfold HoldsK; rw [hf1]; exact hH) hg (by rw [hd]; exact hsz)
  rw [hd] at key
  refine key.mono ?_
  rintro ex w' ⟨rfl, n, os, rfl⟩
  refine ⟨rfl, n, os, ?_⟩
  unfold sortWorldK putRowK srtF
  rw [flatK_eq (fun x : {x // p x} => q x.1) (fun x => hk x.1)]
  rw [List.flatMap_map]
end

end Go.Ab
