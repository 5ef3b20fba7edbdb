/- A region, in whatever order; the rules for code. -/
import Derived.Test.YtegafdnfcijemaaAbN
import Derived.Deep.LoopGhost
set_option linter.unusedVariables false
set_option linter.unusedSimpArgs false
namespace Go.Ab
open Go.RowKit

variable {A : Nat → Prop}

variable {P : Program} {T : Tab}

theorem wpOp_exists {ops : Array Oper} {i : Nat} {K : Act → World → Prop} {a : Act} {w : World} (h : wpOp P ops (fun _ _ _ => False) i K a w) : ∃ a' w', K a' w' := by
  unfold wpOp at h
  split at h
  · exact ⟨_, _, h⟩
  · rename_i o ho
    split at h
    · rcases h with h | ⟨_, h⟩
      · unfold Oper.wp Oper.upon at h
        split at h
        · exact ⟨_, _, h⟩
        · exact ⟨_, _, h⟩
        · exact ⟨_, _, h⟩
        · obtain ⟨e, w', fr, hR, _⟩ := h []
          cases e with
          | returned v => exact ⟨_, _, hR⟩
          | panicked c => exact hR.elim
          | outgrown => obtain ⟨_, _, h⟩ := hR; exact h.elim
        · obtain ⟨v, w', hR, _⟩ := h default []
          exact ⟨_, _, hR⟩
        · exact h.elim
        · exact h.elim
      · obtain ⟨_, _, h⟩ := h; exact h.elim
    · exact ⟨_, _, h⟩

inductive AChain (P : Program) (T : Tab) (ops : Array Oper) : List Nat → AS → AS → Prop
  | nil (σ : AS) : AChain P T ops [] σ σ
  | cons (i : Nat) (l : List Nat) (o : Oper) (σ σ1 σ2 : AS) (ho : ops[i]? = some o) (hs : AStep P T ops o σ σ1) (ht : AChain P T ops l σ1 σ2) : AChain P T ops (i :: l) σ σ2

theorem St.next (hT : TabOk P T) {W w : World} {a : Act} {σ σ' : AS} {ops : Array Oper} {i : Nat} {o : Oper} (h : St A W w a σ) (ho : ops[i]? = some o) (hs : AStep P T ops o σ σ') : ∃ w' a', St A W w' a' σ' := by
  obtain ⟨a', w', h'⟩ := wpOp_exists (P := P) (ops := ops) (i := i) (K := fun a' w' => St A W w' a' σ') (step_sound hT h ho hs fun _ _ h => h)
  exact ⟨w', a', h'⟩

theorem AChain.pull (hT : TabOk P T) {ops : Array Oper} {i : Nat} {o : Oper} (ho : ops[i]? = some o) {l2 : List Nat} {σf : AS} : ∀ (l1 : List Nat) {W w : World} {a : Act} {σ : AS}, St A W w a σ → AChain P T ops (l1 ++ i :: l2) σ σf →
    (∀ j ∈ l1, ∀ oj, ops[j]? = some oj → indep ops oj o = true) → ∃ σ1, AStep P T ops o σ σ1 ∧ AChain P T ops (l1 ++ l2) σ1 σf
  | [], W, w, a, σ, h, hc, _ => by
    cases hc with
    | cons _ _ o' _ σ1 _ ho' hs ht =>
      rw [ho] at ho'
      cases ho'
      exact ⟨σ1, hs, ht⟩
  | j :: l1, W, w, a, σ, h, hc, hi => by
    cases hc with
    | cons _ _ oj _ σa _ hj hs ht =>
      obtain ⟨w', a', h'⟩ := h.next hT hj hs
      obtain ⟨σb, hb, hcb⟩ := AChain.pull hT ho l1 h' ht (fun k hk => hi k (by simp [hk]))
      obtain ⟨σ1, h1, h2⟩ := commute h.hyg (hi j (by simp) oj hj) hs hb
      exact ⟨σ1, h1, .cons j _ oj _ _ _ hj h2 hcb⟩

def masks (ops : Array Oper) : List Nat :=
  ops.toList.foldl (fun acc o => acc ++ [o.after.toList.foldl (fun s e => if Region.binds .any e then s ||| (2 ^ e.on) ||| acc.getD e.on 0 else s) 0]) []

/-- Whether the order does not matter: what an operation is not bound to follow it is independent of. -/
def orderOk (ops : Array Oper) : Bool :=
  let ms := masks ops
  (List.range ops.size).all fun i => match ops[i]? with
    | none => false
    | some o => o.after.toList.all (fun e => !Region.binds .any e || decide (e.on < i)) &&
      (List.range i).all fun j => match ops[j]? with
        | none => false
        | some oj => if (ms.getD i 0).testBit j then o.after.toList.any (fun e => Region.binds .any e && (e.on == j || (decide (j < e.on) && (ms.getD e.on 0).testBit j))) else indep ops oj o

theorem orderOk_spec {ops : Array Oper} (h : orderOk ops = true) {i : Nat} {o : Oper} (ho : ops[i]? = some o) :
    (∀ e ∈ o.after.toList, Region.binds .any e = true → e.on < i) ∧
    (∀ j oj, j < i → ops[j]? = some oj → ((masks ops).getD i 0).testBit j = true ∧ (∃ e ∈ o.after.toList, Region.binds .any e = true ∧ (e.on = j ∨ (j < e.on ∧ ((masks ops).getD e.on 0).testBit j = true))) ∨ indep ops oj o = true) := by
  unfold orderOk at h
  simp only [List.all_eq_true, List.mem_range] at h
  have hlt : i < ops.size := (Array.getElem?_eq_some_iff.1 ho).1
  have h1 := h i hlt
  rw [ho] at h1
  simp only [Bool.and_eq_true, List.all_eq_true] at h1
  refine ⟨fun e he hb => ?_, fun j oj hj hoj => ?_⟩
  · have := h1.1 e he
    rw [hb] at this
    simpa using this
  · have := h1.2 j (by simpa using hj)
    rw [hoj] at this
    simp only at this
    split at this
    · rename_i ht
      rw [List.any_eq_true] at this
      obtain ⟨e, he, hb⟩ := this
      simp only [Bool.and_eq_true, Bool.or_eq_true, beq_iff_eq, decide_eq_true_eq] at hb
      exact .inl ⟨ht, e, he, hb.1, hb.2⟩
    · exact .inr this

/-- Of what is listed all that it is bound to follow is listed too. -/
def Closed (ops : Array Oper) (listed : Array Bool) : Prop := ∀ k o, ops[k]? = some o → listed.getD k true = true → k < listed.size → ∀ e ∈ o.after.toList, Region.binds .any e = true → listed.getD e.on false = true

theorem listed_of_mask {ops : Array Oper} (h : orderOk ops = true) {listed : Array Bool} (hsz : listed.size = ops.size) (hc : Closed ops listed) : ∀ (n i j : Nat) (o : Oper), i ≤ n → ops[i]? = some o → j < i → ((masks ops).getD i 0).testBit j = true →
    (∃ oj, ops[j]? = some oj ∧ indep ops oj o = false ∨ True) → (∀ e ∈ o.after.toList, Region.binds .any e = true → listed.getD e.on false = true) →
    (∃ e ∈ o.after.toList, Region.binds .any e = true ∧ (e.on = j ∨ (j < e.on ∧ ((masks ops).getD e.on 0).testBit j = true))) → listed.getD j false = true := by
  intro n
  induction n with
  | zero => intro i j o hi _ hj; omega
  | succ n ih =>
    intro i j o hi ho hj ht _ hl hex
    obtain ⟨e, he, hb, hcase⟩ := hex
    rcases hcase with rfl | ⟨hlt, hbit⟩
    · exact hl e he hb
    · have hei := (orderOk_spec h ho).1 e he hb
      have hsz' : i < ops.size := (Array.getElem?_eq_some_iff.1 ho).1
      obtain ⟨o', ho'⟩ : ∃ o', ops[e.on]? = some o' := ⟨ops[e.on]'(by omega), Array.getElem?_eq_getElem (by omega)⟩
      have hle := hl e he hb
      have hle' : listed.getD e.on true = true := by
        simp only [Array.getD_eq_getD_getElem?] at hle ⊢
        rw [Array.getElem?_eq_getElem (by omega)] at hle ⊢
        exact hle
      have hcl := hc e.on o' ho' hle' (by omega)
      obtain ⟨oj, hoj⟩ : ∃ oj, ops[j]? = some oj := ⟨ops[j]'(by omega), Array.getElem?_eq_getElem (by omega)⟩
      refine ih e.on j o' (by omega) ho' hlt hbit ⟨oj, .inr trivial⟩ hcl ?_
      unfold orderOk at h
      simp only [List.all_eq_true, List.mem_range] at h
      have h1 := h e.on (by omega)
      rw [ho'] at h1
      simp only [Bool.and_eq_true, List.all_eq_true] at h1
      have h2 := h1.2 j (by simpa using hlt)
      rw [hoj] at h2
      simp only at h2
      rw [if_pos hbit, List.any_eq_true] at h2
      obtain ⟨e', he', hb'⟩ := h2
      simp only [Bool.and_eq_true, Bool.or_eq_true, beq_iff_eq, decide_eq_true_eq] at hb'
      exact ⟨e', he', hb'.1, hb'.2⟩

/-- What is not listed yet, in the text's order. -/
def rest (ops : Array Oper) (listed : Array Bool) : List Nat := (List.range ops.size).filter fun i => !listed.getD i true

theorem mem_rest {ops : Array Oper} {listed : Array Bool} {i : Nat} : i ∈ rest ops listed ↔ i < ops.size ∧ listed.getD i true = false := by
  unfold rest
  simp

theorem rest_sorted (ops : Array Oper) (listed : Array Bool) : (rest ops listed).Pairwise (· < ·) := by
  unfold rest
  exact List.Pairwise.filter _ List.pairwise_lt_range

theorem any_order (hT : TabOk P T) {ops : Array Oper} (hok : orderOk ops = true) {W : World} {Q : Exit → Act → World → Prop} {σf : AS} (hQ : ∀ a w, St A W w a σf → Q .normal a w) : ∀ (n : Nat) (listed : Array Bool) (a : Act) (w : World) (σ : AS),
    listed.size = ops.size → Closed ops listed → (rest ops listed).length = n → St A W w a σ → AChain P T ops (rest ops listed) σ σf → wpAny P .any ops Q n listed a w := by
  intro n
  induction n with
  | zero =>
    intro listed a w σ hsz hcl hlen hst hch
    have hnil : rest ops listed = [] := List.eq_nil_of_length_eq_zero hlen
    rw [hnil] at hch
    cases hch
    refine ⟨?_, hQ a w hst⟩
    unfold Region.ready
    rw [List.filter_eq_nil_iff]
    intro i hi hc
    simp only [Bool.and_eq_true, Bool.not_eq_true'] at hc
    have : i ∈ rest ops listed := mem_rest.2 ⟨by simpa using hi, hc.1⟩
    rw [hnil] at this
    simp at this
  | succ n ih =>
    intro listed a w σ hsz hcl hlen hst hch
    have hsorted := rest_sorted ops listed
    refine ⟨fun hr => ?_, ?_⟩
    · exfalso
      cases hL : rest ops listed with
      | nil => rw [hL] at hlen; simp at hlen
      | cons m l =>
        have hm : m ∈ rest ops listed := by rw [hL]; simp
        obtain ⟨hms, hml⟩ := mem_rest.1 hm
        obtain ⟨o, ho⟩ : ∃ o, ops[m]? = some o := ⟨ops[m]'hms, Array.getElem?_eq_getElem hms⟩
        have : m ∈ Region.ready .any ops listed := by
          unfold Region.ready
          refine List.mem_filter.2 ⟨by simpa using hms, ?_⟩
          rw [hml, ho]
          simp only [Bool.not_false, Option.map_some, Option.getD_some, Bool.true_and]
          rw [Array.all_eq_true']
          intro e he
          cases hb : Region.binds .any e with
          | false => rfl
          | true =>
            have hlt := (orderOk_spec hok ho).1 e (by simpa using he) hb
            simp only [Bool.not_true, Bool.false_or]
            cases hle : listed.getD e.on false with
            | true => rfl
            | false =>
              exfalso
              have hin : e.on ∈ rest ops listed := mem_rest.2 ⟨by omega, by
                simp only [Array.getD_eq_getD_getElem?] at hle ⊢
                rw [Array.getElem?_eq_getElem (by omega)] at hle ⊢
                exact hle⟩
              rw [hL] at hin hsorted
              rcases List.mem_cons.1 hin with he' | he'
              · omega
              · have := (List.pairwise_cons.1 hsorted).1 _ he'
                omega
        rw [hr] at this
        simp at this
    · intro i hi
      unfold Region.ready at hi
      obtain ⟨hi1, hi2⟩ := List.mem_filter.1 hi
      simp only [Bool.and_eq_true, Bool.not_eq_true'] at hi2
      have his : i < ops.size := by simpa using hi1
      obtain ⟨o, ho⟩ : ∃ o, ops[i]? = some o := ⟨ops[i]'his, Array.getElem?_eq_getElem his⟩
      have hpre : ∀ e ∈ o.after.toList, Region.binds .any e = true → listed.getD e.on false = true := by
        have h2 := hi2.2
        rw [ho] at h2
        simp only [Option.map_some, Option.getD_some] at h2
        rw [Array.all_eq_true'] at h2
        intro e he hb
        have := h2 e (by simpa using he)
        rw [hb] at this
        simpa using this
      have hmem : i ∈ rest ops listed := mem_rest.2 ⟨his, hi2.1⟩
      obtain ⟨l1, l2, hL⟩ := List.append_of_mem hmem
      rw [hL] at hch hsorted
      have hbefore : ∀ j ∈ l1, j < i := fun j hj => (List.pairwise_append.1 hsorted).2.2 j hj i (by simp)
      obtain ⟨σ1, hs, hc1⟩ := AChain.pull hT ho l1 hst hch (by
        intro j hj oj hoj
        have hji := hbefore j hj
        rcases (orderOk_spec hok ho).2 j oj hji hoj with ⟨ht, hex⟩ | hind
        · exfalso
          have hjl := listed_of_mask hok hsz hcl i i j o (Nat.le_refl _) ho hji ht ⟨oj, .inr trivial⟩ hpre hex
          have hjr : j ∈ rest ops listed := by rw [hL]; simp [hj]
          have := (mem_rest.1 hjr).2
          simp only [Array.getD_eq_getD_getElem?] at hjl this
          rw [Array.getElem?_eq_getElem (by omega)] at hjl this
          simp at hjl this
          rw [hjl] at this
          cases this
        · exact hind)
      refine step_sound hT hst ho hs fun a' w' hst' => ?_
      have hnodup : ∀ j, j ∈ l1 ∨ j ∈ l2 → j ≠ i := by
        intro j hj
        rcases hj with hj | hj
        · have := hbefore j hj; omega
        · have := (List.pairwise_cons.1 (List.pairwise_append.1 hsorted).2.1).1 j hj; omega
      have hset : ∀ k d, (listed.setIfInBounds i true).getD k d = if k = i then true else listed.getD k d := by
        intro k d
        simp only [Array.getD_eq_getD_getElem?, Array.getElem?_setIfInBounds]
        by_cases hk : i = k
        · subst hk; simp [hsz, his]
        · rw [if_neg hk, if_neg (fun e => hk e.symm)]
      have hrest : rest ops (listed.setIfInBounds i true) = l1 ++ l2 := by
        have e1 : rest ops (listed.setIfInBounds i true) = (rest ops listed).filter (fun j => !(j == i)) := by
          unfold rest
          rw [List.filter_filter]
          apply List.filter_congr
          intro j _
          rw [hset]
          by_cases hj : j = i
          · simp [hj]
          · simp [hj]
        rw [e1, hL, List.filter_append, List.filter_cons]
        simp only [beq_self_eq_true, Bool.not_true, Bool.false_eq_true, if_false]
        rw [List.filter_eq_self.2, List.filter_eq_self.2]
        · intro j hj; simp [hnodup j (.inr hj)]
        · intro j hj; simp [hnodup j (.inl hj)]
      refine ih _ _ _ σ1 (by simpa using hsz) ?_ ?_ hst' (by rw [hrest]; exact hc1)
      · intro k ok hk hlk hks e he hb
        rw [hset] at hlk ⊢
        by_cases hki : k = i
        · subst hki
          rw [ho] at hk
          cases hk
          split
          · rfl
          · exact hpre e he hb
        · rw [if_neg hki] at hlk
          have := hcl k ok hk hlk (by simpa using hks) e he hb
          split
          · rfl
          · exact this
      · rw [hrest]
        have := congrArg List.length hL
        rw [hlen] at this
        simp at this ⊢
        omega

/-- A region, whatever its order. -/
theorem region_draw (hT : TabOk P T) (hm : P.follows .mixedOrders = true) {id : Nat} {ops : Array Oper} (hok : orderOk ops = true) {W w : World} {a : Act} {σ σf : AS} (hst : St A W w a σ) (hch : AChain P T ops (List.range ops.size) σ σf)
    {Q : Exit → Act → World → Prop} (hQ : ∀ a w, St A W w a σf → Q .normal a w) : (Code.region id ops true).wp P Q a w := by
  refine wp_region_any hm ?_
  have hr : rest ops (Array.replicate ops.size false) = List.range ops.size := by
    unfold rest
    rw [List.filter_eq_self]
    intro i hi
    have : i < ops.size := by simpa using hi
    simp [Array.getD_eq_getD_getElem?, this]
  have hst' : St A W { w with drawn := w.drawn + 1 } a σ := by
    obtain ⟨ι, R, h⟩ := hst
    refine ⟨ι, R, h.below.drew, h.size, h.defers, h.seen, fun t => RelA.mono (w := w) (w' := w.drew) (R := R) (fun _ _ e => e) (fun _ e => e) (fun _ _ => rfl) _ _ (h.slots t), fun id b hb => RelB.mono (w := w) (w' := w.drew) (h.heap id b hb) (fun _ _ e => e) (fun _ e => e) (fun _ _ => rfl) (fun _ _ _ => rfl), h.inj, h.new, h.lt, h.out, h.arg⟩
  refine any_order hT hok hQ ops.size _ _ _ σ (by simp) ?_ (by rw [hr]; simp) hst' (by rw [hr]; exact hch)
  intro k o hk hl hks
  simp at hks
  simp [Array.getD_eq_getD_getElem?, hks] at hl

/-- A region in the text's order. -/
theorem region_text (hT : TabOk P T) {id : Nat} {ops : Array Oper} {W : World} {σf : AS} {Q : Exit → Act → World → Prop} (hQ : ∀ a w, St A W w a σf → Q .normal a w) : ∀ (l : List Nat) {w : World} {a : Act} {σ : AS}, St A W w a σ → AChain P T ops l σ σf → wpOps P ops Q l a w
  | [], w, a, σ, hst, hch => by cases hch; exact hQ a w hst
  | i :: l, w, a, σ, hst, hch => by
    cases hch with
    | cons _ _ o _ σ1 _ ho hs ht =>
      rw [wpOps_cons]
      exact step_sound hT hst ho hs fun a' w' hst' => region_text (id := id) hT hQ l hst' ht

end Go.Ab
