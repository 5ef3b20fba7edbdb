/- Runq: the plain law. -/
import Derived.Test.YtmmhiggfpdjdcaaQRCM
import Derived.Test.YtmmhiggfpdjdcaaQRCK
import Derived.Test.YtmmhiggfpdjdcaaPLib
import Derived.Lib.ItoaNum
set_option linter.unusedVariables false
set_option linter.unusedSimpArgs false
namespace Go.Proofs.Ytmmhiggfpdjdcaa
open Go Go.Ab

/- lists, one behind the other, the highest first -/
def flN (L : Nat → List Int) : Nat → List Int
  | 0 => []
  | n + 1 => L n ++ flN L n
def fl (L : Nat → List Int) : List Int := flN L 32

theorem mem_flN {L : Nat → List Int} {x : Int} : ∀ {n : Nat}, x ∈ flN L n ↔ ∃ a, a < n ∧ x ∈ L a
  | 0 => by simp [flN]
  | n + 1 => by
    show x ∈ L n ++ flN L n ↔ _
    rw [List.mem_append, mem_flN]
    constructor
    · rintro (h | ⟨a, h1, h2⟩)
      · exact ⟨n, by omega, h⟩
      · exact ⟨a, by omega, h2⟩
    · rintro ⟨a, h1, h2⟩
      by_cases h : a = n
      · subst h; exact .inl h2
      · exact .inr ⟨a, by omega, h2⟩
theorem len_flN {L : Nat → List Int} : ∀ {n a : Nat}, a < n → (L a).length ≤ (flN L n).length
  | n + 1, a, h => by
    show _ ≤ (L n ++ flN L n).length
    rw [List.length_append]
    by_cases hc : a = n
    · subst hc; omega
    · have := len_flN (L := L) (n := n) (a := a) (by omega); omega
theorem flN_congr {L M : Nat → List Int} : ∀ {n : Nat}, (∀ a, a < n → L a = M a) → flN L n = flN M n
  | 0, _ => rfl
  | n + 1, h => by
    show L n ++ flN L n = M n ++ flN M n
    rw [h n (by omega), flN_congr fun a ha => h a (by omega)]
theorem flN_top {L : Nat → List Int} {t : Nat} : ∀ {n : Nat}, t < n → (∀ a, t < a → a < n → L a = []) → flN L n = L t ++ flN L t
  | n + 1, h, hh => by
    show L n ++ flN L n = _
    by_cases hc : t = n
    · subst hc; rfl
    · rw [hh n (by omega) (by omega), flN_top (n := n) (by omega) fun a h1 h2 => hh a h1 (by omega)]; rfl
theorem flN_filter (L : Nat → List Int) (p : Int → Bool) : ∀ n, flN (fun a => (L a).filter p) n = (flN L n).filter p
  | 0 => rfl
  | n + 1 => by
    show (L n).filter p ++ _ = (L n ++ flN L n).filter p
    rw [List.filter_append, flN_filter L p n]

def dropL (L : Nat → List Int) (id : Int) : Nat → List Int := fun a => (L a).filter fun x => decide (x ≠ id)
def addL (L : Nat → List Int) (id : Int) (lv : Nat) (head : Bool) : Nat → List Int := fun a => if a = lv then (bif head then id :: L a else L a ++ [id]) else L a

def doA (L : Nat → List Int) (o : Api_RunOp) : Int × Int × (Nat → List Int) :=
  if o.Kind = 1 ∨ o.Kind = 2 then
    if o.Level < 0 ∨ o.Level ≥ 32 then (0, 2, L) else if o.Id ∈ fl L then (0, 6, L) else (0, 0, addL L o.Id o.Level.toNat (o.Kind == 2))
  else if o.Kind = 3 then
    match fl L with
    | [] => (0, 3, L)
    | x :: _ => (x, 0, dropL L x)
  else if o.Kind = 4 then
    if o.Id ∈ fl L then (0, 0, dropL L o.Id) else (0, 3, L)
  else (0, 5, L)

structure Rep (q : Runq_queue) (L : Nat → List Int) : Prop where
  ls : ∀ a, a < 32 → q.lists_ a = L a
  bits : ∃ x : BitVec 32, q.some_ = (x.toNat : Int) ∧ ∀ a, a < 32 → (x.getLsbD a = true ↔ L a ≠ [])
  at_ : ∀ id v, mget id q.at_ = some v ↔ ∃ a : Nat, a < 32 ∧ v = (a : Int) ∧ id ∈ L a
  keys : (mkeys q.at_).Nodup
  nd : ∀ a, a < 32 → (L a).Nodup

theorem Rep.dj {q : Runq_queue} {L : Nat → List Int} (h : Rep q L) {a b : Nat} {id : Int} (ha : a < 32) (hb : b < 32) (h1 : id ∈ L a) (h2 : id ∈ L b) : a = b := by
  have e1 := (h.at_ id a).2 ⟨a, ha, rfl, h1⟩
  have e2 := (h.at_ id b).2 ⟨b, hb, rfl, h2⟩
  rw [e1] at e2
  have := Option.some.inj e2
  omega
theorem Rep.there {q : Runq_queue} {L : Nat → List Int} (h : Rep q L) (id : Int) : (mget id q.at_).isSome = decide (id ∈ fl L) := by
  cases hg : mget id q.at_ with
  | some v =>
    obtain ⟨a, h1, -, h3⟩ := (h.at_ id v).1 hg
    have hm : id ∈ fl L := mem_flN.2 ⟨a, h1, h3⟩
    rw [decide_eq_true hm]; rfl
  | none =>
    have : id ∉ fl L := by
      intro hm
      obtain ⟨a, h1, h2⟩ := mem_flN.1 hm
      have := (h.at_ id a).2 ⟨a, h1, rfl, h2⟩
      rw [hg] at this; cases this
    rw [decide_eq_false this]; rfl

theorem wrap_u32 {x : Int} (h0 : 0 ≤ x) (h1 : x < 4294967296) : IntKind.u32.wrap x = x := by
  show x % 4294967296 = x
  omega
theorem wrap64 {x : Int} (h1 : -9000000000000000000 ≤ x) (h2 : x ≤ 9000000000000000000) : IntKind.i64.wrap x = x := wrap_id (by omega) (by omega)

theorem ofInt_nat (x : BitVec 32) : BitVec.ofInt 32 (x.toNat : Int) = x := by
  apply BitVec.eq_of_toNat_eq
  rw [BitVec.toNat_ofInt]
  have := x.isLt
  omega
theorem one_bit {a : Nat} (h : a < 32) : (IntKind.u32.wrap (1 * 2 ^ (min a IntKind.u32.bits))) = (((BitVec.ofNat 32 (2 ^ a)).toNat : Nat) : Int) := by
  have hb : IntKind.u32.bits = 32 := rfl
  have h2 : (2 : Nat) ^ a < 2 ^ 32 := Nat.pow_lt_pow_right (by omega) h
  rw [hb, show min a 32 = a by omega, BitVec.toNat_ofNat, Nat.mod_eq_of_lt h2]
  have e : (1 * 2 ^ a : Int) = ((2 ^ a : Nat) : Int) := by simp
  rw [e]
  have h3 : (2 : Nat) ^ a < 4294967296 := h2
  generalize (2 : Nat) ^ a = m at h3
  exact wrap_u32 (by omega) (by omega)
theorem get_one {a b : Nat} (ha : a < 32) (hb : b < 32) : (BitVec.ofNat 32 (2 ^ a)).getLsbD b = decide (a = b) := by
  rw [BitVec.getLsbD_ofNat, Nat.testBit_two_pow]
  simp [hb]
theorem bits_or (x : BitVec 32) {a : Nat} (h : a < 32) : bitsOf .or .u32 (x.toNat : Int) (IntKind.u32.wrap (1 * 2 ^ (min a IntKind.u32.bits))) = ((x ||| BitVec.ofNat 32 (2 ^ a)).toNat : Int) := by
  rw [one_bit h]
  unfold bitsOf
  show IntKind.u32.wrap ((BitVec.ofInt 32 _ ||| BitVec.ofInt 32 _).toNat : Int) = _
  rw [ofInt_nat, ofInt_nat]
  have := (x ||| BitVec.ofNat 32 (2 ^ a)).isLt
  exact wrap_u32 (by omega) (by omega)
theorem bits_not (x : BitVec 32) {a : Nat} (h : a < 32) : bitsOf .andNot .u32 (x.toNat : Int) (IntKind.u32.wrap (1 * 2 ^ (min a IntKind.u32.bits))) = ((x &&& ~~~ BitVec.ofNat 32 (2 ^ a)).toNat : Int) := by
  rw [one_bit h]
  unfold bitsOf
  show IntKind.u32.wrap ((BitVec.ofInt 32 _ &&& ~~~ BitVec.ofInt 32 _).toNat : Int) = _
  rw [ofInt_nat, ofInt_nat]
  have := (x &&& ~~~ BitVec.ofNat 32 (2 ^ a)).isLt
  exact wrap_u32 (by omega) (by omega)

theorem add_spec {q : Runq_queue} {L : Nat → List Int} (h : Rep q L) (id : Int) {lv : Nat} (hl : lv < 32) (head : Bool) (hn : id ∉ fl L) (hs : (fl L).length ≤ 10000000000000) :
    ∃ q', runq_queue_add q id (lv : Int) head = some q' ∧ Rep q' (addL L id lv head) := by
  have hlen : (L lv).length ≤ 10000000000000 := Nat.le_trans (len_flN hl) hs
  have hnl : ∀ a, a < 32 → id ∉ L a := fun a ha hm => hn (mem_flN.2 ⟨a, ha, hm⟩)
  obtain ⟨x, hx, hb⟩ := h.bits
  have key : ∀ M : List Int, M = (bif head then id :: L lv else L lv ++ [id]) → Rep ⟨(bitsOf .or .u32 q.some_ (IntKind.u32.wrap (1 * 2 ^ (min lv IntKind.u32.bits)))), (upd q.lists_ lv M), (mput id (lv : Int) q.at_)⟩ (addL L id lv head) := by
    intro M hM
    refine ⟨fun a ha => ?_, ⟨x ||| BitVec.ofNat 32 (2 ^ lv), by show bitsOf .or .u32 q.some_ _ = _; rw [hx]; exact bits_or x hl, fun a ha => ?_⟩, fun i v => ?_, nodup_mput _ _ _ h.keys, fun a ha => ?_⟩
    · show upd q.lists_ lv M a = addL L id lv head a
      unfold upd addL
      split
      · rename_i e; subst e; exact hM
      · exact h.ls a ha
    · rw [BitVec.getLsbD_or, get_one hl ha, Bool.or_eq_true, hb a ha]
      unfold addL
      split
      · rename_i e; subst e
        cases head <;> simp
      · rename_i e
        simp [Ne.symm e]
    · show mget i (mput id (lv : Int) q.at_) = some v ↔ _
      rw [mget_mput]
      split
      · rename_i e; subst e
        constructor
        · intro e; cases e
          refine ⟨lv, hl, rfl, ?_⟩
          unfold addL; rw [if_pos rfl]
          cases head <;> simp
        · rintro ⟨a, ha, rfl, hm⟩
          unfold addL at hm
          split at hm
          · rename_i e; rw [e]
          · exact absurd hm (hnl a ha)
      · rename_i hne
        rw [h.at_]
        constructor
        · rintro ⟨a, ha, hv, hm⟩
          refine ⟨a, ha, hv, ?_⟩
          unfold addL
          split
          · cases head
            · exact List.mem_append_left _ hm
            · exact List.mem_cons_of_mem _ hm
          · exact hm
        · rintro ⟨a, ha, hv, hm⟩
          refine ⟨a, ha, hv, ?_⟩
          unfold addL at hm
          split at hm
          · cases head
            · rcases List.mem_append.1 hm with hm | hm
              · exact hm
              · exact absurd (List.mem_singleton.1 hm) hne
            · rcases List.mem_cons.1 hm with hm | hm
              · exact absurd hm hne
              · exact hm
          · exact hm
    · unfold addL
      split
      · cases head
        · show (L a ++ [id]).Nodup
          rw [List.nodup_append]
          exact ⟨h.nd a ha, by simp, fun y hy z hz => by rw [List.mem_singleton.1 hz]; rintro rfl; exact hnl a ha hy⟩
        · exact List.nodup_cons.2 ⟨hnl a ha, h.nd a ha⟩
      · exact h.nd a ha
  unfold runq_queue_add
  have i1 : 0 ≤ ((lv : Int) : Int) ∧ (lv : Int) < ((32 : Nat) : Int) := by omega
  rw [if_pos i1]
  simp only [atN, Int.toNat_natCast, h.ls lv hl]
  cases head with
  | true =>
    rw [cond_true]
    unfold slices_Insert_int
    rw [if_pos (by simp; omega), Option.bind_some, if_pos i1, if_pos i1.1]
    exact ⟨_, rfl, key _ (by simp)⟩
  | false =>
    rw [cond_false, if_pos (by simp; omega), if_pos i1, if_pos i1.1]
    exact ⟨_, rfl, key _ (by simp)⟩

theorem index_l1 (l : List Int) (x : Int) : ∀ (n k : Nat) (l2 : List Int), l.drop k = l2 → l.length < n + k → k ≤ l.length →
    (x ∉ l2 → slices_Index_int_l1 l x n k = some (-1)) ∧ (∀ u v, l2 = u ++ x :: v → x ∉ u → slices_Index_int_l1 l x n k = some ((k + u.length : Nat) : Int))
  | 0, k, l2, hd, h, h2 => by omega
  | n + 1, k, l2, hd, h, h2 => by
    unfold slices_Index_int_l1
    by_cases hk : k < l.length
    · rw [dec_lt hk, cond_true, getD_lt l 0 hk]
      rw [List.drop_eq_getElem_cons hk] at hd
      obtain ⟨r1, r2⟩ := index_l1 l x n (k + 1) _ rfl (by omega) (by omega)
      subst hd
      constructor
      · intro hn
        rw [List.mem_cons, not_or] at hn
        rw [show (x == l[k]) = false by simpa using hn.1, cond_false]
        exact r1 hn.2
      · intro u v he hu
        cases u with
        | nil =>
          injection he with h1 h2
          rw [show (x == l[k]) = true by simpa using h1.symm, cond_true]; rfl
        | cons y u =>
          injection he with h1 h2
          rw [List.mem_cons, not_or] at hu
          rw [show (x == l[k]) = false by rw [h1]; simpa using hu.1, cond_false, r2 u v h2 hu.2]
          congr 2
          simp; omega
    · rw [dec_ge (by omega), cond_false]
      rw [List.drop_eq_nil_of_le (by omega)] at hd
      subst hd
      exact ⟨fun _ => rfl, fun u v he => by cases u <;> cases he⟩
theorem index_in {l : List Int} {x : Int} {u v : List Int} (hl : l.length < FUEL) (he : l = u ++ x :: v) (hu : x ∉ u) : slices_Index_int l x = some ((u.length : Nat) : Int) := by
  unfold slices_Index_int
  have := (index_l1 l x FUEL 0 l rfl (by omega) (by omega)).2 u v he hu
  rw [this, Nat.zero_add]
theorem index_out {l : List Int} {x : Int} (hl : l.length < FUEL) (hx : x ∉ l) : slices_Index_int l x = some (-1) := by
  unfold slices_Index_int
  exact (index_l1 l x FUEL 0 l rfl (by omega) (by omega)).1 hx
theorem filter_mid {u v : List Int} {x : Int} (h : (u ++ x :: v).Nodup) : (u ++ x :: v).filter (fun y => decide (y ≠ x)) = u ++ v := by
  rw [List.nodup_append] at h
  obtain ⟨h1, h2, h3⟩ := h
  obtain ⟨h4, h5⟩ := List.nodup_cons.1 h2
  rw [List.filter_append, List.filter_cons]
  simp only [ne_eq, not_true_eq_false, decide_false, Bool.false_eq_true, if_false]
  rw [List.filter_eq_self.2, List.filter_eq_self.2]
  · intro y hy
    simp; rintro rfl; exact h4 hy
  · intro y hy
    simp; rintro rfl; exact h3 _ hy _ List.mem_cons_self rfl

theorem drop_spec {q : Runq_queue} {L : Nat → List Int} (h : Rep q L) (id : Int) (hn : id ∈ fl L) (hs : (fl L).length ≤ 10000000000000) :
    ∃ q', runq_queue_drop q id = some q' ∧ Rep q' (dropL L id) := by
  obtain ⟨a, ha, hm⟩ := mem_flN.1 hn
  have hlen : (L a).length ≤ 10000000000000 := Nat.le_trans (len_flN ha) hs
  have hg : (mget id q.at_).getD 0 = (a : Int) := by rw [(h.at_ id a).2 ⟨a, ha, rfl, hm⟩]; rfl
  obtain ⟨u, v, he, hu⟩ := List.eq_append_cons_of_mem hm
  have hnd : (u ++ id :: v).Nodup := he ▸ h.nd a ha
  have hfil : (L a).filter (fun y => decide (y ≠ id)) = u ++ v := by rw [he]; exact filter_mid hnd
  have hoth : ∀ b, b < 32 → b ≠ a → (L b).filter (fun y => decide (y ≠ id)) = L b := by
    intro b hb hne
    rw [List.filter_eq_self]
    intro y hy
    simp; rintro rfl
    exact hne (h.dj hb ha hy hm)
  obtain ⟨x, hx, hb⟩ := h.bits
  have key : ∀ (s' : Int), (∃ x' : BitVec 32, s' = (x'.toNat : Int) ∧ ∀ b, b < 32 → (x'.getLsbD b = true ↔ dropL L id b ≠ [])) → Rep ⟨s', upd q.lists_ a (u ++ v), mdelete id q.at_⟩ (dropL L id) := by
    intro s' hb'
    refine ⟨fun b hb2 => ?_, hb', fun i w => ?_, nodup_mdelete _ _ h.keys, fun b hb2 => (h.nd b hb2).sublist List.filter_sublist⟩
    · show upd q.lists_ a (u ++ v) b = (L b).filter _
      unfold upd
      split
      · rename_i e; rw [e, hfil]
      · rename_i e; rw [hoth b hb2 e]; exact h.ls b hb2
    · show mget i (mdelete id q.at_) = some w ↔ _
      rw [mget_mdelete _ _ _ h.keys]
      split
      · rename_i e; subst e
        constructor
        · intro e; cases e
        · rintro ⟨b, hb2, -, hmb⟩
          have := (List.mem_filter.1 hmb).2
          simp at this
      · rename_i hne
        rw [h.at_]
        constructor
        · rintro ⟨b, hb2, hv, hmb⟩
          exact ⟨b, hb2, hv, List.mem_filter.2 ⟨hmb, by simpa using hne⟩⟩
        · rintro ⟨b, hb2, hv, hmb⟩
          exact ⟨b, hb2, hv, (List.mem_filter.1 hmb).1⟩
  unfold runq_queue_drop
  rw [hg]
  have i1 : 0 ≤ ((a : Int) : Int) ∧ (a : Int) < ((32 : Nat) : Int) := by omega
  have hulen : u.length + 1 + v.length = (L a).length := by rw [he]; simp; omega
  rw [if_pos i1]
  simp only [atN, Int.toNat_natCast, h.ls a ha]
  rw [index_in (by unfold FUEL; omega) he hu, Option.bind_some, if_pos i1, wrap64 (by omega) (by omega)]
  unfold slices_Delete_int
  rw [if_pos (by omega), Option.bind_some, if_pos i1, if_pos i1]
  have e2 : (L a).take (Int.toNat (u.length : Int)) ++ (L a).drop (Int.toNat ((u.length : Int) + 1)) = u ++ v := by
    rw [Int.toNat_natCast, show Int.toNat ((u.length : Int) + 1) = u.length + 1 by omega, he]
    simp
  rw [e2]
  have e3 : (upd q.lists_ a (u ++ v)) a = u ++ v := by simp [upd]
  rw [e3]
  by_cases hem : (u ++ v).length = 0
  · rw [show ((((((u ++ v).length : Nat) : Int) : Int) == 0)) = true by simp [hem], cond_true, if_pos i1.1]
    refine ⟨_, rfl, key _ ⟨x &&& ~~~ BitVec.ofNat 32 (2 ^ a), by rw [hx]; exact bits_not x ha, fun b hb2 => ?_⟩⟩
    rw [BitVec.getLsbD_and, BitVec.getLsbD_not, get_one ha hb2]
    show _ ↔ (L b).filter _ ≠ []
    by_cases hba : b = a
    · subst hba
      rw [hfil, List.eq_nil_of_length_eq_zero hem]
      simp
    · rw [hoth b hb2 hba, ← hb b hb2]
      simp [hb2, Ne.symm hba]
  · rw [show ((((((u ++ v).length : Nat) : Int) : Int) == 0)) = false from beq_eq_false_iff_ne.2 (by omega), cond_false]
    refine ⟨_, rfl, key _ ⟨x, hx, fun b hb2 => ?_⟩⟩
    rw [hb b hb2]
    show _ ↔ (L b).filter _ ≠ []
    by_cases hba : b = a
    · subst hba
      rw [hfil]
      constructor
      · intro _ e; exact hem (by rw [e]; rfl)
      · intro _ e; rw [e] at hm; cases hm
    · rw [hoth b hb2 hba]

theorem take_top {q : Runq_queue} {L : Nat → List Int} (h : Rep q L) (hne : fl L ≠ []) : ∃ t : Nat, t < 32 ∧ bits_Len32 q.some_ = some ((t : Int) + 1) ∧ L t ≠ [] ∧ ∀ a, t < a → a < 32 → L a = [] := by
  obtain ⟨x, hx, hb⟩ := h.bits
  have hx0 : x.toNat ≠ 0 := by
    intro e
    obtain ⟨y, hy⟩ := List.exists_mem_of_ne_nil _ hne
    obtain ⟨a, ha, hm⟩ := mem_flN.1 hy
    have := (hb a ha).2 (by intro e; rw [e] at hm; cases hm)
    rw [BitVec.getLsbD, e] at this
    simp at this
  have hlt := x.isLt
  obtain ⟨b1, b2, b3⟩ := Lib.bitLenAux_bounds 64 x.toNat (by omega) hx0
  change 1 ≤ Lib.bitLen x.toNat at b1
  change 2 ^ (Lib.bitLen x.toNat - 1) ≤ x.toNat at b2
  change x.toNat < 2 ^ Lib.bitLen x.toNat at b3
  have b4 : Lib.bitLen x.toNat ≤ 32 := Lib.bitLen_le x.toNat 32 (by omega) (by omega)
  obtain ⟨t, ht⟩ : ∃ t, Lib.bitLen x.toNat = t + 1 := ⟨Lib.bitLen x.toNat - 1, by omega⟩
  rw [ht] at b2 b3 b4
  rw [Nat.add_sub_cancel] at b2
  refine ⟨t, by omega, ?_, ?_, ?_⟩
  · unfold bits_Len32
    rw [hx, if_pos (by omega), Int.toNat_natCast, ht]
    rfl
  · apply (hb t (by omega)).1
    rw [BitVec.getLsbD]
    have hq : x.toNat / 2 ^ t = 1 := by
      rw [Nat.pow_succ] at b3
      apply Nat.div_eq_of_lt_le <;> omega
    rw [Nat.testBit_eq_decide_div_mod_eq, hq]
    rfl
  · intro a h1 h2
    apply Classical.byContradiction
    intro hc
    have := (hb a h2).2 hc
    rw [BitVec.getLsbD] at this
    rw [Nat.testBit_lt_two_pow (Nat.lt_of_lt_of_le b3 (Nat.pow_le_pow_right (by omega) (by omega)))] at this
    cases this

theorem some_zero {q : Runq_queue} {L : Nat → List Int} (h : Rep q L) : (q.some_ == 0) = decide (fl L = []) := by
  obtain ⟨x, hx, hb⟩ := h.bits
  by_cases hn : fl L = []
  · have : x.toNat = 0 := by
      apply Nat.eq_of_testBit_eq
      intro i
      rw [Nat.zero_testBit]
      by_cases hi : i < 32
      · cases hq : x.toNat.testBit i with
        | false => rfl
        | true =>
          exfalso
          have h2 := (hb i hi).1 hq
          obtain ⟨y, hy⟩ := List.exists_mem_of_ne_nil _ h2
          have : y ∈ fl L := mem_flN.2 ⟨i, hi, hy⟩
          rw [hn] at this; cases this
      · exact Nat.testBit_lt_two_pow (Nat.lt_of_lt_of_le x.isLt (Nat.pow_le_pow_right (by omega) (by omega)))
    rw [hx, this, decide_eq_true hn]; rfl
  · rw [decide_eq_false hn]
    obtain ⟨t, h1, h2, h3, -⟩ := take_top h hn
    cases hq : (q.some_ == 0) with
    | false => rfl
    | true =>
      exfalso
      have hq : q.some_ = 0 := by simpa using hq
      have := (hb t h1).2 h3
      have hz : x.toNat = 0 := by omega
      rw [BitVec.getLsbD, hz] at this
      simp at this

theorem do_spec {q : Runq_queue} {L : Nat → List Int} (h : Rep q L) (o : Api_RunOp) (hs : (fl L).length ≤ 10000000000000) :
    ∃ q', runq_queue_do q o = some ((doA L o).1, (doA L o).2.1, q') ∧ Rep q' (doA L o).2.2 := by
  have hth := h.there o.Id
  have addcase : ∀ hd : Bool, (o.Kind == 2) = hd → (o.Kind = 1 ∨ o.Kind = 2) → ∃ q', (bif ((decide ((o.Level : Int) < 0)) || (decide ((o.Level : Int) ≥ 32))) then some ((0 : Int), (2 : Int), q) else bif (mget o.Id q.at_).isSome then some (0, 6, q) else (runq_queue_add q o.Id o.Level ((o.Kind : Int) == 2)).bind fun r8 => some (0, 0, r8)) = some ((doA L o).1, (doA L o).2.1, q') ∧ Rep q' (doA L o).2.2 := by
    intro hd hhd hk
    unfold doA
    rw [if_pos hk]
    by_cases hr : o.Level < 0 ∨ o.Level ≥ 32
    · rw [if_pos hr, show ((decide ((o.Level : Int) < 0)) || (decide ((o.Level : Int) ≥ 32))) = true by rcases hr with hr | hr <;> simp [hr], cond_true]
      exact ⟨q, rfl, h⟩
    · rw [if_neg hr, show ((decide ((o.Level : Int) < 0)) || (decide ((o.Level : Int) ≥ 32))) = false by simp; omega, cond_false, hth]
      by_cases hm : o.Id ∈ fl L
      · rw [if_pos hm, decide_eq_true hm, cond_true]; exact ⟨q, rfl, h⟩
      · rw [if_neg hm, decide_eq_false hm, cond_false]
        obtain ⟨lv, hlv⟩ : ∃ lv : Nat, o.Level = (lv : Int) := ⟨o.Level.toNat, by omega⟩
        obtain ⟨q', h1, h2⟩ := add_spec h o.Id (lv := lv) (by omega) (o.Kind == 2) hm hs
        rw [hlv, h1, Option.bind_some, Int.toNat_natCast]
        exact ⟨q', rfl, h2⟩
  have takecase : o.Kind = 3 → ∃ q', (bif ((q.some_ : Int) == 0) then some ((0 : Int), (3 : Int), q) else (bits_Len32 q.some_).bind fun r12 => if 0 ≤ ((IntKind.i64.wrap (r12 - 1)) : Int) ∧ (IntKind.i64.wrap (r12 - 1)) < ((32 : Nat) : Int) then atN (Int.toNat (IntKind.i64.wrap (r12 - 1))) fun kk15 => if 0 ≤ (0 : Int) ∧ 0 < (((q.lists_ kk15).length : Nat) : Int) then (runq_queue_drop q ((q.lists_ kk15).getD (0 + 0) 0)).bind fun r17 => some (((q.lists_ kk15).getD (0 + 0) 0), 0, r17) else none else none) = some ((doA L o).1, (doA L o).2.1, q') ∧ Rep q' (doA L o).2.2 := by
    intro hk
    unfold doA
    rw [if_neg (by omega), if_pos hk, some_zero h]
    cases hf : fl L with
    | nil => exact ⟨q, rfl, h⟩
    | cons x r =>
      rw [show decide (x :: r = []) = false from rfl, cond_false]
      obtain ⟨t, h1, h2, h3, h4⟩ := take_top h (by rw [hf]; simp)
      rw [h2, Option.bind_some, show (t : Int) + 1 - 1 = (t : Int) by omega, wrap64 (by omega) (by omega), if_pos (by omega)]
      simp only [atN, Int.toNat_natCast, h.ls t h1]
      have htop := flN_top (L := L) h1 (fun a ha hb => h4 a ha hb)
      change fl L = _ at htop
      cases hL : L t with
      | nil => exact absurd hL h3
      | cons y s =>
        rw [hL, hf] at htop
        injection htop with hxy _
        subst hxy
        rw [if_pos (by simp)]
        show ∃ q', (runq_queue_drop q x).bind (fun r17 => some (x, (0 : Int), r17)) = _ ∧ _
        obtain ⟨q', e1, e2⟩ := drop_spec h x (by rw [hf]; exact List.mem_cons_self) hs
        rw [e1, Option.bind_some]
        exact ⟨q', rfl, e2⟩
  have dropcase : o.Kind = 4 → ∃ q', (bif (!((mget o.Id q.at_).isSome)) then some ((0 : Int), (3 : Int), q) else (runq_queue_drop q o.Id).bind fun r21 => some (0, 0, r21)) = some ((doA L o).1, (doA L o).2.1, q') ∧ Rep q' (doA L o).2.2 := by
    intro hk
    unfold doA
    rw [if_neg (by omega), if_neg (by omega), if_pos hk, hth]
    by_cases hm : o.Id ∈ fl L
    · rw [if_pos hm, decide_eq_true hm, show (!true) = false from rfl, cond_false]
      obtain ⟨q', e1, e2⟩ := drop_spec h o.Id hm hs
      rw [e1, Option.bind_some]
      exact ⟨q', rfl, e2⟩
    · rw [if_neg hm, decide_eq_false hm, show (!false) = true from rfl, cond_true]; exact ⟨q, rfl, h⟩
  unfold runq_queue_do
  by_cases k1 : o.Kind = 1
  · rw [show (o.Kind == 1) = true by rw [k1]; rfl, cond_true, cond_true]
    exact addcase _ rfl (.inl k1)
  · rw [show (o.Kind == 1) = false by simpa using k1, cond_false]
    by_cases k2 : o.Kind = 2
    · rw [show (o.Kind == 2) = true by rw [k2]; rfl, cond_true]
      have := addcase _ rfl (.inr k2)
      rw [show (o.Kind == 2) = true by rw [k2]; rfl] at this
      exact this
    · rw [show (o.Kind == 2) = false by simpa using k2, cond_false]
      by_cases k3 : o.Kind = 3
      · rw [show (o.Kind == 3) = true by rw [k3]; rfl, cond_true]
        exact takecase k3
      · rw [show (o.Kind == 3) = false by simpa using k3, cond_false]
        by_cases k4 : o.Kind = 4
        · rw [show (o.Kind == 4) = true by rw [k4]; rfl, cond_true]
          exact dropcase k4
        · rw [show (o.Kind == 4) = false by simpa using k4, cond_false]
          refine ⟨q, ?_, ?_⟩
          · unfold doA
            rw [if_neg (by omega), if_neg k3, if_neg k4]
          · unfold doA
            rw [if_neg (by omega), if_neg k3, if_neg k4]; exact h

def norm (q : Runq_queue) : Runq_queue := ⟨q.some_, arrOf [q.lists_ 0, q.lists_ 1, q.lists_ 2, q.lists_ 3, q.lists_ 4, q.lists_ 5, q.lists_ 6, q.lists_ 7, q.lists_ 8, q.lists_ 9, q.lists_ 10, q.lists_ 11, q.lists_ 12, q.lists_ 13, q.lists_ 14, q.lists_ 15, q.lists_ 16, q.lists_ 17, q.lists_ 18, q.lists_ 19, q.lists_ 20, q.lists_ 21, q.lists_ 22, q.lists_ 23, q.lists_ 24, q.lists_ 25, q.lists_ 26, q.lists_ 27, q.lists_ 28, q.lists_ 29, q.lists_ 30, q.lists_ 31] [], q.at_⟩
theorem arr_eq (f : Nat → List Int) {a : Nat} (h : a < 32) : arrOf [f 0, f 1, f 2, f 3, f 4, f 5, f 6, f 7, f 8, f 9, f 10, f 11, f 12, f 13, f 14, f 15, f 16, f 17, f 18, f 19, f 20, f 21, f 22, f 23, f 24, f 25, f 26, f 27, f 28, f 29, f 30, f 31] [] a = f a := by
  have e : [f 0, f 1, f 2, f 3, f 4, f 5, f 6, f 7, f 8, f 9, f 10, f 11, f 12, f 13, f 14, f 15, f 16, f 17, f 18, f 19, f 20, f 21, f 22, f 23, f 24, f 25, f 26, f 27, f 28, f 29, f 30, f 31] = (List.range 32).map f := rfl
  rw [e]
  unfold arrOf
  simp [List.getD_eq_getElem?_getD, h]
theorem norm_rep {q : Runq_queue} {L : Nat → List Int} (h : Rep q L) : Rep (norm q) L :=
  ⟨fun a ha => (arr_eq q.lists_ ha).trans (h.ls a ha), h.bits, h.at_, h.keys, h.nd⟩

def pl2 (l1 l2 : List Int) (q : Runq_queue) (n : Nat) (l : List Int) (x : Int) : Option (List Int × List Int × List Int) := runq_Play_l2 l1 l2 (q.lists_ 0) (q.lists_ 1) (q.lists_ 2) (q.lists_ 3) (q.lists_ 4) (q.lists_ 5) (q.lists_ 6) (q.lists_ 7) (q.lists_ 8) (q.lists_ 9) (q.lists_ 10) (q.lists_ 11) (q.lists_ 12) (q.lists_ 13) (q.lists_ 14) (q.lists_ 15) (q.lists_ 16) (q.lists_ 17) (q.lists_ 18) (q.lists_ 19) (q.lists_ 20) (q.lists_ 21) (q.lists_ 22) (q.lists_ 23) (q.lists_ 24) (q.lists_ 25) (q.lists_ 26) (q.lists_ 27) (q.lists_ 28) (q.lists_ 29) (q.lists_ 30) (q.lists_ 31) n l x
theorem pl2_step (l1 l2 : List Int) (q : Runq_queue) (n : Nat) (l : List Int) (x : Int) : pl2 l1 l2 q (n + 1) l x = bif (decide ((x : Int) ≥ 0)) then
      if 0 ≤ (x : Int) ∧ x < ((32 : Nat) : Int) then
      if (l.length + (((norm q).lists_ (Int.toNat x))).length) * 8 ≤ 140737488355328 ∧ l.length + (((norm q).lists_ (Int.toNat x))).length ≤ 140737488355328 then
      pl2 l1 l2 q n (l ++ ((norm q).lists_ (Int.toNat x))) (IntKind.i64.wrap (x - 1))
      else none
      else none
    else some (l1, l2, l) := rfl
def pl1 (a0 : List Api_RunOp) (n : Nat) (l1 l2 : List Int) (k : Nat) (q : Runq_queue) : Option (List Int × List Int × List Int) := runq_Play_l1 a0 n l1 l2 k q.some_ (q.lists_ 0) (q.lists_ 1) (q.lists_ 2) (q.lists_ 3) (q.lists_ 4) (q.lists_ 5) (q.lists_ 6) (q.lists_ 7) (q.lists_ 8) (q.lists_ 9) (q.lists_ 10) (q.lists_ 11) (q.lists_ 12) (q.lists_ 13) (q.lists_ 14) (q.lists_ 15) (q.lists_ 16) (q.lists_ 17) (q.lists_ 18) (q.lists_ 19) (q.lists_ 20) (q.lists_ 21) (q.lists_ 22) (q.lists_ 23) (q.lists_ 24) (q.lists_ 25) (q.lists_ 26) (q.lists_ 27) (q.lists_ 28) (q.lists_ 29) (q.lists_ 30) (q.lists_ 31) q.at_
theorem pl1_step (a0 : List Api_RunOp) (n : Nat) (l1 l2 : List Int) (k : Nat) (q : Runq_queue) : pl1 a0 (n + 1) l1 l2 k q = bif (decide ((((k : Nat) : Int) : Int) < ((a0.length : Nat) : Int))) then
      (runq_queue_do (norm q) (a0.getD k (⟨0, 0, 0⟩ : Api_RunOp))).bind fun r40 =>
      if (l1.length + ([r40.2.1]).length) * 8 ≤ 140737488355328 ∧ l1.length + ([r40.2.1]).length ≤ 140737488355328 then
      bif (((r40.2.1 : Int) == 0) && (((a0.getD k (⟨0, 0, 0⟩ : Api_RunOp)).Kind : Int) == 3)) then
        if (l2.length + ([r40.1]).length) * 8 ≤ 140737488355328 ∧ l2.length + ([r40.1]).length ≤ 140737488355328 then
        pl1 a0 n (l1 ++ [r40.2.1]) (l2 ++ [r40.1]) (k + 1) r40.2.2
        else none
      else pl1 a0 n (l1 ++ [r40.2.1]) l2 (k + 1) r40.2.2
      else none
    else pl2 l1 l2 q FUEL ([] : List Int) 31 := rfl
def q0 : Runq_queue := ⟨0, fun _ => [], []⟩
theorem play_eq (a0 : List Api_RunOp) : runq_Play a0 = pl1 a0 FUEL [] [] 0 q0 := rfl
def L0 : Nat → List Int := fun _ => []
theorem rep0 : Rep q0 L0 := ⟨fun _ _ => rfl, ⟨0, rfl, fun a ha => by simp [L0]⟩, fun id v => by simp [q0, L0, mget], List.nodup_nil, fun _ _ => List.nodup_nil⟩

theorem pl2_spec (l1 l2 : List Int) {q : Runq_queue} {L : Nat → List Int} (h : Rep q L) (hs : (fl L).length ≤ 10000000000000) : ∀ (a n : Nat) (l : List Int), a ≤ 32 → l ++ flN L a = fl L → pl2 l1 l2 q (n + 1 + a) l ((a : Int) - 1) = some (l1, l2, fl L)
  | 0, n, l, _, he => by
    rw [Nat.add_zero, pl2_step]
    rw [show decide ((((0 : Nat) : Int) - 1 : Int) ≥ 0) = false from rfl, cond_false]
    rw [← he]; simp [flN]
  | a + 1, n, l, ha, he => by
    rw [show n + 1 + (a + 1) = (n + 1 + a) + 1 by omega, pl2_step]
    have e1 : (((a + 1 : Nat) : Int) - 1) = (a : Int) := by omega
    rw [e1, show decide (((a : Nat) : Int) ≥ 0) = true by simp, cond_true, if_pos (by omega), Int.toNat_natCast]
    have e2 : (norm q).lists_ a = L a := (norm_rep h).ls a (by omega)
    rw [e2]
    have he' : (l ++ L a) ++ flN L a = fl L := by rw [List.append_assoc]; exact he
    have hlen := congrArg List.length he'
    simp only [List.length_append] at hlen
    rw [if_pos (by omega), wrap64 (by omega) (by omega)]
    exact pl2_spec l1 l2 h hs a n (l ++ L a) (by omega) he'

theorem addL_flN (L : Nat → List Int) (id : Int) (lv : Nat) (head : Bool) : ∀ n, (flN (addL L id lv head) n).length ≤ (flN L n).length + 1 ∧ (n ≤ lv → flN (addL L id lv head) n = flN L n)
  | 0 => ⟨by simp [flN], fun _ => rfl⟩
  | n + 1 => by
    obtain ⟨h1, h2⟩ := addL_flN L id lv head n
    show (addL L id lv head n ++ flN (addL L id lv head) n).length ≤ (L n ++ flN L n).length + 1 ∧ (_ → addL L id lv head n ++ flN (addL L id lv head) n = L n ++ flN L n)
    by_cases hc : n = lv
    · subst hc
      refine ⟨?_, fun h => by omega⟩
      rw [h2 (Nat.le_refl _)]
      unfold addL
      rw [if_pos rfl]
      cases head <;> simp <;> omega
    · have : addL L id lv head n = L n := by unfold addL; rw [if_neg hc]
      rw [this]
      refine ⟨by simp; omega, fun h => by rw [h2 (by omega)]⟩

theorem do_len (L : Nat → List Int) (o : Api_RunOp) : (fl (doA L o).2.2).length ≤ (fl L).length + 1 := by
  have hd : ∀ id, (fl (dropL L id)).length ≤ (fl L).length + 1 := fun id => by
    show (flN (fun a => (L a).filter _) 32).length ≤ _
    rw [flN_filter]
    have := List.length_filter_le (fun x => decide (x ≠ id)) (flN L 32)
    show _ ≤ (flN L 32).length + 1
    omega
  unfold doA
  split
  · split
    · show (fl L).length ≤ _; omega
    · split
      · show (fl L).length ≤ _; omega
      · exact (addL_flN L _ _ _ 32).1
  · split
    · have e : ∀ l : List Int, (fl (match l with | [] => ((0 : Int), (3 : Int), L) | x :: _ => (x, 0, dropL L x)).2.2).length ≤ (fl L).length + 1 := by
        intro l
        cases l with
        | nil => show (fl L).length ≤ _; omega
        | cons x r => exact hd x
      exact e (fl L)
    · split
      · split
        · exact hd _
        · show (fl L).length ≤ _; omega
      · show (fl L).length ≤ _; omega

def runA (L : Nat → List Int) (ops : List Api_RunOp) : Nat → List Int := ops.foldl (fun L o => (doA L o).2.2) L
def errsA : (Nat → List Int) → List Api_RunOp → List Int
  | _, [] => []
  | L, o :: r => (doA L o).2.1 :: errsA (doA L o).2.2 r
def gotA : (Nat → List Int) → List Api_RunOp → List Int
  | _, [] => []
  | L, o :: r => (bif ((doA L o).2.1 == 0) && (o.Kind == 3) then [(doA L o).1] else []) ++ gotA (doA L o).2.2 r

theorem getD_drop {α : Type} {l : List α} {k : Nat} {x : α} {r : List α} (d : α) (h : l.drop k = x :: r) : l.getD k d = x ∧ k < l.length ∧ l.drop (k + 1) = r := by
  have hk : k < l.length := by
    apply Classical.byContradiction; intro hc
    rw [List.drop_eq_nil_of_le (by omega)] at h; cases h
  rw [List.drop_eq_getElem_cons hk] at h
  injection h with h1 h2
  exact ⟨by rw [getD_lt l d hk]; exact h1, hk, h2⟩

theorem pl1_spec (ops : List Api_RunOp) (hops : ops.length ≤ 6000000000000) : ∀ (r : List Api_RunOp) (n : Nat) (l1 l2 : List Int) (k : Nat) {q : Runq_queue} {L : Nat → List Int}, Rep q L → ops.drop k = r → k + r.length = ops.length → (fl L).length ≤ k → l1.length ≤ k → l2.length ≤ k →
    pl1 ops (n + 1 + r.length) l1 l2 k q = some (l1 ++ errsA L r, l2 ++ gotA L r, fl (runA L r))
  | [], n, l1, l2, k, q, L, h, hd, hk, hf, h1, h2 => by
    simp only [List.length_nil, Nat.add_zero] at hk ⊢
    rw [pl1_step, dec_ge (by omega), cond_false]
    obtain ⟨m, hm⟩ : ∃ m, FUEL = m + 1 + 32 := ⟨FUEL - 33, by unfold FUEL; rfl⟩
    rw [hm]
    have := pl2_spec l1 l2 h (by omega) 32 m [] (Nat.le_refl _) rfl
    simp only [errsA, gotA, List.append_nil]
    exact this
  | o :: r, n, l1, l2, k, q, L, h, hd, hk, hf, h1, h2 => by
    simp only [List.length_cons] at hk ⊢
    obtain ⟨o1, o2, o3⟩ := getD_drop (⟨0, 0, 0⟩ : Api_RunOp) hd
    rw [show n + 1 + (r.length + 1) = (n + 1 + r.length) + 1 by omega, pl1_step, dec_lt (by omega), cond_true, o1]
    obtain ⟨q', e1, e2⟩ := do_spec (norm_rep h) o (by omega)
    have hl := do_len L o
    rw [e1, Option.bind_some]
    simp only
    rw [if_pos (by simp; omega)]
    cases hc : ((doA L o).2.1 == 0) && (o.Kind == 3) with
    | true =>
      rw [cond_true, if_pos (by simp; omega), pl1_spec ops hops r n _ _ (k + 1) e2 o3 (by omega) (by omega) (by simp; omega) (by simp; omega)]
      show _ = some (l1 ++ ((doA L o).2.1 :: errsA _ r), l2 ++ ((bif ((doA L o).2.1 == 0) && (o.Kind == 3) then [(doA L o).1] else []) ++ gotA _ r), _)
      rw [hc, cond_true]
      simp [runA]
    | false =>
      rw [cond_false, pl1_spec ops hops r n _ _ (k + 1) e2 o3 (by omega) (by omega) (by simp; omega) (by omega)]
      show _ = some (l1 ++ ((doA L o).2.1 :: errsA _ r), l2 ++ ((bif ((doA L o).2.1 == 0) && (o.Kind == 3) then [(doA L o).1] else []) ++ gotA _ r), _)
      rw [hc, cond_false]
      simp [runA]

theorem play_spec (ops : List Api_RunOp) (h : ops.length ≤ 6000000000000) : runq_Play ops = some (errsA L0 ops, gotA L0 ops, fl (runA L0 ops)) := by
  rw [play_eq]
  obtain ⟨m, hm⟩ : ∃ m, FUEL = m + 1 + ops.length := ⟨FUEL - 1 - ops.length, by unfold FUEL; omega⟩
  rw [hm, pl1_spec ops h ops m [] [] 0 rep0 rfl (by omega) (by decide) (by simp) (by simp)]
  rfl

theorem eq_self_l1 (l : List Int) : ∀ (n k : Nat), k ≤ l.length → l.length < n + k → slices_Equal_int_l1 l l n k = some true
  | 0, k, h, h2 => by omega
  | n + 1, k, h, h2 => by
    unfold slices_Equal_int_l1
    by_cases hk : k < l.length
    · rw [dec_lt hk, cond_true, if_pos (idx_ok hk), show ((l.getD k 0 : Int) != l.getD k 0) = false by simp, cond_false]
      exact eq_self_l1 l n (k + 1) (by omega) (by omega)
    · rw [dec_ge (by omega), cond_false]
theorem eq_self (l : List Int) (h : l.length < FUEL) : slices_Equal_int l l = some true := by
  unfold slices_Equal_int
  rw [show ((((l.length : Nat) : Int) : Int) != ((l.length : Nat) : Int)) = false by simp, cond_false]
  exact eq_self_l1 l _ 0 (by omega) (by omega)

theorem alive : keep_alive13 = some true := by
  unfold keep_alive13
  rw [play_spec _ (by decide), Option.bind_some]
  decide +kernel

theorem runA_append (L : Nat → List Int) (l l' : List Api_RunOp) : runA L (l ++ l') = runA (runA L l) l' := by unfold runA; rw [List.foldl_append]
theorem errsA_append : ∀ (l : List Api_RunOp) (L : Nat → List Int) (l' : List Api_RunOp), errsA L (l ++ l') = errsA L l ++ errsA (runA L l) l'
  | [], _, _ => rfl
  | o :: r, L, l' => by
    show (doA L o).2.1 :: errsA (doA L o).2.2 (r ++ l') = (doA L o).2.1 :: (errsA (doA L o).2.2 r ++ errsA (runA (doA L o).2.2 r) l')
    rw [errsA_append r]
theorem gotA_append : ∀ (l : List Api_RunOp) (L : Nat → List Int) (l' : List Api_RunOp), gotA L (l ++ l') = gotA L l ++ gotA (runA L l) l'
  | [], _, _ => rfl
  | o :: r, L, l' => by
    show (bif ((doA L o).2.1 == 0) && (o.Kind == 3) then [(doA L o).1] else []) ++ gotA (doA L o).2.2 (r ++ l') = ((bif ((doA L o).2.1 == 0) && (o.Kind == 3) then [(doA L o).1] else []) ++ gotA (doA L o).2.2 r) ++ gotA (runA (doA L o).2.2 r) l'
    rw [gotA_append r, List.append_assoc]
theorem errsA_length : ∀ (ops : List Api_RunOp) (L : Nat → List Int), (errsA L ops).length = ops.length
  | [], _ => rfl
  | o :: r, L => by unfold errsA; rw [List.length_cons, List.length_cons, errsA_length r]
theorem fl_len : ∀ (ops : List Api_RunOp) (L : Nat → List Int), (fl (runA L ops)).length ≤ (fl L).length + ops.length
  | [], L => by simp [runA]
  | o :: r, L => by
    have h1 := do_len L o
    have h2 := fl_len r (doA L o).2.2
    show (fl (runA (doA L o).2.2 r)).length ≤ _
    simp only [List.length_cons]; omega
theorem got_len : ∀ (ops : List Api_RunOp) (L : Nat → List Int), (gotA L ops).length ≤ ops.length
  | [], L => by simp [gotA]
  | o :: r, L => by
    have h2 := got_len r (doA L o).2.2
    show ((bif ((doA L o).2.1 == 0) && (o.Kind == 3) then [(doA L o).1] else []) ++ gotA (doA L o).2.2 r).length ≤ _
    cases ((doA L o).2.1 == 0) && (o.Kind == 3) <;> simp <;> omega

/- every state has a queue, so what is known of queues holds -/
theorem rep_run : ∀ (ops : List Api_RunOp) {q : Runq_queue} {L : Nat → List Int}, Rep q L → (fl L).length + ops.length ≤ 10000000000000 → ∃ q', Rep q' (runA L ops)
  | [], q, L, h, _ => ⟨q, h⟩
  | o :: r, q, L, h, hs => by
    simp only [List.length_cons] at hs
    obtain ⟨q', -, e2⟩ := do_spec h o (by omega)
    have hl := do_len L o
    show ∃ q', Rep q' (runA (doA L o).2.2 r)
    exact rep_run r e2 (by omega)

theorem flN_nodup {q : Runq_queue} {L : Nat → List Int} (h : Rep q L) : ∀ n, n ≤ 32 → (flN L n).Nodup
  | 0, _ => List.nodup_nil
  | n + 1, hn => by
    show (L n ++ flN L n).Nodup
    rw [List.nodup_append]
    refine ⟨h.nd n (by omega), flN_nodup h n (by omega), fun x hx y hy => ?_⟩
    rintro rfl
    obtain ⟨a, h1, h2⟩ := mem_flN.1 hy
    have := h.dj (a := n) (b := a) (by omega) (by omega) hx h2
    omega

/- what Compact leaves -/
def ddn (a : List Int) : Nat → List Int
  | 0 => []
  | 1 => a.take 1
  | n + 2 => if a.getD (n + 1) 0 = a.getD n 0 then ddn a (n + 1) else ddn a (n + 1) ++ [a.getD (n + 1) 0]
theorem ddn_len (a : List Int) : ∀ n, (ddn a n).length ≤ n
  | 0 => Nat.le_refl _
  | 1 => by simp [ddn]; omega
  | n + 2 => by
    have := ddn_len a (n + 1)
    unfold ddn
    split
    · omega
    · simp; omega
theorem ddn_ok (a : List Int) (hs : a.Pairwise (· ≤ ·)) : ∀ n, n + 1 ≤ a.length → (∃ l, ddn a (n + 1) = l ++ [a.getD n 0]) ∧ (ddn a (n + 1)).Pairwise (· < ·) ∧ ∀ x, x ∈ ddn a (n + 1) ↔ x ∈ a.take (n + 1)
  | 0, h => by
    have e : ddn a 1 = [a.getD 0 0] := by
      show a.take 1 = _
      cases a with
      | nil => simp at h
      | cons x r => rfl
    rw [e]
    refine ⟨⟨[], rfl⟩, by simp, fun x => ?_⟩
    rw [← e]; rfl
  | n + 1, h => by
    obtain ⟨⟨l, h1⟩, h2, h3⟩ := ddn_ok a hs n (by omega)
    have hn : n + 1 < a.length := by omega
    have htk : a.take (n + 1 + 1) = a.take (n + 1) ++ [a.getD (n + 1) 0] := by
      rw [List.take_succ_eq_append_getElem hn, getD_lt a 0 hn]
    have hle : a.getD n 0 ≤ a.getD (n + 1) 0 := by
      rw [getD_lt a 0 hn, getD_lt a 0 (by omega : n < a.length)]
      exact List.pairwise_iff_getElem.1 hs n (n + 1) (by omega) hn (by omega)
    show (∃ l, ddn a (n + 2) = l ++ [a.getD (n + 1) 0]) ∧ (ddn a (n + 2)).Pairwise (· < ·) ∧ ∀ x, x ∈ ddn a (n + 2) ↔ x ∈ a.take (n + 1 + 1)
    rw [htk]
    unfold ddn
    split
    · rename_i he
      refine ⟨⟨l, by rw [h1, he]⟩, h2, fun x => ?_⟩
      rw [h3, List.mem_append, List.mem_singleton, he]
      constructor
      · exact .inl
      · rintro (h | rfl)
        · exact h
        · rw [← h3, h1]; simp
    · rename_i he
      refine ⟨⟨_, rfl⟩, ?_, fun x => by rw [List.mem_append, List.mem_append, h3]⟩
      rw [List.pairwise_append]
      refine ⟨h2, by simp, fun x hx y hy => ?_⟩
      rw [List.mem_singleton.1 hy]
      have hxl : x ≤ a.getD n 0 := by
        rw [h1] at hx h2
        rcases List.mem_append.1 hx with hx | hx
        · have := (List.pairwise_append.1 h2).2.2 x hx _ (List.mem_singleton.2 rfl)
          omega
        · rw [List.mem_singleton.1 hx]; omega
      omega

theorem w64 {x : Int} (h1 : -9000000000000000000 ≤ x) (h2 : x ≤ 9000000000000000000) : IntKind.i64.wrap x = x := wrap_id (by omega) (by omega)

abbrev CK := Int → Int → (List Int) → Option (List Int)
def ckK : CK := fun (x9 : Int) (x10 : Int) (l11 : List Int) =>
            if 0 ≤ (x9 : Int) then
            if (Int.toNat x9) ≤ l11.length then
            if (0 + (Int.toNat x9)) + (l11.length - (Int.toNat x9)) ≤ l11.length then
            if 0 ≤ (x9 : Int) then
            if (Int.toNat x9) ≤ l11.length then
            some (((cpL l11 (0 + (Int.toNat x9)) (l11.length - (Int.toNat x9)) (List.replicate (l11.length - (Int.toNat x9)) (0 : Int))).drop (0 + 0)).take ((Int.toNat x9) - 0))
            else none
            else none
            else none
            else none
            else none
theorem ckK_eq (w : Nat) (x10 : Int) (l : List Int) (h : w ≤ l.length) : ckK (w : Int) x10 l = some (l.take w) := by
  unfold ckK
  simp only [Int.toNat_natCast, Nat.zero_add, Nat.sub_zero, List.drop_zero]
  rw [if_pos (by omega), if_pos h, if_pos (by omega), if_pos (by omega), if_pos h]
  unfold cpL
  simp [List.take_append, Nat.min_eq_left h]

theorem compact_l2 (a0 : List Int) (k : Nat) (hk : k < a0.length) (hb : a0.length ≤ 140737488355328) : ∀ (m n w i : Nat) (l : List Int), k + i + m = a0.length → 1 ≤ i → w + 1 ≤ k + i → l.length = a0.length → l.take w = ddn a0 (k + i) → l.drop (k + i - 1) = a0.drop (k + i - 1) →
    slices_Compact_int_h0_l2 a0 (k : Int) ckK (n + 1 + m) (w : Int) (i : Int) l = some (ddn a0 a0.length)
  | 0, n, w, i, l, hm, hi, hw, hl, ht, hd => by
    unfold slices_Compact_int_h0_l2
    rw [Int.toNat_natCast, show decide ((i : Int) < ((a0.length - k : Nat) : Int)) = false by simp; omega, cond_false, ckK_eq w _ l (by omega), ht, show k + i = a0.length by omega]
  | m + 1, n, w, i, l, hm, hi, hw, hl, ht, hd => by
    rw [show n + 1 + (m + 1) = (n + 1 + m) + 1 by omega]
    unfold slices_Compact_int_h0_l2
    simp only [Int.toNat_natCast, Nat.zero_add]
    have hget : ∀ j, k + i - 1 ≤ j → j < a0.length → l.getD j 0 = a0.getD j 0 := by
      intro j h1 h2
      have := congrArg (fun z => z[j - (k + i - 1)]?) hd
      simp only [List.getElem?_drop] at this
      rw [show k + i - 1 + (j - (k + i - 1)) = j by omega] at this
      rw [List.getD_eq_getElem?_getD, List.getD_eq_getElem?_getD, this]
    rw [show decide ((i : Int) < ((a0.length - k : Nat) : Int)) = true by simp; omega, cond_true, if_pos (by omega), if_pos (by omega), w64 (by omega) (by omega), if_pos (by omega)]
    rw [show Int.toNat ((i : Int) - 1) = i - 1 by omega, if_pos (by omega), hget (k + i) (by omega) (by omega), hget (k + (i - 1)) (by omega) (by omega)]
    have hstep : ddn a0 (k + i + 1) = if a0.getD (k + i) 0 = a0.getD (k + (i - 1)) 0 then ddn a0 (k + i) else ddn a0 (k + i) ++ [a0.getD (k + i) 0] := by
      obtain ⟨q, hq⟩ : ∃ q, k + i = q + 1 := ⟨k + i - 1, by omega⟩
      rw [hq, show k + (i - 1) = q by omega]; rfl
    have hdr : ∀ l' : List Int, l'.drop (k + i) = l.drop (k + i) → l'.drop (k + (i + 1) - 1) = a0.drop (k + (i + 1) - 1) := by
      intro l' h
      rw [show k + (i + 1) - 1 = k + i by omega, h]
      have := congrArg (List.drop 1) hd
      rw [List.drop_drop, List.drop_drop, show k + i - 1 + 1 = k + i by omega] at this
      exact this
    by_cases he : a0.getD (k + i) 0 = a0.getD (k + (i - 1)) 0
    · rw [show (a0.getD (k + i) 0 != a0.getD (k + (i - 1)) 0) = false by simpa using he, cond_false, w64 (by omega) (by omega), show ((i : Int) + 1) = ((i + 1 : Nat) : Int) by omega]
      refine compact_l2 a0 k hk hb m n w (i + 1) l (by omega) (by omega) (by omega) hl ?_ (hdr l rfl)
      rw [show k + (i + 1) = k + i + 1 by omega, hstep, if_pos he]; exact ht
    · rw [show (a0.getD (k + i) 0 != a0.getD (k + (i - 1)) 0) = true by simpa using he, cond_true, if_pos (by omega), if_pos (by omega), if_pos (by omega), w64 (by omega) (by omega), w64 (by omega) (by omega), show ((i : Int) + 1) = ((i + 1 : Nat) : Int) by omega, show ((w : Int) + 1) = ((w + 1 : Nat) : Int) by omega]
      refine compact_l2 a0 k hk hb m n (w + 1) (i + 1) _ (by omega) (by omega) (by omega) (by simpa using hl) ?_ (hdr _ (by rw [List.drop_set_of_lt (by omega)]))
      rw [show k + (i + 1) = k + i + 1 by omega, hstep, if_neg he, ← ht]
      have hwl : w < l.length := by omega
      rw [List.take_succ_eq_append_getElem (by simpa using hwl), List.take_set_of_le (Nat.le_refl _)]
      simp

theorem l1_step (a0 : List Int) (n1 : Nat) (x2 : Int) : slices_Compact_int_h0_l1 a0 (n1 + 1) x2 = bif (decide ((x2 : Int) < ((a0.length : Nat) : Int))) then
      if 0 ≤ (x2 : Int) ∧ x2 < ((a0.length : Nat) : Int) then
      if 0 ≤ ((IntKind.i64.wrap (x2 - 1)) : Int) ∧ (IntKind.i64.wrap (x2 - 1)) < ((a0.length : Nat) : Int) then
      bif (((a0.getD (0 + (Int.toNat x2)) 0) : Int) == (a0.getD (0 + (Int.toNat (IntKind.i64.wrap (x2 - 1)))) 0)) then
        if 0 ≤ (x2 : Int) then
        if (Int.toNat x2) ≤ a0.length then
        slices_Compact_int_h0_l2 a0 x2 ckK FUEL x2 1 a0
        else none
        else none
      else
        slices_Compact_int_h0_l1 a0 n1 (IntKind.i64.wrap (x2 + 1))
      else none
      else none
    else
      some a0 := rfl
theorem compact_l1 (a0 : List Int) (hb : a0.length ≤ 140737488355328) : ∀ (m n k : Nat), k + m = a0.length → 1 ≤ k → ddn a0 k = a0.take k → slices_Compact_int_h0_l1 a0 (n + 1 + m) (k : Int) = some (ddn a0 a0.length)
  | 0, n, k, hm, hk, hd => by
    rw [l1_step]
    rw [show decide ((k : Int) < ((a0.length : Nat) : Int)) = false by simp; omega, cond_false]
    rw [show k = a0.length by omega, List.take_of_length_le (Nat.le_refl _)] at hd
    rw [hd]
  | m + 1, n, k, hm, hk, hd => by
    rw [show n + 1 + (m + 1) = (n + 1 + m) + 1 by omega]
    rw [l1_step]
    have hkl : k < a0.length := by omega
    rw [show decide ((k : Int) < ((a0.length : Nat) : Int)) = true by simp; omega, cond_true, if_pos (by omega), w64 (by omega) (by omega), if_pos (by omega)]
    simp only [Int.toNat_natCast, Nat.zero_add]
    rw [show Int.toNat ((k : Int) - 1) = k - 1 by omega]
    have hstep : ddn a0 (k + 1) = if a0.getD k 0 = a0.getD (k - 1) 0 then ddn a0 k else ddn a0 k ++ [a0.getD k 0] := by
      obtain ⟨q, hq⟩ : ∃ q, k = q + 1 := ⟨k - 1, by omega⟩
      subst hq; rfl
    by_cases he : a0.getD k 0 = a0.getD (k - 1) 0
    · rw [show (a0.getD k 0 == a0.getD (k - 1) 0) = true by simpa using he, cond_true, if_pos (by omega), if_pos (by omega)]
      obtain ⟨q, hq⟩ : ∃ q, FUEL = q + 1 + m := ⟨FUEL - 1 - m, by unfold FUEL; omega⟩
      rw [hq]
      exact compact_l2 a0 k hkl hb m q k 1 a0 (by omega) (Nat.le_refl _) (by omega) rfl (by rw [hstep, if_pos he]; exact hd.symm) rfl
    · rw [show (a0.getD k 0 == a0.getD (k - 1) 0) = false by simpa using he, cond_false, w64 (by omega) (by omega), show ((k : Int) + 1) = ((k + 1 : Nat) : Int) by omega]
      refine compact_l1 a0 hb m n (k + 1) (by omega) (by omega) ?_
      rw [hstep, if_neg he, hd, List.take_succ_eq_append_getElem hkl, getD_lt a0 0 hkl]

theorem compact_spec (a : List Int) (hb : a.length ≤ 140737488355328) : slices_Compact_int_h0 a = some (ddn a a.length) := by
  unfold slices_Compact_int_h0
  by_cases h : a.length < 2
  · rw [show decide ((((a.length : Nat) : Int) : Int) < 2) = true by simp; omega, cond_true]
    congr 1
    match a, h with
    | [], _ => rfl
    | [x], _ => rfl
  · rw [show decide ((((a.length : Nat) : Int) : Int) < 2) = false by simp; omega, cond_false]
    obtain ⟨q, hq⟩ : ∃ q, FUEL = q + 1 + (a.length - 1) := ⟨FUEL - 1 - (a.length - 1), by unfold FUEL; omega⟩
    rw [hq]
    exact compact_l1 a hb (a.length - 1) q 1 (by omega) (Nat.le_refl _) rfl


theorem srt (a : List Int) : ∃ s, s = (a.mergeSort fun x y => decide (x ≤ y)) ∧ s.Perm a ∧ s.Pairwise (· ≤ ·) := by
  refine ⟨_, rfl, List.mergeSort_perm _ _, ?_⟩
  have := List.pairwise_mergeSort (le := fun x y : Int => decide (x ≤ y)) (fun a b c h1 h2 => by simp at *; omega) (fun a b => by simp; omega) a
  simpa using this
theorem ddn_all (s : List Int) (hs : s.Pairwise (· ≤ ·)) : (ddn s s.length).Nodup ∧ ∀ x, x ∈ ddn s s.length ↔ x ∈ s := by
  cases hn : s.length with
  | zero =>
    have : s = [] := List.eq_nil_of_length_eq_zero hn
    rw [this]
    exact ⟨List.nodup_nil, fun x => Iff.rfl⟩
  | succ n =>
    obtain ⟨-, h5, h6⟩ := ddn_ok s hs n (by omega)
    refine ⟨h5.imp (fun h => by omega), fun x => ?_⟩
    rw [h6, List.take_of_length_le (by omega)]

theorem addL_len (L : Nat → List Int) (id : Int) (lv : Nat) (head : Bool) : ∀ n, lv < n → (flN (addL L id lv head) n).length = (flN L n).length + 1
  | n + 1, h => by
    show (addL L id lv head n ++ flN (addL L id lv head) n).length = (L n ++ flN L n).length + 1
    by_cases hc : n = lv
    · subst hc
      rw [(addL_flN L id n head n).2 (Nat.le_refl _)]
      unfold addL
      rw [if_pos rfl]
      cases head <;> simp <;> omega
    · have e : addL L id lv head n = L n := by unfold addL; rw [if_neg hc]
      rw [e, List.length_append, List.length_append, addL_len L id lv head n (by omega)]; omega

theorem drop_len {q : Runq_queue} {L : Nat → List Int} (h : Rep q L) {x : Int} (hx : x ∈ fl L) : (fl (dropL L x)).length + 1 = (fl L).length := by
  have e : fl (dropL L x) = (fl L).filter fun y => decide (y ≠ x) := flN_filter L _ 32
  have hn : (fl L).Nodup := flN_nodup h 32 (Nat.le_refl _)
  obtain ⟨u, v, he, hu⟩ := List.eq_append_cons_of_mem hx
  rw [e, he, filter_mid (by rw [← he]; exact hn)]
  simp; omega

def got1 (L : Nat → List Int) (o : Api_RunOp) : List Int := bif ((doA L o).2.1 == 0) && (o.Kind == 3) then [(doA L o).1] else []
def dl (L : Nat → List Int) (o : Api_RunOp) : Int := if (doA L o).2.1 = 0 then (if o.Kind = 1 ∨ o.Kind = 2 then 1 else if o.Kind = 4 then -1 else 0) else 0
theorem do_count {q : Runq_queue} {L : Nat → List Int} (h : Rep q L) (o : Api_RunOp) : ((fl (doA L o).2.2).length : Int) + ((got1 L o).length : Int) = ((fl L).length : Int) + dl L o := by
  unfold got1 dl
  by_cases k1 : o.Kind = 1 ∨ o.Kind = 2
  · have e3 : (o.Kind == 3) = false := by rcases k1 with k | k <;> rw [k] <;> rfl
    rw [e3, Bool.and_false, cond_false]
    unfold doA
    rw [if_pos k1]
    by_cases hr : o.Level < 0 ∨ o.Level ≥ 32
    · rw [if_pos hr]; simp
    · rw [if_neg hr]
      by_cases hm : o.Id ∈ fl L
      · rw [if_pos hm]; simp
      · rw [if_neg hm]
        show ((fl (addL L o.Id o.Level.toNat (o.Kind == 2))).length : Int) + 0 = _
        have := addL_len L o.Id o.Level.toNat (o.Kind == 2) 32 (by omega)
        change (fl _).length = (fl L).length + 1 at this
        rw [this, if_pos rfl, if_pos k1]; omega
  · by_cases k3 : o.Kind = 3
    · rw [show (o.Kind == 3) = true by rw [k3]; rfl, Bool.and_true]
      have e : doA L o = match fl L with | [] => (0, 3, L) | x :: _ => (x, 0, dropL L x) := by unfold doA; rw [if_neg k1, if_pos k3]
      cases hf : fl L with
      | nil =>
        rw [hf] at e
        rw [e]
        show ((fl L).length : Int) + _ = _
        rw [hf]; rfl
      | cons x r =>
        rw [hf] at e
        rw [e]
        have := drop_len h (x := x) (by rw [hf]; exact List.mem_cons_self)
        rw [hf] at this
        show ((fl (dropL L x)).length : Int) + 1 = _
        rw [if_pos rfl, if_neg k1, if_neg (by omega)]
        omega
    · rw [show (o.Kind == 3) = false by simpa using k3, Bool.and_false, cond_false]
      unfold doA
      rw [if_neg k1, if_neg k3]
      by_cases k4 : o.Kind = 4
      · rw [if_pos k4]
        by_cases hm : o.Id ∈ fl L
        · rw [if_pos hm]
          have := drop_len h hm
          show ((fl (dropL L o.Id)).length : Int) + 0 = _
          rw [if_pos rfl, if_neg k1, if_pos k4]; omega
        · rw [if_neg hm]; simp
      · rw [if_neg k4]; simp

theorem count_l1 (a0 : List Api_RunOp) (r4 : (List Int) × (List Int) × (List Int)) (ha : a0.length ≤ 6000000000000) : ∀ (r : List Api_RunOp) (n k : Nat) (x : Int) {q : Runq_queue} {L : Nat → List Int}, Rep q L → (fl L).length ≤ k → a0.drop k = r → k + r.length = a0.length → r4.1.drop k = errsA L r → r4.1.length = a0.length → -(k : Int) ≤ x → x ≤ k →
    keep_RunqCount_l1 a0 r4 (n + 1 + r.length) x k = keep_RunqCount_l1 a0 r4 (n + 1) (x + ((gotA L r).length : Int) + ((fl (runA L r)).length : Int) - ((fl L).length : Int)) a0.length
  | [], n, k, x, q, L, h, hf, hd, hl, he, hel, h1, h2 => by
    simp only [List.length_nil, Nat.add_zero] at hl ⊢
    subst hl
    congr 1
    simp [gotA, runA]
  | o :: r, n, k, x, q, L, h, hf, hd, hl, he, hel, h1, h2 => by
    simp only [List.length_cons] at hl ⊢
    obtain ⟨o1, o2, o3⟩ := getD_drop (⟨0, 0, 0⟩ : Api_RunOp) hd
    obtain ⟨e1, e2, e3⟩ := getD_drop (0 : Int) (show r4.1.drop k = (doA L o).2.1 :: errsA (doA L o).2.2 r from he)
    obtain ⟨q', -, hq'⟩ := do_spec h o (by omega)
    have hc := do_count h o
    have hl2 := do_len L o
    have hdl : -1 ≤ dl L o ∧ dl L o ≤ 1 := by
      unfold dl
      split
      · split
        · omega
        · split <;> omega
      · omega
    have ih := count_l1 a0 r4 ha r n (k + 1) (x + dl L o) hq' (by omega) o3 (by omega) e3 hel (by omega) (by omega)
    have hg : gotA L (o :: r) = got1 L o ++ gotA (doA L o).2.2 r := rfl
    have hrun : runA L (o :: r) = runA (doA L o).2.2 r := rfl
    have eqx : x + ((gotA L (o :: r)).length : Int) + ((fl (runA L (o :: r))).length : Int) - ((fl L).length : Int) = x + dl L o + ((gotA (doA L o).2.2 r).length : Int) + ((fl (runA (doA L o).2.2 r)).length : Int) - ((fl (doA L o).2.2).length : Int) := by
      rw [hg, hrun, List.length_append]; omega
    rw [eqx, ← ih]
    rw [show n + 1 + (r.length + 1) = (n + 1 + r.length) + 1 by omega]
    conv => lhs; unfold keep_RunqCount_l1
    rw [dec_lt (by omega), cond_true, dec_lt (by omega), if_pos (fun _ => by omega), cond_true, Bool.true_and, Nat.zero_add, e1, o1]
    by_cases hz : (doA L o).2.1 = 0
    · have hdz : dl L o = if o.Kind = 1 ∨ o.Kind = 2 then 1 else if o.Kind = 4 then -1 else 0 := by unfold dl; rw [if_pos hz]
      rw [show ((doA L o).2.1 == 0) = true by simpa using hz, cond_true]
      by_cases k1 : o.Kind = 1
      · rw [show (o.Kind == 1) = true by rw [k1]; rfl, cond_true, cond_true, wrap64 (by omega) (by omega), hdz, if_pos (.inl k1)]
      · rw [show (o.Kind == 1) = false by simpa using k1, cond_false]
        by_cases k2 : o.Kind = 2
        · rw [show (o.Kind == 2) = true by rw [k2]; rfl, cond_true, wrap64 (by omega) (by omega), hdz, if_pos (.inr k2)]
        · rw [show (o.Kind == 2) = false by simpa using k2, cond_false]
          by_cases k4 : o.Kind = 4
          · rw [show (o.Kind == 4) = true by rw [k4]; rfl, cond_true, wrap64 (by omega) (by omega), hdz, if_neg (by omega), if_pos k4, Int.sub_eq_add_neg]
          · rw [show (o.Kind == 4) = false by simpa using k4, cond_false, hdz, if_neg (by omega), if_neg k4, Int.add_zero]
    · have hdz : dl L o = 0 := by unfold dl; rw [if_neg hz]
      rw [show ((doA L o).2.1 == 0) = false by simpa using hz, cond_false, hdz, Int.add_zero]

theorem RunqCount_true (a0 : List Api_RunOp) (h0 : a0.length * 24 ≤ 140737488351232 ∧ ∀ y ∈ a0, (Ok_Api_RunOp y)) : keep_RunqCount a0 = some true := by
  have hL := h0.1
  unfold keep_RunqCount
  rw [alive, Option.bind_some, show (!true) = false from rfl, cond_false, play_spec a0 (by omega), Option.bind_some]
  have hfl := fl_len a0 L0
  have h00 : (fl L0).length = 0 := rfl
  have hel := errsA_length a0 L0
  have hgl := got_len a0 L0
  obtain ⟨m, hm⟩ : ∃ m, FUEL = m + 1 + a0.length := ⟨FUEL - 1 - a0.length, by unfold FUEL; omega⟩
  have hc := count_l1 a0 (errsA L0 a0, gotA L0 a0, fl (runA L0 a0)) (by omega) a0 m 0 0 rep0 (by decide) rfl (by omega) rfl hel (by omega) (by omega)
  rw [hm, hc]
  obtain ⟨q, hq⟩ := rep_run a0 rep0 (by omega)
  have hn : (fl (runA L0 a0)).Nodup := flN_nodup hq 32 (Nat.le_refl _)
  unfold keep_RunqCount_l1
  rw [dec_ge (Nat.le_refl _), cond_false]
  simp only
  unfold slices_Values_int slices_Sorted_int
  rw [Option.bind_some, if_pos (by omega), Option.bind_some, hel, h00]
  rw [wrap64 (by omega) (by omega)]
  obtain ⟨s, hs, hp, hss⟩ := srt (fl (runA L0 a0))
  rw [← hs]
  have hsl := hp.length_eq
  rw [show (((a0.length : Nat) : Int) == ((a0.length : Nat) : Int)) = true by simp, show ((0 + ((gotA L0 a0).length : Int) + ((fl (runA L0 a0)).length : Int) - ((0 : Nat) : Int)) == ((gotA L0 a0).length : Int) + ((fl (runA L0 a0)).length : Int)) = true by simp]
  rw [show (true && true) = true from rfl, cond_true, compact_spec s (by omega), Option.bind_some]
  obtain ⟨d1, d2⟩ := ddn_all s hss
  have : (ddn s s.length).Perm s := (List.perm_ext_iff_of_nodup d1 (hp.nodup_iff.2 hn)).2 d2
  rw [this.length_eq, hsl]
  simp

/- one level alone -/
def Lq (lv : Nat) (l : List Int) : Nat → List Int := fun a => if a = lv then l else []
theorem flN_Lq (lv : Nat) (l : List Int) : ∀ n, flN (Lq lv l) n = if lv < n then l else []
  | 0 => by simp [flN]
  | n + 1 => by
    show Lq lv l n ++ flN (Lq lv l) n = _
    rw [flN_Lq lv l n]
    unfold Lq
    by_cases h1 : n = lv
    · subst h1; simp
    · rw [if_neg h1, List.nil_append]
      by_cases h2 : lv < n
      · rw [if_pos h2, if_pos (by omega)]
      · rw [if_neg h2, if_neg (by omega)]
theorem fl_Lq {lv : Nat} (h : lv < 32) (l : List Int) : fl (Lq lv l) = l := by
  show flN (Lq lv l) 32 = l
  rw [flN_Lq, if_pos h]
theorem do_add {lv : Nat} (h : lv < 32) (l : List Int) (id : Int) (hn : id ∉ l) : doA (Lq lv l) ⟨1, id, (lv : Int)⟩ = (0, 0, Lq lv (l ++ [id])) := by
  unfold doA
  rw [if_pos (.inl rfl), if_neg (by show ¬ ((lv : Int) < 0 ∨ (lv : Int) ≥ 32); omega)]
  rw [fl_Lq h]
  show (if id ∈ l then _ else (0, 0, addL (Lq lv l) id (Int.toNat (lv : Int)) false)) = _
  rw [if_neg hn, Int.toNat_natCast]
  congr 2
  funext a
  unfold addL Lq
  by_cases ha : a = lv
  · rw [if_pos ha, if_pos ha, if_pos ha]; rfl
  · rw [if_neg ha, if_neg ha, if_neg ha]
theorem do_take {lv : Nat} (h : lv < 32) (x : Int) (r : List Int) (hn : x ∉ r) : doA (Lq lv (x :: r)) ⟨3, 0, 0⟩ = (x, 0, Lq lv r) := by
  unfold doA
  rw [if_neg (by show ¬ ((3 : Int) = 1 ∨ (3 : Int) = 2); omega), if_pos rfl, fl_Lq h]
  show (x, (0 : Int), dropL (Lq lv (x :: r)) x) = _
  congr 2
  funext a
  unfold dropL Lq
  by_cases ha : a = lv
  · rw [if_pos ha, if_pos ha, List.filter_cons]
    simp only [ne_eq, not_true_eq_false, decide_false, Bool.false_eq_true, if_false]
    rw [List.filter_eq_self]
    intro y hy
    simp; rintro rfl; exact hn hy
  · rw [if_neg ha, if_neg ha]; rfl

def adds (lv : Nat) (d : List Int) : List Api_RunOp := d.map fun id => ⟨1, id, (lv : Int)⟩
def pass (lv : Nat) (d : List Int) : List Api_RunOp := d.flatMap fun id => [⟨3, 0, 0⟩, ⟨1, id, (lv : Int)⟩]
theorem adds_run {lv : Nat} (h : lv < 32) : ∀ (d l : List Int), (l ++ d).Nodup → runA (Lq lv l) (adds lv d) = Lq lv (l ++ d) ∧ gotA (Lq lv l) (adds lv d) = []
  | [], l, _ => by simp [adds, runA, gotA]
  | x :: d, l, hn => by
    have hx : x ∉ l := by
      rw [List.nodup_append] at hn
      intro hm
      exact hn.2.2 x hm x List.mem_cons_self rfl
    have e := do_add h l x hx
    obtain ⟨i1, i2⟩ := adds_run h d (l ++ [x]) (by rw [List.append_assoc]; exact hn)
    constructor
    · show runA (doA (Lq lv l) ⟨1, x, (lv : Int)⟩).2.2 (adds lv d) = _
      rw [e]
      show runA (Lq lv (l ++ [x])) (adds lv d) = _
      rw [i1, List.append_assoc]; rfl
    · show (bif ((doA (Lq lv l) ⟨1, x, (lv : Int)⟩).2.1 == 0) && ((1 : Int) == 3) then [(doA (Lq lv l) ⟨1, x, (lv : Int)⟩).1] else []) ++ gotA (doA (Lq lv l) ⟨1, x, (lv : Int)⟩).2.2 (adds lv d) = []
      rw [e]
      exact i2
theorem pass_run {lv : Nat} (h : lv < 32) : ∀ (d s : List Int), (d ++ s).Nodup → runA (Lq lv (d ++ s)) (pass lv d) = Lq lv (s ++ d) ∧ gotA (Lq lv (d ++ s)) (pass lv d) = d
  | [], s, _ => by simp [pass, runA, gotA]
  | x :: d, s, hn => by
    obtain ⟨hx, hn2⟩ := List.nodup_cons.1 (show (x :: (d ++ s)).Nodup from hn)
    have e1 := do_take h x (d ++ s) hx
    have e2 := do_add h (d ++ s) x hx
    have hp : ((d ++ s) ++ [x]).Nodup := by
      rw [List.nodup_append]
      exact ⟨hn2, by simp, fun y hy z hz => by rw [List.mem_singleton.1 hz]; rintro rfl; exact hx hy⟩
    obtain ⟨i1, i2⟩ := pass_run h d (s ++ [x]) (by rw [← List.append_assoc]; exact hp)
    rw [← List.append_assoc] at i1 i2
    constructor
    · show runA (doA (doA (Lq lv (x :: (d ++ s))) ⟨3, 0, 0⟩).2.2 ⟨1, x, (lv : Int)⟩).2.2 (pass lv d) = _
      rw [e1]
      show runA (doA (Lq lv (d ++ s)) ⟨1, x, (lv : Int)⟩).2.2 (pass lv d) = _
      rw [e2]
      show runA (Lq lv (d ++ s ++ [x])) (pass lv d) = _
      rw [i1, List.append_assoc]; rfl
    · show (bif ((doA (Lq lv (x :: (d ++ s))) ⟨3, 0, 0⟩).2.1 == 0) && ((3 : Int) == 3) then [(doA (Lq lv (x :: (d ++ s))) ⟨3, 0, 0⟩).1] else []) ++ ((bif ((doA (doA (Lq lv (x :: (d ++ s))) ⟨3, 0, 0⟩).2.2 ⟨1, x, (lv : Int)⟩).2.1 == 0) && ((1 : Int) == 3) then [(doA (doA (Lq lv (x :: (d ++ s))) ⟨3, 0, 0⟩).2.2 ⟨1, x, (lv : Int)⟩).1] else []) ++ gotA (doA (doA (Lq lv (x :: (d ++ s))) ⟨3, 0, 0⟩).2.2 ⟨1, x, (lv : Int)⟩).2.2 (pass lv d)) = _
      rw [e1]
      show [x] ++ ((bif ((doA (Lq lv (d ++ s)) ⟨1, x, (lv : Int)⟩).2.1 == 0) && ((1 : Int) == 3) then [(doA (Lq lv (d ++ s)) ⟨1, x, (lv : Int)⟩).1] else []) ++ gotA (doA (Lq lv (d ++ s)) ⟨1, x, (lv : Int)⟩).2.2 (pass lv d)) = _
      rw [e2]
      show [x] ++ ([] ++ gotA (Lq lv (d ++ s ++ [x])) (pass lv d)) = _
      rw [i2]; rfl
def reps {α : Type} (n : Nat) (l : List α) : List α := (List.replicate n l).flatten
theorem reps_succ {α : Type} (n : Nat) (l : List α) : reps (n + 1) l = l ++ reps n l := rfl
theorem reps_snoc {α : Type} (l : List α) : ∀ n, reps (n + 1) l = reps n l ++ l
  | 0 => by simp [reps]
  | n + 1 => by
    show l ++ reps (n + 1) l = (l ++ reps n l) ++ l
    rw [reps_snoc l n, List.append_assoc]
theorem reps_len {α : Type} (l : List α) : ∀ n, (reps n l).length = n * l.length
  | 0 => by simp [reps]
  | n + 1 => by rw [reps_succ, List.length_append, reps_len l n, Nat.add_mul]; omega
theorem reps_run {lv : Nat} (h : lv < 32) (d : List Int) (hn : d.Nodup) : ∀ n, runA (Lq lv d) (reps n (pass lv d)) = Lq lv d ∧ gotA (Lq lv d) (reps n (pass lv d)) = reps n d
  | 0 => ⟨rfl, rfl⟩
  | n + 1 => by
    obtain ⟨i1, i2⟩ := reps_run h d hn n
    obtain ⟨p1, p2⟩ := pass_run h d [] (by rw [List.append_nil]; exact hn)
    rw [List.append_nil, List.nil_append] at p1
    rw [List.append_nil] at p2
    rw [reps_succ, runA_append, gotA_append, p1, p2, i1, i2]
    exact ⟨rfl, rfl⟩

theorem pass_len (lv : Nat) : ∀ d : List Int, (pass lv d).length = 2 * d.length
  | [] => rfl
  | x :: d => by
    have := pass_len lv d
    show (⟨3, 0, 0⟩ :: ⟨1, x, (lv : Int)⟩ :: pass lv d : List Api_RunOp).length = _
    simp; omega

theorem turns_l1 (lv : Nat) (a2 : Int) (d : List Int) (hd : d.length ≤ 20) : ∀ (r : List Int) (n k : Nat) (l : List Api_RunOp), d.drop k = r → k + r.length = d.length → l.length ≤ k →
    keep_RunqTurns_l1 (lv : Int) a2 d (n + 1 + r.length) l k = keep_RunqTurns_l2 (lv : Int) a2 d (l ++ adds lv r) FUEL [] 0 (l ++ adds lv r)
  | [], n, k, l, he, hl, hk => by
    simp only [List.length_nil, Nat.add_zero] at hl ⊢
    unfold keep_RunqTurns_l1
    rw [dec_ge (by omega), cond_false]
    simp [adds]
  | x :: r, n, k, l, he, hl, hk => by
    simp only [List.length_cons] at hl ⊢
    obtain ⟨o1, o2, o3⟩ := getD_drop (0 : Int) he
    rw [show n + 1 + (r.length + 1) = (n + 1 + r.length) + 1 by omega]
    unfold keep_RunqTurns_l1
    rw [dec_lt o2, cond_true, Nat.zero_add, o1, if_pos (by simp; omega), turns_l1 lv a2 d hd r n (k + 1) _ o3 (by omega) (by simp; omega)]
    simp [adds]

theorem turns_l3 (lv : Nat) (d : List Int) (hd : d.length ≤ 20) (l28 : List Int) (l30 : List Api_RunOp) (K : (List Api_RunOp) → (List Int) → Nat → Option (Bool)) : ∀ (r : List Int) (n k : Nat) (l : List Api_RunOp) (w : List Int), d.drop k = r → k + r.length = d.length → l.length ≤ 10000 + 2 * k → w.length ≤ 10000 + k →
    keep_RunqTurns_l3 (lv : Int) d l28 l30 K (n + 1 + r.length) l w k = K (l ++ pass lv r) (w ++ r) d.length
  | [], n, k, l, w, he, hl, hk, hw => by
    simp only [List.length_nil, Nat.add_zero] at hl ⊢
    unfold keep_RunqTurns_l3
    rw [dec_ge (by omega), cond_false, ← hl]
    simp [pass]
  | x :: r, n, k, l, w, he, hl, hk, hw => by
    simp only [List.length_cons] at hl ⊢
    obtain ⟨o1, o2, o3⟩ := getD_drop (0 : Int) he
    rw [show n + 1 + (r.length + 1) = (n + 1 + r.length) + 1 by omega]
    unfold keep_RunqTurns_l3
    rw [dec_lt o2, cond_true, Nat.zero_add, o1, if_pos (by simp; omega), if_pos (by simp; omega), turns_l3 lv d hd l28 l30 K r n (k + 1) _ _ o3 (by omega) (by simp; omega) (by simp; omega)]
    simp [pass]

theorem l2_step (a1 a2 : Int) (r8 : List Int) (l23 : List Api_RunOp) (n2 : Nat) (l28 : List Int) (x29 : Int) (l30 : List Api_RunOp) : keep_RunqTurns_l2 a1 a2 r8 l23 (n2 + 1) l28 x29 l30 =
    bif (decide ((x29 : Int) < a2)) then
      keep_RunqTurns_l3 a1 r8 l28 l30 (fun (l32 : List Api_RunOp) (l33 : List Int) (k34 : Nat) => keep_RunqTurns_l2 a1 a2 r8 l23 n2 l33 (IntKind.i64.wrap (x29 + 1)) l32) FUEL l30 l28 0
    else
      (runq_Play l30).bind fun r39 => (slices_Equal_int r39.2.1 l28).bind fun r41 => bif r41 then (slices_Equal_int r39.2.2 r8).bind fun r44 => some (r41 && r44) else some (r41 && false) := rfl

theorem turns_l2 (lv : Nat) (d : List Int) (hd : d.length ≤ 20) (l23 : List Api_RunOp) (R : Nat) (hR : R ≤ 5) : ∀ (m n i : Nat), i + m = R →
    keep_RunqTurns_l2 (lv : Int) (R : Int) d l23 (n + 1 + m) (reps i d) (i : Int) (adds lv d ++ reps i (pass lv d)) = keep_RunqTurns_l2 (lv : Int) (R : Int) d l23 (n + 1) (reps R d) (R : Int) (adds lv d ++ reps R (pass lv d))
  | 0, n, i, h => by
    have : i = R := by omega
    subst this; rfl
  | m + 1, n, i, h => by
    rw [show n + 1 + (m + 1) = (n + 1 + m) + 1 by omega, l2_step, show decide ((i : Int) < (R : Int)) = true by simp; omega, cond_true]
    obtain ⟨q, hq⟩ : ∃ q, FUEL = q + 1 + d.length := ⟨FUEL - 1 - d.length, by unfold FUEL; omega⟩
    have b1 : i * d.length ≤ 5 * 20 := Nat.mul_le_mul (by omega) hd
    have b2 : i * (pass lv d).length ≤ 5 * 40 := Nat.mul_le_mul (by omega) (by rw [pass_len]; omega)
    have b3 : (adds lv d).length = d.length := by simp [adds]
    rw [hq, turns_l3 lv d hd _ _ _ d q 0 _ _ rfl (by omega) (by rw [List.length_append, reps_len, b3]; omega) (by rw [reps_len]; omega), wrap64 (by omega) (by omega), show ((i : Int) + 1) = ((i + 1 : Nat) : Int) by omega, List.append_assoc, ← reps_snoc, ← reps_snoc]
    exact turns_l2 lv d hd l23 R hR m n (i + 1) (by omega)

theorem RunqTurns_true (a0 : List Int) (a1 a2 : Int) (h0 : a0.length * 8 ≤ 140737488351232 ∧ ∀ y ∈ a0, (-9223372036854775808 ≤ y ∧ y ≤ 9223372036854775807)) (h1 : -9223372036854775808 ≤ a1 ∧ a1 ≤ 9223372036854775807) (h2 : -9223372036854775808 ≤ a2 ∧ a2 ≤ 9223372036854775807) : keep_RunqTurns a0 a1 a2 = some true := by
  have hL := h0.1
  unfold keep_RunqTurns
  rw [alive, Option.bind_some, show (!true) = false from rfl, cond_false]
  unfold slices_Values_int slices_Sorted_int
  rw [Option.bind_some, if_pos (by omega), Option.bind_some]
  obtain ⟨s, hs, hp, hss⟩ := srt a0
  rw [← hs]
  have hsl := hp.length_eq
  rw [compact_spec s (by omega), Option.bind_some]
  obtain ⟨d1, -⟩ := ddn_all s hss
  generalize ddn s s.length = d at d1
  by_cases hb : a1 < 0 ∨ a1 ≥ 32 ∨ d.length = 0 ∨ d.length > 20 ∨ a2 < 0 ∨ a2 > 5
  · have : ((((((decide ((a1 : Int) < 0)) || (decide ((a1 : Int) ≥ 32))) || ((((d.length : Nat) : Int) : Int) == 0)) || (decide ((((d.length : Nat) : Int) : Int) > 20))) || (decide ((a2 : Int) < 0))) || (decide ((a2 : Int) > 5))) = true := by
      simp only [Bool.or_eq_true, decide_eq_true_eq, beq_iff_eq]
      omega
    rw [this, cond_true]
  · have : ((((((decide ((a1 : Int) < 0)) || (decide ((a1 : Int) ≥ 32))) || ((((d.length : Nat) : Int) : Int) == 0)) || (decide ((((d.length : Nat) : Int) : Int) > 20))) || (decide ((a2 : Int) < 0))) || (decide ((a2 : Int) > 5))) = false := by
      rw [Bool.eq_false_iff]
      intro h
      simp only [Bool.or_eq_true, decide_eq_true_eq, beq_iff_eq] at h
      omega
    rw [this, cond_false]
    obtain ⟨lv, rfl⟩ : ∃ lv : Nat, a1 = (lv : Int) := ⟨a1.toNat, by omega⟩
    obtain ⟨R, rfl⟩ : ∃ R : Nat, a2 = (R : Int) := ⟨a2.toNat, by omega⟩
    have hlv : lv < 32 := by omega
    have hd : d.length ≤ 20 := by omega
    obtain ⟨q, hq⟩ : ∃ q, FUEL = q + 1 + d.length := ⟨FUEL - 1 - d.length, by unfold FUEL; omega⟩
    rw [hq, turns_l1 lv R d hd d q 0 [] rfl (by omega) (by simp), List.nil_append]
    obtain ⟨q2, hq2⟩ : ∃ q, FUEL = q + 1 + R := ⟨FUEL - 1 - R, by unfold FUEL; omega⟩
    have e := turns_l2 lv d hd (adds lv d) R (by omega) R q2 0 (by omega)
    have r0 : ∀ {α : Type} (l : List α), reps 0 l = [] := fun _ => rfl
    rw [r0, r0, List.append_nil] at e
    rw [hq2]
    refine Eq.trans e ?_
    rw [l2_step, show decide ((R : Int) < (R : Int)) = false by simp, cond_false]
    have b1 : R * d.length ≤ 5 * 20 := Nat.mul_le_mul (by omega) hd
    have b2 : R * (pass lv d).length ≤ 5 * 40 := Nat.mul_le_mul (by omega) (by rw [pass_len]; omega)
    have b3 : (adds lv d).length = d.length := by simp [adds]
    rw [play_spec _ (by rw [List.length_append, reps_len, b3]; omega), Option.bind_some]
    simp only
    have hL0 : L0 = Lq lv [] := by funext a; unfold L0 Lq; split <;> rfl
    obtain ⟨i1, i2⟩ := adds_run hlv d [] (by simpa using d1)
    rw [List.nil_append] at i1
    obtain ⟨j1, j2⟩ := reps_run hlv d d1 R
    rw [gotA_append, runA_append, hL0, i1, i2, j1, j2, List.nil_append, fl_Lq hlv]
    have hF : 100000000000000 < FUEL := by unfold FUEL; omega
    rw [eq_self _ (by rw [reps_len]; omega), Option.bind_some, cond_true, eq_self _ (by omega), Option.bind_some]
    rfl

end Go.Proofs.Ytmmhiggfpdjdcaa
