import Derived.Test.YthmieigenefilaaGreatDoorQBTJ
set_option linter.unusedVariables false
set_option linter.unusedSimpArgs false
set_option maxRecDepth 100000
namespace Go.Proofs
open Go.RowKit Go.Bn
def digB : ByteArray := ⟨#[48, 49, 50, 51, 52, 53, 54, 55, 56, 57, 97, 98, 99, 100, 101, 102]⟩
theorem dig_all : ∀ d : Fin 16, (digB[d.val]'d.isLt) = hexD d.val := by decide
theorem dig_eq (d : Nat) (h : d < 16) : (digB[d]'h) = hexD d := dig_all ⟨d, h⟩
theorem dig_cells (acc : List UInt8) (p q : Nat) (hp : p < 16) (hq : q < 16) : (Lib.byteCells acc ++ [Value.int .u8 ((digB[p]'hp).toNat : Int)]) ++ [Value.int .u8 ((digB[q]'hq).toNat : Int)] = Lib.byteCells (acc ++ [hexD p, hexD q]) := by
 have e1 := dig_eq p hp
 have e2 := dig_eq q hq
 generalize (digB[p]'hp) = x at e1 ⊢
 generalize (digB[q]'hq) = y at e2 ⊢
 subst e1 e2
 unfold Lib.byteCells
 rw [List.map_append, List.append_assoc]
 rfl
theorem hex_snoc : ∀ (l : List Int) (x : Int), hexL (l ++ [x]) = hexL l ++ [hexD (x.toNat / 16), hexD (x.toNat % 16)]
 | [], x => rfl
 | y :: l, x => by simp [hexL, hex_snoc l x]
theorem hex_len : ∀ l : List Int, (hexL l).length = 2 * l.length
 | [] => rfl
 | y :: l => by simp [hexL, hex_len l]; omega
set_option maxHeartbeats 4000000 in
theorem Tryz.hex (g off cap : Nat) (a : Option Addr) (l : List Int) (w : World) (ha : 0 < l.length → a = some ⟨g, off, none⟩)
  (hc : ∀ i, i < l.length → w.cell? ⟨g, off + i, none⟩ = some (.int .u8 (l.getD i 0))) (hl : l.length ≤ 4000000000000) (hby : ∀ x ∈ l, 0 ≤ x ∧ x ≤ 255) :
  Calls Tryz.prog 32 #[.slice a l.length cap] w fun e w' => e = .returned (.string (hexB l)) ∧ Below w.heap.size w w' := by
 obtain ⟨n, hn⟩ : ∃ n, n = l.length := ⟨_, rfl⟩
 rw [← hn]
 by_cases h0 : n = 0
 ·have e : hexB l = bOf [45] := by
   have : l = [] := List.eq_nil_of_length_eq_zero (by omega)
   unfold hexB; rw [if_pos this]
  rw [e]
  clear hn hc ha hby hl e
  subst h0
  go_enter Tryz.func32, Tryz.ntmps32
  go_wp2
  go_ret
  exact ⟨rfl, Below.refl _ _⟩
 have hl0 : hexB l = bOf (hexL l) := by
  unfold hexB
  rw [if_neg (by rintro rfl; simp at hn; exact h0 hn)]
 have HL0 : Hid (hexB l = bOf (hexL l)) := hl0
 have HL : Hid (l.length = n) := hn.symm
 have HC : Hid (∀ i, i < l.length → w.cell? ⟨g, off + i, none⟩ = some (.int .u8 (l.getD i 0))) := hc
 have HA : Hid (0 < n → a = some ⟨g, off, none⟩) := by rw [hn]; exact ha
 have HBY : Hid (∀ x ∈ l, 0 ≤ x ∧ x ≤ 255) := hby
 have hl : n ≤ 4000000000000 := by omega
 have ea : a = some ⟨g, off, none⟩ := ha (by omega)
 subst ea
 clear hc ha hn hl0 hby
 have hne : decide ((n : Int) = 0) = false := by simp; omega
 have hb := (Below.refl w.heap.size w).alloc (Nat.le_refl _) (.cells #[.pointer none, .slice none 0 0] 118)
 have hB := Lib.fresh_isBuilder 118 5 w
 go_enter Tryz.func32, Tryz.ntmps32
 go_wp2_with fail
 generalize w.alloc (.cells #[.pointer none, .slice none 0 0] 118) = W at *
 have hB := Lib.IsBuilderF.of hB
 go_loopw [11] (fun i wr => (∃ k : Nat, k ≤ n ∧ i = .int .i64 k ∧ Lib.IsBuilderF 118 5 w.heap.size w.heap.size (Lib.byteCells (hexL (l.take k))) wr) ∧ Below w.heap.size w wr) (fun i _ => n + 1 - (intOf i).toNat)
 case atStart => exact ⟨⟨0, Nat.zero_le _, rfl, hB⟩, hb⟩
 case round =>
  obtain ⟨⟨k, hk, rfl, hbl⟩, hbr⟩ := hrel
  by_cases h6 : k < n
  ·obtain ⟨x, hx⟩ : ∃ x, l[k]? = some x := ⟨_, List.getElem?_eq_getElem (by rw [HL.out]; exact h6)⟩
   have hgd : l.getD k 0 = x := by rw [List.getD_eq_getElem?_getD, hx]; rfl
   have hk2 : wr.cell? ⟨g, off + k, none⟩ = some (.int .u8 x) := by
    have h7 := HC.out k (by rw [HL.out]; exact h6)
    rw [hgd] at h7
    exact keepc hbr h7
   have hx2 := HBY.out _ (List.mem_of_getElem? hx)
   obtain ⟨c, rfl⟩ : ∃ c : Nat, x = c := ⟨x.toNat, by omega⟩
   have htk : l.take (k + 1) = l.take k ++ [(c : Int)] := by rw [List.take_add_one, hx]; rfl
   have HS : Hid (hexL (l.take (k + 1)) = hexL (l.take k) ++ [hexD (c / 16), hexD (c % 16)]) := by show _ = _; rw [htk, hex_snoc]; rfl
   have hlen : (hexL (l.take k)).length ≤ 8000000000000 := by rw [hex_len, List.length_take, HL.out]; omega
   generalize hexL (l.take k) = acc at *
   have i0 : (0 : Int) ≤ (k : Int) := by omega
   have i1 : (k : Int) < (n : Int) := by omega
   clear hgd hx htk
   go_wp2_with fail
   refine (Tryz.writeByte w.heap.size w.heap.size (Lib.byteCells acc) _ wr hbl (by rw [Lib.byteCells_length]; omega) hbr.size).mono ?_
   rintro e w5 ⟨rfl, hbl5, hb5, hk5⟩
   have hbr5 := hbr.trans hb5
   go_wp2_with fail
   refine (Tryz.writeByte w.heap.size w.heap.size _ _ w5 (.inr hbl5) (by rw [List.length_append, Lib.byteCells_length]; simp; omega) hbr5.size).mono ?_
   rintro e w6 ⟨rfl, hbl6, hb6, hk6⟩
   have hbr6 := hbr5.trans hb6
   have hcells := dig_cells acc (c / 16) (c % 16) (by omega) (by omega)
   have hbl7 : Lib.IsBuilderF 118 5 w.heap.size w.heap.size (Lib.byteCells (acc ++ [hexD (c / 16), hexD (c % 16)])) w6 := by rw [← hcells]; exact .inr hbl6
   clear hcells hbl6 hbl5 hbl
   go_wp2
   exact ⟨⟨⟨k + 1, by omega, by simp, by rw [HS.out]; exact hbl7⟩, hbr6⟩, by simp [intOf]; omega⟩
  ·have hk6 : k = n := by omega
   subst hk6
   have HP : Hid (hexL (l.take k) = hexL l) := by show _ = _; rw [← HL.out, List.take_length]
   rw [HP.out] at hbl
   go_wp2_with fail
   refine (Tryz.Builder_String_any_k w.heap.size w.heap.size (hexL l) wr hbl hbr.size).mono ?_
   rintro e w6 ⟨rfl, hbl6, hb6, hk6⟩
   have hbr6 := hbr.trans hb6
   go_wp2
   go_ret
   exact ⟨by rw [HL0.out]; rfl, hbr6⟩
end Go.Proofs
