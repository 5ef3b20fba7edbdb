import Derived.Test.YtfkoglicoabbaaaQFV
set_option linter.unusedVariables false
set_option linter.unusedSimpArgs false
namespace Go.Proofs
open Go.RowKit Go.Fp
set_option maxRecDepth 100000 in
set_option maxHeartbeats 4000000 in
theorem Try.close_ok (sb tb ob p f : Nat) (name size dst most nm sz ps rf : Int) (arr : Array Value) (w : World) (hp : p < 4) (hsb : sb < w.heap.size) (cs : w.cell? ⟨sb, p, none⟩ = some (.pointer (some ⟨tb, 0, none⟩))) (hb : Hid (w.heap[tb]? = some (.cells arr 49 (0, 0)))) (htb : tb < w.heap.size) (hsz : Hid (arr.size = 16)) (hf : f < 16) (ce : w.cell? ⟨tb, f, none⟩ = some (.pointer (some ⟨ob, 0, none⟩))) (ho : Hid (w.heap[ob]? = some (.cells #[.int .i64 nm, .int .i64 sz, .int .i64 ps, .int .i64 rf] 52 (0, 0)))) (hob : ob < w.heap.size) (hr : Hid (0 ≤ rf ∧ rf ≤ 1000000)) (hcf : Hid (arr[f]? = some (.pointer (some ⟨ob, 0, none⟩)))) :
    Calls Try.prog 13 #[.pointer (some ⟨sb, 0, none⟩), .agg #[.int .i64 4, .int .i64 p, .int .i64 name, .int .i64 size, .int .i64 f, .int .i64 dst, .int .i64 most]] w fun x w' => x = .returned (ansV 0 (rf - 1)) ∧ w'.heap[ob]? = some (.cells #[.int .i64 nm, .int .i64 sz, .int .i64 ps, .int .i64 (rf - 1)] 52 (0, 0)) ∧ w'.heap[tb]? = some (.cells (arr.setIfInBounds f (.pointer none)) 49 (0, 0)) ∧ Only (fun k => k = ob ∨ k = tb) w w' := by
  have hp0 : (0 : Int) ≤ p := by omega
  have hp1 : (p : Int) < 4 := by omega
  have hb2 : decide ((p : Int) < 0) = false := by simp
  have hb3 : decide ((p : Int) ≥ 4) = false := by simp; omega
  have hf0 : (0 : Int) ≤ f := by omega
  have hf1 : (f : Int) < 16 := by omega
  have hb4 : decide ((f : Int) < 0) = false := by simp
  have hb5 : decide ((f : Int) ≥ 16) = false := by simp; omega
  go_enter Try.func13, Try.ntmps13
  go_wp2
  go_quiet (fail)
  go_wp2
  go_quiet (fail)
  go_wp2
  go_quiet (fail)
  go_wp2
  go_quiet (fail)
  go_wp2_with (fail)
  refine (Try.drop_some tb ob f (by omega) nm sz ps rf arr hsz _ ((heap_old (by repeat (first | exact Only.refl _ _ | refine Only.alloc ?_ _ | refine Only.drew ?_ _ | refine Only.set ?_ (.inr (by simp)) _)) hob).trans ho) ((heap_old (by repeat (first | exact Only.refl _ _ | refine Only.alloc ?_ _ | refine Only.drew ?_ _ | refine Only.set ?_ (.inr (by simp)) _)) htb).trans hb) hr hcf).mono ?_
  rintro e w2 ⟨⟨v, rfl⟩, h1, h2, hk⟩
  have hB : w2.heap[w.heap.size + 1]? = some (.cells #[.int .i64 0, .int .i64 0] 34 (0, 0)) := by
    rw [hk.block _ (by simp) (by rintro (h | h) <;> omega)]
    exact new_at (by simp)
  obtain ⟨⟨c0, c1⟩, ⟨g0, g1⟩, _, hlt2⟩ := box34 hB
  have co : w2.cell? ⟨ob, 3, none⟩ = some (.int .i64 (rf - 1)) := by simp [World.cell?, h1]
  go_wp2
  have hB' : ((w2.setCell ⟨w.heap.size + 1, 0, none⟩ (.int .i64 0)).setCell ⟨w.heap.size + 1, 1, none⟩ (.int .i64 (rf - 1))).heap[w.heap.size + 1]? = some (.cells #[.int .i64 0, .int .i64 (rf - 1)] 34 (0, 0)) := heap_set (heap_set hB 0 _) 1 _
  obtain ⟨⟨d0, d1⟩, _, _, _⟩ := box34 hB'
  refine bodyPost_ret (v := ansV 0 (rf - 1)) (by simp [results, Try.results13, go_sem, d0, d1]) rfl ⟨rfl, ?_, ?_, ?_⟩
  · rw [Below.heap_setCell _ _ _ _ (by simp; omega), Below.heap_setCell _ _ _ _ (by simp; omega)]; exact h1
  · rw [Below.heap_setCell _ _ _ _ (by simp; omega), Below.heap_setCell _ _ _ _ (by simp; omega)]; exact h2
  · exact Only.set (Only.set (only_via (by repeat (first | exact Only.refl _ _ | refine Only.alloc ?_ _ | refine Only.drew ?_ _ | refine Only.set ?_ (.inr (by simp)) _)) hk fun k _ h => h) (.inr (by simp)) _) (.inr (by simp)) _
end Go.Proofs
namespace Go.Proofs
open Go.RowKit Go.Fp
set_option maxRecDepth 100000 in
set_option maxHeartbeats 4000000 in
theorem Try.seek_ok (sb tb ob p f : Nat) (name size dst most nm sz ps rf : Int) (w : World) (hp : p < 4) (hsb : sb < w.heap.size) (cs : w.cell? ⟨sb, p, none⟩ = some (.pointer (some ⟨tb, 0, none⟩))) (htb : tb < w.heap.size) (hf : f < 16) (ce : w.cell? ⟨tb, f, none⟩ = some (.pointer (some ⟨ob, 0, none⟩))) (ho : Hid (w.heap[ob]? = some (.cells #[.int .i64 nm, .int .i64 sz, .int .i64 ps, .int .i64 rf] 52 (0, 0)))) (hob : ob < w.heap.size) (hr : Hid (0 ≤ rf ∧ rf ≤ 1000000)) (hs0 : 0 ≤ most) (hs1 : most ≤ 1099511627776) :
    Calls Try.prog 13 #[.pointer (some ⟨sb, 0, none⟩), .agg #[.int .i64 6, .int .i64 p, .int .i64 name, .int .i64 size, .int .i64 f, .int .i64 dst, .int .i64 most]] w fun x w' => x = .returned (ansV 0 most) ∧ w'.heap[ob]? = some (.cells #[.int .i64 nm, .int .i64 sz, .int .i64 most, .int .i64 rf] 52 (0, 0)) ∧ Only (fun k => k = ob) w w' := by
  have hp0 : (0 : Int) ≤ p := by omega
  have hp1 : (p : Int) < 4 := by omega
  have hb2 : decide ((p : Int) < 0) = false := by simp
  have hb3 : decide ((p : Int) ≥ 4) = false := by simp; omega
  have hf0 : (0 : Int) ≤ f := by omega
  have hf1 : (f : Int) < 16 := by omega
  have hb4 : decide ((f : Int) < 0) = false := by simp
  have hb5 : decide ((f : Int) ≥ 16) = false := by simp; omega
  have hb8 : decide (most < 0) = false := by simp; omega
  have hb9 : decide (most > 1099511627776) = false := by simp; omega
  go_enter Try.func13, Try.ntmps13
  go_wp2
  go_quiet (fail)
  go_wp2
  go_quiet (fail)
  go_wp2
  go_quiet (fail)
  go_wp2
  go_quiet (fail)
  generalize hW : (World.drewN _ _) = W
  have hO : Only (fun _ => False) w W := by rw [← hW]; repeat (first | exact Only.refl _ _ | refine Only.alloc ?_ _ | refine Only.drew ?_ _ | refine Only.set ?_ (.inr (by simp)) _)
  have hB1 : W.heap[w.heap.size + 1]? = some (.cells #[.int .i64 0, .int .i64 0] 34 (0, 0)) := by rw [← hW]; exact new_at (by simp)
  have hB0 : W.heap[w.heap.size]? = some (.cells #[.int .i64 6, .int .i64 p, .int .i64 name, .int .i64 size, .int .i64 f, .int .i64 dst, .int .i64 most] 24 (0, 0)) := by rw [← hW]; exact (Below.heap_alloc _ _ _ (by simp)).trans (new_at rfl)
  have b0 : W.cell? ⟨w.heap.size, 0, none⟩ = some (.int .i64 6) := by simp [World.cell?, hB0]
  have b6 : W.cell? ⟨w.heap.size, 6, none⟩ = some (.int .i64 most) := by simp [World.cell?, hB0]
  have v1 : W.cell? ⟨ob, 1, none⟩ = some (.int .i64 sz) := by simp [World.cell?, hO.block ob hob id, ho.out]
  have v2 : W.cell? ⟨ob, 2, none⟩ = some (.int .i64 ps) := by simp [World.cell?, hO.block ob hob id, ho.out]
  have f2 : W.frozen? ⟨ob, 2, none⟩ = false := by simp [World.frozen?, hO.block ob hob id, ho.out]
  have hob' : ob < W.heap.size := Nat.lt_of_lt_of_le hob hO.size
  obtain ⟨⟨c0, c1'⟩, ⟨g0, g1⟩, _, hlt2⟩ := box34 hB1
  have hoW : Hid (W.heap[ob]? = some (.cells #[.int .i64 nm, .int .i64 sz, .int .i64 ps, .int .i64 rf] 52 (0, 0))) := (hO.block ob hob id).trans ho
  have hBW : Hid (W.heap[w.heap.size + 1]? = some (.cells #[.int .i64 0, .int .i64 0] 34 (0, 0))) := hB1
  have hOW : Hid (Only (fun _ => False) w W) := hO
  clear hB0 hB1 hO hW
  go_wp2
  have hB' : (((W.setCell ⟨ob, 2, none⟩ (.int .i64 (most))).setCell ⟨w.heap.size + 1, 0, none⟩ (.int .i64 0)).setCell ⟨w.heap.size + 1, 1, none⟩ (.int .i64 (most))).heap[w.heap.size + 1]? = some (.cells #[.int .i64 0, .int .i64 (most)] 34 (0, 0)) :=
    heap_set (heap_set ((Below.heap_setCell _ _ _ _ (by first | omega | (simp; omega))).trans hBW) 0 _) 1 _
  obtain ⟨⟨d0, d1⟩, _, _, _⟩ := box34 hB'
  refine bodyPost_ret (v := ansV 0 (most)) (by simp [results, Try.results13, go_sem, d0, d1]) rfl ⟨rfl, ?_, ?_⟩
  · rw [Below.heap_setCell _ _ _ _ (by first | omega | (simp; omega)), Below.heap_setCell _ _ _ _ (by first | omega | (simp; omega))]; exact heap_set hoW 2 _
  · refine Only.set (S := fun k => k = ob) (Only.set (Only.set (S := fun k => k = ob) (p := ⟨ob, 2, none⟩) (hOW.out.mono fun _ _ h => h.elim) (.inl rfl) _) (.inr ?_) _) (.inr ?_) _ <;> exact Nat.le_succ _
end Go.Proofs
namespace Go.Proofs
open Go.RowKit Go.Fp
set_option maxRecDepth 100000 in
set_option maxHeartbeats 4000000 in
theorem Try.read_none (sb tb ob p f : Nat) (name size dst most nm sz ps rf : Int) (w : World) (hp : p < 4) (hsb : sb < w.heap.size) (cs : w.cell? ⟨sb, p, none⟩ = some (.pointer (some ⟨tb, 0, none⟩))) (htb : tb < w.heap.size) (hf : f < 16) (ce : w.cell? ⟨tb, f, none⟩ = some (.pointer (some ⟨ob, 0, none⟩))) (ho : Hid (w.heap[ob]? = some (.cells #[.int .i64 nm, .int .i64 sz, .int .i64 ps, .int .i64 rf] 52 (0, 0)))) (hob : ob < w.heap.size) (hr : Hid (0 ≤ rf ∧ rf ≤ 1000000)) (hs0 : 1 ≤ most) (hm : most ≤ 9223372036854775807) (z0 : 0 ≤ sz) (z1 : sz ≤ 1099511627776) (p0 : 0 ≤ ps) (p1 : ps ≤ 1099511627776) (hx : sz - ps < 0) :
    Calls Try.prog 13 #[.pointer (some ⟨sb, 0, none⟩), .agg #[.int .i64 5, .int .i64 p, .int .i64 name, .int .i64 size, .int .i64 f, .int .i64 dst, .int .i64 most]] w fun x w' => x = .returned (ansV 0 (0)) ∧ w'.heap[ob]? = some (.cells #[.int .i64 nm, .int .i64 sz, .int .i64 (ps), .int .i64 rf] 52 (0, 0)) ∧ Only (fun k => k = ob) w w' := by
  have hp0 : (0 : Int) ≤ p := by omega
  have hp1 : (p : Int) < 4 := by omega
  have hb2 : decide ((p : Int) < 0) = false := by simp
  have hb3 : decide ((p : Int) ≥ 4) = false := by simp; omega
  have hf0 : (0 : Int) ≤ f := by omega
  have hf1 : (f : Int) < 16 := by omega
  have hb4 : decide ((f : Int) < 0) = false := by simp
  have hb5 : decide ((f : Int) ≥ 16) = false := by simp; omega
  have hb8 : decide (most < 1) = false := by simp; omega
  have hx2 : ¬ (0 ≤ sz - ps) := by omega
  have hx3 : ¬ (most ≤ 0) := by omega
  go_enter Try.func13, Try.ntmps13
  go_wp2
  go_quiet (fail)
  go_wp2
  go_quiet (fail)
  go_wp2
  go_quiet (fail)
  go_wp2
  go_quiet (fail)
  generalize hW : (World.drewN _ _) = W
  have hO : Only (fun _ => False) w W := by rw [← hW]; repeat (first | exact Only.refl _ _ | refine Only.alloc ?_ _ | refine Only.drew ?_ _ | refine Only.set ?_ (.inr (by simp)) _)
  have hB1 : W.heap[w.heap.size + 1]? = some (.cells #[.int .i64 0, .int .i64 0] 34 (0, 0)) := by rw [← hW]; exact new_at (by simp)
  have hB0 : W.heap[w.heap.size]? = some (.cells #[.int .i64 5, .int .i64 p, .int .i64 name, .int .i64 size, .int .i64 f, .int .i64 dst, .int .i64 most] 24 (0, 0)) := by rw [← hW]; exact (Below.heap_alloc _ _ _ (by simp)).trans (new_at rfl)
  have b0 : W.cell? ⟨w.heap.size, 0, none⟩ = some (.int .i64 5) := by simp [World.cell?, hB0]
  have b6 : W.cell? ⟨w.heap.size, 6, none⟩ = some (.int .i64 most) := by simp [World.cell?, hB0]
  have v1 : W.cell? ⟨ob, 1, none⟩ = some (.int .i64 sz) := by simp [World.cell?, hO.block ob hob id, ho.out]
  have v2 : W.cell? ⟨ob, 2, none⟩ = some (.int .i64 ps) := by simp [World.cell?, hO.block ob hob id, ho.out]
  have f2 : W.frozen? ⟨ob, 2, none⟩ = false := by simp [World.frozen?, hO.block ob hob id, ho.out]
  have hob' : ob < W.heap.size := Nat.lt_of_lt_of_le hob hO.size
  obtain ⟨⟨c0, c1'⟩, ⟨g0, g1⟩, _, hlt2⟩ := box34 hB1
  have hoW : Hid (W.heap[ob]? = some (.cells #[.int .i64 nm, .int .i64 sz, .int .i64 ps, .int .i64 rf] 52 (0, 0))) := (hO.block ob hob id).trans ho
  have hBW : Hid (W.heap[w.heap.size + 1]? = some (.cells #[.int .i64 0, .int .i64 0] 34 (0, 0))) := hB1
  have hOW : Hid (Only (fun _ => False) w W) := hO
  clear hB0 hB1 hO hW
  go_wp2
  go_quiet (fail)
  go_wp2
  have hB' : ((((W.drewN nq).setCell ⟨ob, 2, none⟩ (.int .i64 (ps))).setCell ⟨w.heap.size + 1, 0, none⟩ (.int .i64 0)).setCell ⟨w.heap.size + 1, 1, none⟩ (.int .i64 (0))).heap[w.heap.size + 1]? = some (.cells #[.int .i64 0, .int .i64 (0)] 34 (0, 0)) :=
    heap_set (heap_set ((Below.heap_setCell _ _ _ _ (by first | omega | (simp; omega))).trans hBW) 0 _) 1 _
  obtain ⟨⟨d0, d1⟩, _, _, _⟩ := box34 hB'
  refine bodyPost_ret (v := ansV 0 (0)) (by simp [results, Try.results13, go_sem, d0, d1]) rfl ⟨rfl, ?_, ?_⟩
  · rw [Below.heap_setCell _ _ _ _ (by first | omega | (simp; omega)), Below.heap_setCell _ _ _ _ (by first | omega | (simp; omega))]; exact heap_set hoW 2 _
  · refine Only.set (S := fun k => k = ob) (Only.set (Only.set (S := fun k => k = ob) (p := ⟨ob, 2, none⟩) ((hOW.out.mono fun _ _ h => h.elim).drew nq) (.inl rfl) _) (.inr ?_) _) (.inr ?_) _ <;> exact Nat.le_succ _
set_option maxRecDepth 100000 in
set_option maxHeartbeats 4000000 in
theorem Try.read_all (sb tb ob p f : Nat) (name size dst most nm sz ps rf : Int) (w : World) (hp : p < 4) (hsb : sb < w.heap.size) (cs : w.cell? ⟨sb, p, none⟩ = some (.pointer (some ⟨tb, 0, none⟩))) (htb : tb < w.heap.size) (hf : f < 16) (ce : w.cell? ⟨tb, f, none⟩ = some (.pointer (some ⟨ob, 0, none⟩))) (ho : Hid (w.heap[ob]? = some (.cells #[.int .i64 nm, .int .i64 sz, .int .i64 ps, .int .i64 rf] 52 (0, 0)))) (hob : ob < w.heap.size) (hr : Hid (0 ≤ rf ∧ rf ≤ 1000000)) (hs0 : 1 ≤ most) (hm : most ≤ 9223372036854775807) (z0 : 0 ≤ sz) (z1 : sz ≤ 1099511627776) (p0 : 0 ≤ ps) (p1 : ps ≤ 1099511627776) (hx : 0 ≤ sz - ps) (hy : most ≤ sz - ps) :
    Calls Try.prog 13 #[.pointer (some ⟨sb, 0, none⟩), .agg #[.int .i64 5, .int .i64 p, .int .i64 name, .int .i64 size, .int .i64 f, .int .i64 dst, .int .i64 most]] w fun x w' => x = .returned (ansV 0 (most)) ∧ w'.heap[ob]? = some (.cells #[.int .i64 nm, .int .i64 sz, .int .i64 (ps + most), .int .i64 rf] 52 (0, 0)) ∧ Only (fun k => k = ob) w w' := by
  have hp0 : (0 : Int) ≤ p := by omega
  have hp1 : (p : Int) < 4 := by omega
  have hb2 : decide ((p : Int) < 0) = false := by simp
  have hb3 : decide ((p : Int) ≥ 4) = false := by simp; omega
  have hf0 : (0 : Int) ≤ f := by omega
  have hf1 : (f : Int) < 16 := by omega
  have hb4 : decide ((f : Int) < 0) = false := by simp
  have hb5 : decide ((f : Int) ≥ 16) = false := by simp; omega
  have hb8 : decide (most < 1) = false := by simp; omega
  have hx2 : ¬ (sz - ps < 0) := by omega
  go_enter Try.func13, Try.ntmps13
  go_wp2
  go_quiet (fail)
  go_wp2
  go_quiet (fail)
  go_wp2
  go_quiet (fail)
  go_wp2
  go_quiet (fail)
  generalize hW : (World.drewN _ _) = W
  have hO : Only (fun _ => False) w W := by rw [← hW]; repeat (first | exact Only.refl _ _ | refine Only.alloc ?_ _ | refine Only.drew ?_ _ | refine Only.set ?_ (.inr (by simp)) _)
  have hB1 : W.heap[w.heap.size + 1]? = some (.cells #[.int .i64 0, .int .i64 0] 34 (0, 0)) := by rw [← hW]; exact new_at (by simp)
  have hB0 : W.heap[w.heap.size]? = some (.cells #[.int .i64 5, .int .i64 p, .int .i64 name, .int .i64 size, .int .i64 f, .int .i64 dst, .int .i64 most] 24 (0, 0)) := by rw [← hW]; exact (Below.heap_alloc _ _ _ (by simp)).trans (new_at rfl)
  have b0 : W.cell? ⟨w.heap.size, 0, none⟩ = some (.int .i64 5) := by simp [World.cell?, hB0]
  have b6 : W.cell? ⟨w.heap.size, 6, none⟩ = some (.int .i64 most) := by simp [World.cell?, hB0]
  have v1 : W.cell? ⟨ob, 1, none⟩ = some (.int .i64 sz) := by simp [World.cell?, hO.block ob hob id, ho.out]
  have v2 : W.cell? ⟨ob, 2, none⟩ = some (.int .i64 ps) := by simp [World.cell?, hO.block ob hob id, ho.out]
  have f2 : W.frozen? ⟨ob, 2, none⟩ = false := by simp [World.frozen?, hO.block ob hob id, ho.out]
  have hob' : ob < W.heap.size := Nat.lt_of_lt_of_le hob hO.size
  obtain ⟨⟨c0, c1'⟩, ⟨g0, g1⟩, _, hlt2⟩ := box34 hB1
  have hoW : Hid (W.heap[ob]? = some (.cells #[.int .i64 nm, .int .i64 sz, .int .i64 ps, .int .i64 rf] 52 (0, 0))) := (hO.block ob hob id).trans ho
  have hBW : Hid (W.heap[w.heap.size + 1]? = some (.cells #[.int .i64 0, .int .i64 0] 34 (0, 0))) := hB1
  have hOW : Hid (Only (fun _ => False) w W) := hO
  clear hB0 hB1 hO hW
  go_wp2
  go_quiet (fail)
  go_wp2
  have hB' : ((((W.drewN nq).setCell ⟨ob, 2, none⟩ (.int .i64 (ps + most))).setCell ⟨w.heap.size + 1, 0, none⟩ (.int .i64 0)).setCell ⟨w.heap.size + 1, 1, none⟩ (.int .i64 (most))).heap[w.heap.size + 1]? = some (.cells #[.int .i64 0, .int .i64 (most)] 34 (0, 0)) :=
    heap_set (heap_set ((Below.heap_setCell _ _ _ _ (by first | omega | (simp; omega))).trans hBW) 0 _) 1 _
  obtain ⟨⟨d0, d1⟩, _, _, _⟩ := box34 hB'
  refine bodyPost_ret (v := ansV 0 (most)) (by simp [results, Try.results13, go_sem, d0, d1]) rfl ⟨rfl, ?_, ?_⟩
  · rw [Below.heap_setCell _ _ _ _ (by first | omega | (simp; omega)), Below.heap_setCell _ _ _ _ (by first | omega | (simp; omega))]; exact heap_set hoW 2 _
  · refine Only.set (S := fun k => k = ob) (Only.set (Only.set (S := fun k => k = ob) (p := ⟨ob, 2, none⟩) ((hOW.out.mono fun _ _ h => h.elim).drew nq) (.inl rfl) _) (.inr ?_) _) (.inr ?_) _ <;> exact Nat.le_succ _
set_option maxRecDepth 100000 in
set_option maxHeartbeats 4000000 in
theorem Try.read_some (sb tb ob p f : Nat) (name size dst most nm sz ps rf : Int) (w : World) (hp : p < 4) (hsb : sb < w.heap.size) (cs : w.cell? ⟨sb, p, none⟩ = some (.pointer (some ⟨tb, 0, none⟩))) (htb : tb < w.heap.size) (hf : f < 16) (ce : w.cell? ⟨tb, f, none⟩ = some (.pointer (some ⟨ob, 0, none⟩))) (ho : Hid (w.heap[ob]? = some (.cells #[.int .i64 nm, .int .i64 sz, .int .i64 ps, .int .i64 rf] 52 (0, 0)))) (hob : ob < w.heap.size) (hr : Hid (0 ≤ rf ∧ rf ≤ 1000000)) (hs0 : 1 ≤ most) (hm : most ≤ 9223372036854775807) (z0 : 0 ≤ sz) (z1 : sz ≤ 1099511627776) (p0 : 0 ≤ ps) (p1 : ps ≤ 1099511627776) (hx : 0 ≤ sz - ps) (hy : sz - ps < most) :
    Calls Try.prog 13 #[.pointer (some ⟨sb, 0, none⟩), .agg #[.int .i64 5, .int .i64 p, .int .i64 name, .int .i64 size, .int .i64 f, .int .i64 dst, .int .i64 most]] w fun x w' => x = .returned (ansV 0 (sz - ps)) ∧ w'.heap[ob]? = some (.cells #[.int .i64 nm, .int .i64 sz, .int .i64 (ps + (sz - ps)), .int .i64 rf] 52 (0, 0)) ∧ Only (fun k => k = ob) w w' := by
  have hp0 : (0 : Int) ≤ p := by omega
  have hp1 : (p : Int) < 4 := by omega
  have hb2 : decide ((p : Int) < 0) = false := by simp
  have hb3 : decide ((p : Int) ≥ 4) = false := by simp; omega
  have hf0 : (0 : Int) ≤ f := by omega
  have hf1 : (f : Int) < 16 := by omega
  have hb4 : decide ((f : Int) < 0) = false := by simp
  have hb5 : decide ((f : Int) ≥ 16) = false := by simp; omega
  have hb8 : decide (most < 1) = false := by simp; omega
  have hx2 : ¬ (sz - ps < 0) := by omega
  have hx3 : ¬ (most ≤ sz - ps) := by omega
  go_enter Try.func13, Try.ntmps13
  go_wp2
  go_quiet (fail)
  go_wp2
  go_quiet (fail)
  go_wp2
  go_quiet (fail)
  go_wp2
  go_quiet (fail)
  generalize hW : (World.drewN _ _) = W
  have hO : Only (fun _ => False) w W := by rw [← hW]; repeat (first | exact Only.refl _ _ | refine Only.alloc ?_ _ | refine Only.drew ?_ _ | refine Only.set ?_ (.inr (by simp)) _)
  have hB1 : W.heap[w.heap.size + 1]? = some (.cells #[.int .i64 0, .int .i64 0] 34 (0, 0)) := by rw [← hW]; exact new_at (by simp)
  have hB0 : W.heap[w.heap.size]? = some (.cells #[.int .i64 5, .int .i64 p, .int .i64 name, .int .i64 size, .int .i64 f, .int .i64 dst, .int .i64 most] 24 (0, 0)) := by rw [← hW]; exact (Below.heap_alloc _ _ _ (by simp)).trans (new_at rfl)
  have b0 : W.cell? ⟨w.heap.size, 0, none⟩ = some (.int .i64 5) := by simp [World.cell?, hB0]
  have b6 : W.cell? ⟨w.heap.size, 6, none⟩ = some (.int .i64 most) := by simp [World.cell?, hB0]
  have v1 : W.cell? ⟨ob, 1, none⟩ = some (.int .i64 sz) := by simp [World.cell?, hO.block ob hob id, ho.out]
  have v2 : W.cell? ⟨ob, 2, none⟩ = some (.int .i64 ps) := by simp [World.cell?, hO.block ob hob id, ho.out]
  have f2 : W.frozen? ⟨ob, 2, none⟩ = false := by simp [World.frozen?, hO.block ob hob id, ho.out]
  have hob' : ob < W.heap.size := Nat.lt_of_lt_of_le hob hO.size
  obtain ⟨⟨c0, c1'⟩, ⟨g0, g1⟩, _, hlt2⟩ := box34 hB1
  have hoW : Hid (W.heap[ob]? = some (.cells #[.int .i64 nm, .int .i64 sz, .int .i64 ps, .int .i64 rf] 52 (0, 0))) := (hO.block ob hob id).trans ho
  have hBW : Hid (W.heap[w.heap.size + 1]? = some (.cells #[.int .i64 0, .int .i64 0] 34 (0, 0))) := hB1
  have hOW : Hid (Only (fun _ => False) w W) := hO
  clear hB0 hB1 hO hW
  go_wp2
  go_quiet (fail)
  go_wp2
  have hB' : ((((W.drewN nq).setCell ⟨ob, 2, none⟩ (.int .i64 (ps + (sz - ps)))).setCell ⟨w.heap.size + 1, 0, none⟩ (.int .i64 0)).setCell ⟨w.heap.size + 1, 1, none⟩ (.int .i64 (sz - ps))).heap[w.heap.size + 1]? = some (.cells #[.int .i64 0, .int .i64 (sz - ps)] 34 (0, 0)) :=
    heap_set (heap_set ((Below.heap_setCell _ _ _ _ (by first | omega | (simp; omega))).trans hBW) 0 _) 1 _
  obtain ⟨⟨d0, d1⟩, _, _, _⟩ := box34 hB'
  refine bodyPost_ret (v := ansV 0 (sz - ps)) (by simp [results, Try.results13, go_sem, d0, d1]) rfl ⟨rfl, ?_, ?_⟩
  · rw [Below.heap_setCell _ _ _ _ (by first | omega | (simp; omega)), Below.heap_setCell _ _ _ _ (by first | omega | (simp; omega))]; exact heap_set hoW 2 _
  · refine Only.set (S := fun k => k = ob) (Only.set (Only.set (S := fun k => k = ob) (p := ⟨ob, 2, none⟩) ((hOW.out.mono fun _ _ h => h.elim).drew nq) (.inl rfl) _) (.inr ?_) _) (.inr ?_) _ <;> exact Nat.le_succ _
end Go.Proofs
namespace Go.Proofs
open Go.RowKit Go.Fp
set_option maxRecDepth 100000 in
set_option maxHeartbeats 4000000 in
theorem Try.over_same (sb tb ob p f : Nat) (name size most : Int) (w : World) (hp : p < 4) (hsb : sb < w.heap.size) (cs : w.cell? ⟨sb, p, none⟩ = some (.pointer (some ⟨tb, 0, none⟩))) (htb : tb < w.heap.size) (hf : f < 16) (ce : w.cell? ⟨tb, f, none⟩ = some (.pointer (some ⟨ob, 0, none⟩))) :
    Calls Try.prog 13 #[.pointer (some ⟨sb, 0, none⟩), .agg #[.int .i64 3, .int .i64 p, .int .i64 name, .int .i64 size, .int .i64 f, .int .i64 f, .int .i64 most]] w fun x w' => x = .returned (ansV 0 f) ∧ Only (fun _ => False) w w' := by
  have hp0 : (0 : Int) ≤ p := by omega
  have hp1 : (p : Int) < 4 := by omega
  have hb2 : decide ((p : Int) < 0) = false := by simp
  have hb3 : decide ((p : Int) ≥ 4) = false := by simp; omega
  have hf0 : (0 : Int) ≤ f := by omega
  have hf1 : (f : Int) < 16 := by omega
  have hb4 : decide ((f : Int) < 0) = false := by simp
  have hb5 : decide ((f : Int) ≥ 16) = false := by simp; omega
  go_enter Try.func13, Try.ntmps13
  go_wp2
  go_quiet (fail)
  go_wp2
  go_quiet (fail)
  go_wp2
  go_quiet (fail)
  go_wp2
  go_quiet (fail)
  go_wp2
  exact bodyPost_ret (v := ansV 0 f) (by simp [results, Try.results13, go_sem]) rfl ⟨rfl, by repeat (first | exact Only.refl _ _ | refine Only.alloc ?_ _ | refine Only.drew ?_ _ | refine Only.set ?_ (.inr (by simp)) _)⟩
set_option maxRecDepth 100000 in
set_option maxHeartbeats 4000000 in
theorem Try.over_none (sb tb ob p f d : Nat) (name size most nm sz ps rf : Int) (arr : Array Value) (w : World) (hp : p < 4) (hsb : sb < w.heap.size) (cs : w.cell? ⟨sb, p, none⟩ = some (.pointer (some ⟨tb, 0, none⟩))) (hb : Hid (w.heap[tb]? = some (.cells arr 49 (0, 0)))) (htb : tb < w.heap.size) (hsz : Hid (arr.size = 16)) (hf : f < 16) (ce : w.cell? ⟨tb, f, none⟩ = some (.pointer (some ⟨ob, 0, none⟩))) (ho : Hid (w.heap[ob]? = some (.cells #[.int .i64 nm, .int .i64 sz, .int .i64 ps, .int .i64 rf] 52 (0, 0)))) (hob : ob < w.heap.size) (hr : Hid (0 ≤ rf ∧ rf ≤ 1000000)) (hd : d < 16) (hdf : d ≠ f) (cd : w.cell? ⟨tb, d, none⟩ = some (.pointer none)) :
    Calls Try.prog 13 #[.pointer (some ⟨sb, 0, none⟩), .agg #[.int .i64 3, .int .i64 p, .int .i64 name, .int .i64 size, .int .i64 f, .int .i64 d, .int .i64 most]] w fun x w' => x = .returned (ansV 0 d) ∧ w'.heap[ob]? = some (.cells #[.int .i64 nm, .int .i64 sz, .int .i64 ps, .int .i64 (rf + 1)] 52 (0, 0)) ∧ w'.heap[tb]? = some (.cells (arr.setIfInBounds d (.pointer (some ⟨ob, 0, none⟩))) 49 (0, 0)) ∧ Only (fun k => k = ob ∨ k = tb) w w' := by
  have hp0 : (0 : Int) ≤ p := by omega
  have hp1 : (p : Int) < 4 := by omega
  have hb2 : decide ((p : Int) < 0) = false := by simp
  have hb3 : decide ((p : Int) ≥ 4) = false := by simp; omega
  have hf0 : (0 : Int) ≤ f := by omega
  have hf1 : (f : Int) < 16 := by omega
  have hb4 : decide ((f : Int) < 0) = false := by simp
  have hb5 : decide ((f : Int) ≥ 16) = false := by simp; omega
  have hd0 : (0 : Int) ≤ d := by omega
  have hd1 : (d : Int) < 16 := by omega
  have hb8 : decide ((d : Int) < 0) = false := by simp
  have hb9 : decide ((d : Int) ≥ 16) = false := by simp; omega
  have hb10 : (!decide ((d : Int) = f)) = true := by simp; omega
  go_enter Try.func13, Try.ntmps13
  go_wp2
  go_quiet (fail)
  go_wp2
  go_quiet (fail)
  go_wp2
  go_quiet (fail)
  go_wp2
  go_quiet (fail)
  go_wp2_with (first | (go_at_call 17; refine (Try.drop_none tb d hd _ ((cell_old (by repeat (first | exact Only.refl _ _ | refine Only.alloc ?_ _ | refine Only.drew ?_ _ | refine Only.set ?_ (.inr (by simp)) _)) htb d).trans cd)).mono ?_; rintro e w' ⟨⟨v, rfl⟩, q, rfl⟩))
  refine (Try.set tb ob d (by omega) nm sz ps rf arr hsz _ ((heap_old (by repeat (first | exact Only.refl _ _ | refine Only.alloc ?_ _ | refine Only.drew ?_ _ | refine Only.set ?_ (.inr (by simp)) _)) hob).trans ho) ((heap_old (by repeat (first | exact Only.refl _ _ | refine Only.alloc ?_ _ | refine Only.drew ?_ _ | refine Only.set ?_ (.inr (by simp)) _)) htb).trans hb) hr).mono ?_
  rintro e w2 ⟨⟨v, rfl⟩, h1, h2, hk⟩
  have hB : w2.heap[w.heap.size + 1]? = some (.cells #[.int .i64 0, .int .i64 0] 34 (0, 0)) := by
    rw [hk.block _ (by simp) (by rintro (h | h) <;> omega)]
    exact new_at (by simp)
  obtain ⟨⟨c0, c1⟩, ⟨g0, g1⟩, _, hlt2⟩ := box34 hB
  have b5 : w2.cell? ⟨w.heap.size, 5, none⟩ = some (.int .i64 d) := by
    have : w2.heap[w.heap.size]? = some (.cells #[.int .i64 3, .int .i64 p, .int .i64 name, .int .i64 size, .int .i64 f, .int .i64 d, .int .i64 most] 24 (0, 0)) := by
      rw [hk.block _ (by first | (simp; done) | (simp; omega)) (by rintro (h | h) <;> omega)]
      exact (Below.heap_alloc _ _ _ (by simp)).trans (new_at rfl)
    simp [World.cell?, this]
  go_wp2
  have hB' : ((w2.setCell ⟨w.heap.size + 1, 0, none⟩ (.int .i64 0)).setCell ⟨w.heap.size + 1, 1, none⟩ (.int .i64 d)).heap[w.heap.size + 1]? = some (.cells #[.int .i64 0, .int .i64 d] 34 (0, 0)) := heap_set (heap_set hB 0 _) 1 _
  obtain ⟨⟨d0, d1⟩, _, _, _⟩ := box34 hB'
  refine bodyPost_ret (v := ansV 0 d) (by simp [results, Try.results13, go_sem, d0, d1]) rfl ⟨rfl, ?_, ?_, ?_⟩
  · rw [Below.heap_setCell _ _ _ _ (by simp; omega), Below.heap_setCell _ _ _ _ (by simp; omega)]; exact h1
  · rw [Below.heap_setCell _ _ _ _ (by simp; omega), Below.heap_setCell _ _ _ _ (by simp; omega)]; exact h2
  · exact Only.set (Only.set (only_via (by repeat (first | exact Only.refl _ _ | refine Only.alloc ?_ _ | refine Only.drew ?_ _ | refine Only.set ?_ (.inr (by simp)) _)) hk fun k _ h => h) (.inr (by simp)) _) (.inr (by simp)) _
end Go.Proofs
namespace Go.Proofs
open Go.RowKit Go.Fp
set_option maxRecDepth 100000 in
set_option maxHeartbeats 4000000 in
theorem Try.over_two (sb tb ob oc p f d : Nat) (name size most nm sz ps rf nm2 sz2 ps2 rf2 : Int) (arr : Array Value) (w : World) (hp : p < 4) (hsb : sb < w.heap.size) (cs : w.cell? ⟨sb, p, none⟩ = some (.pointer (some ⟨tb, 0, none⟩))) (hb : Hid (w.heap[tb]? = some (.cells arr 49 (0, 0)))) (htb : tb < w.heap.size) (hsz : Hid (arr.size = 16)) (hf : f < 16) (ce : w.cell? ⟨tb, f, none⟩ = some (.pointer (some ⟨ob, 0, none⟩))) (ho : Hid (w.heap[ob]? = some (.cells #[.int .i64 nm, .int .i64 sz, .int .i64 ps, .int .i64 rf] 52 (0, 0)))) (hob : ob < w.heap.size) (hr : Hid (0 ≤ rf ∧ rf ≤ 1000000)) (hd : d < 16) (hdf : d ≠ f) (cd : w.cell? ⟨tb, d, none⟩ = some (.pointer (some ⟨oc, 0, none⟩))) (ho2 : Hid (w.heap[oc]? = some (.cells #[.int .i64 nm2, .int .i64 sz2, .int .i64 ps2, .int .i64 rf2] 52 (0, 0)))) (hoc : oc < w.heap.size) (hr2 : Hid (0 ≤ rf2 ∧ rf2 ≤ 1000000)) (hcd : Hid (arr[d]? = some (.pointer (some ⟨oc, 0, none⟩)))) (hne : oc ≠ ob) :
    Calls Try.prog 13 #[.pointer (some ⟨sb, 0, none⟩), .agg #[.int .i64 3, .int .i64 p, .int .i64 name, .int .i64 size, .int .i64 f, .int .i64 d, .int .i64 most]] w fun x w' => x = .returned (ansV 0 d) ∧ w'.heap[ob]? = some (.cells #[.int .i64 nm, .int .i64 sz, .int .i64 ps, .int .i64 (rf + 1)] 52 (0, 0)) ∧ w'.heap[oc]? = some (.cells #[.int .i64 nm2, .int .i64 sz2, .int .i64 ps2, .int .i64 (rf2 - 1)] 52 (0, 0)) ∧ w'.heap[tb]? = some (.cells ((arr.setIfInBounds d (.pointer none)).setIfInBounds d (.pointer (some ⟨ob, 0, none⟩))) 49 (0, 0)) ∧ Only (fun k => k = ob ∨ k = oc ∨ k = tb) w w' := by
  have hp0 : (0 : Int) ≤ p := by omega
  have hp1 : (p : Int) < 4 := by omega
  have hb2 : decide ((p : Int) < 0) = false := by simp
  have hb3 : decide ((p : Int) ≥ 4) = false := by simp; omega
  have hf0 : (0 : Int) ≤ f := by omega
  have hf1 : (f : Int) < 16 := by omega
  have hb4 : decide ((f : Int) < 0) = false := by simp
  have hb5 : decide ((f : Int) ≥ 16) = false := by simp; omega
  have hd0 : (0 : Int) ≤ d := by omega
  have hd1 : (d : Int) < 16 := by omega
  have hb8 : decide ((d : Int) < 0) = false := by simp
  have hb9 : decide ((d : Int) ≥ 16) = false := by simp; omega
  have hb10 : (!decide ((d : Int) = f)) = true := by simp; omega
  go_enter Try.func13, Try.ntmps13
  go_wp2
  go_quiet (fail)
  go_wp2
  go_quiet (fail)
  go_wp2
  go_quiet (fail)
  go_wp2
  go_quiet (fail)
  go_wp2_with (fail)
  refine (Try.drop_some tb oc d (by omega) nm2 sz2 ps2 rf2 arr hsz _ ((heap_old (by repeat (first | exact Only.refl _ _ | refine Only.alloc ?_ _ | refine Only.drew ?_ _ | refine Only.set ?_ (.inr (by simp)) _)) hoc).trans ho2) ((heap_old (by repeat (first | exact Only.refl _ _ | refine Only.alloc ?_ _ | refine Only.drew ?_ _ | refine Only.set ?_ (.inr (by simp)) _)) htb).trans hb) hr2 hcd).mono ?_
  rintro e w1 ⟨⟨v, rfl⟩, k1, k2, hk1⟩
  have hB1 : w1.heap[w.heap.size + 1]? = some (.cells #[.int .i64 0, .int .i64 0] 34 (0, 0)) := by
    rw [hk1.block _ (by first | (simp; done) | (simp; omega)) (by rintro (h | h) <;> omega)]
    exact new_at (by simp)
  have s1 : w.heap.size + 1 < w1.heap.size := by have := hk1.size; simp at this; omega
  have hB0 : Hid (w1.heap[w.heap.size]? = some (.cells #[.int .i64 3, .int .i64 p, .int .i64 name, .int .i64 size, .int .i64 f, .int .i64 d, .int .i64 most] 24 (0, 0))) := by
    rw [hk1.block _ (by first | (simp; done) | (simp; omega)) (by rintro (h | h) <;> omega)]
    exact (Below.heap_alloc _ _ _ (by simp)).trans (new_at rfl)
  have b5' : w1.cell? ⟨w.heap.size, 5, none⟩ = some (.int .i64 d) := by simp [World.cell?, hB0.out]
  have oW : Only (fun k => k = oc ∨ k = tb) w w1 := only_via (by repeat (first | exact Only.refl _ _ | refine Only.alloc ?_ _ | refine Only.drew ?_ _ | refine Only.set ?_ (.inr (by simp)) _)) hk1 fun k _ h => h
  have hB1' := Lib.hid hB1
  have k1' := Lib.hid k1
  have k2' := Lib.hid k2
  have hk1' := Lib.hid hk1
  clear hB1 k1 k2 hk1
  go_wp2_with (fail)
  have hot : ob ≠ tb := by rintro rfl; have := ho.out.symm.trans hb.out; simp at this
  refine (Try.set tb ob d (by omega) nm sz ps rf (arr.setIfInBounds d (.pointer none)) (by rw [Array.size_setIfInBounds]; exact hsz) _ ((oW.block ob hob (by rintro (h | h); exact hne h.symm; exact hot h)).trans ho) k2'.out hr).mono ?_
  rintro e w2 ⟨⟨v, rfl⟩, h1, h2, hk⟩
  have hB : w2.heap[w.heap.size + 1]? = some (.cells #[.int .i64 0, .int .i64 0] 34 (0, 0)) := by
    rw [hk.block _ s1 (by rintro (h | h) <;> omega)]
    exact hB1'.out
  obtain ⟨⟨c0, c1⟩, ⟨g0, g1⟩, _, hlt2⟩ := box34 hB
  have b5 : w2.cell? ⟨w.heap.size, 5, none⟩ = some (.int .i64 d) := by
    have : w2.heap[w.heap.size]? = some (.cells #[.int .i64 3, .int .i64 p, .int .i64 name, .int .i64 size, .int .i64 f, .int .i64 d, .int .i64 most] 24 (0, 0)) := by
      rw [hk.block _ (by omega) (by rintro (h | h) <;> omega)]
      exact hB0.out
    simp [World.cell?, this]
  have hoc2 : w2.heap[oc]? = some (.cells #[.int .i64 nm2, .int .i64 sz2, .int .i64 ps2, .int .i64 (rf2 - 1)] 52 (0, 0)) := by
    rw [hk.block _ (Nat.lt_of_lt_of_le hoc oW.size) (by rintro (h | h); exact hne h; rw [h] at k1'; have := k1'.out.symm.trans k2'.out; simp at this)]
    exact k1'.out
  have k3 := Lib.hid hoc2
  have hk' := Lib.hid hk
  clear hoc2 hk
  go_wp2
  have hB' : ((w2.setCell ⟨w.heap.size + 1, 0, none⟩ (.int .i64 0)).setCell ⟨w.heap.size + 1, 1, none⟩ (.int .i64 d)).heap[w.heap.size + 1]? = some (.cells #[.int .i64 0, .int .i64 d] 34 (0, 0)) := heap_set (heap_set hB 0 _) 1 _
  obtain ⟨⟨d0, d1⟩, _, _, _⟩ := box34 hB'
  refine bodyPost_ret (v := ansV 0 d) (by simp [results, Try.results13, go_sem, d0, d1]) rfl ⟨rfl, ?_, ?_, ?_, ?_⟩
  · rw [Below.heap_setCell _ _ _ _ (by first | omega | (simp; omega)), Below.heap_setCell _ _ _ _ (by first | omega | (simp; omega))]; exact h1
  · rw [Below.heap_setCell _ _ _ _ (by first | omega | (simp; omega)), Below.heap_setCell _ _ _ _ (by first | omega | (simp; omega))]; exact k3.out
  · rw [Below.heap_setCell _ _ _ _ (by first | omega | (simp; omega)), Below.heap_setCell _ _ _ _ (by first | omega | (simp; omega))]; exact h2
  · exact Only.set (Only.set ((oW.mono fun k _ h => h.elim (fun h => .inr (.inl h)) (fun h => .inr (.inr h))).trans (hk'.out.mono fun k _ h => h.elim .inl (fun h => .inr (.inr h)))) (.inr (by simp)) _) (.inr (by simp)) _
end Go.Proofs
namespace Go.Proofs
open Go.RowKit Go.Fp
set_option maxRecDepth 100000 in
set_option maxHeartbeats 4000000 in
theorem Try.over_one (sb tb ob p f d : Nat) (name size most nm sz ps rf : Int) (arr : Array Value) (w : World) (hp : p < 4) (hsb : sb < w.heap.size) (cs : w.cell? ⟨sb, p, none⟩ = some (.pointer (some ⟨tb, 0, none⟩))) (hb : Hid (w.heap[tb]? = some (.cells arr 49 (0, 0)))) (htb : tb < w.heap.size) (hsz : Hid (arr.size = 16)) (hf : f < 16) (ce : w.cell? ⟨tb, f, none⟩ = some (.pointer (some ⟨ob, 0, none⟩))) (ho : Hid (w.heap[ob]? = some (.cells #[.int .i64 nm, .int .i64 sz, .int .i64 ps, .int .i64 rf] 52 (0, 0)))) (hob : ob < w.heap.size) (hr : Hid (0 ≤ rf ∧ rf ≤ 1000000)) (hd : d < 16) (hdf : d ≠ f) (cd : w.cell? ⟨tb, d, none⟩ = some (.pointer (some ⟨ob, 0, none⟩))) (hcd : Hid (arr[d]? = some (.pointer (some ⟨ob, 0, none⟩)))) (hr1 : Hid (1 ≤ rf)) :
    Calls Try.prog 13 #[.pointer (some ⟨sb, 0, none⟩), .agg #[.int .i64 3, .int .i64 p, .int .i64 name, .int .i64 size, .int .i64 f, .int .i64 d, .int .i64 most]] w fun x w' => x = .returned (ansV 0 d) ∧ w'.heap[ob]? = some (.cells #[.int .i64 nm, .int .i64 sz, .int .i64 ps, .int .i64 (rf - 1 + 1)] 52 (0, 0)) ∧ w'.heap[tb]? = some (.cells ((arr.setIfInBounds d (.pointer none)).setIfInBounds d (.pointer (some ⟨ob, 0, none⟩))) 49 (0, 0)) ∧ Only (fun k => k = ob ∨ k = tb) w w' := by
  have hp0 : (0 : Int) ≤ p := by omega
  have hp1 : (p : Int) < 4 := by omega
  have hb2 : decide ((p : Int) < 0) = false := by simp
  have hb3 : decide ((p : Int) ≥ 4) = false := by simp; omega
  have hf0 : (0 : Int) ≤ f := by omega
  have hf1 : (f : Int) < 16 := by omega
  have hb4 : decide ((f : Int) < 0) = false := by simp
  have hb5 : decide ((f : Int) ≥ 16) = false := by simp; omega
  have hd0 : (0 : Int) ≤ d := by omega
  have hd1 : (d : Int) < 16 := by omega
  have hb8 : decide ((d : Int) < 0) = false := by simp
  have hb9 : decide ((d : Int) ≥ 16) = false := by simp; omega
  have hb10 : (!decide ((d : Int) = f)) = true := by simp; omega
  go_enter Try.func13, Try.ntmps13
  go_wp2
  go_quiet (fail)
  go_wp2
  go_quiet (fail)
  go_wp2
  go_quiet (fail)
  go_wp2
  go_quiet (fail)
  go_wp2_with (fail)
  refine (Try.drop_some tb ob d (by omega) nm sz ps rf arr hsz _ ((heap_old (by repeat (first | exact Only.refl _ _ | refine Only.alloc ?_ _ | refine Only.drew ?_ _ | refine Only.set ?_ (.inr (by simp)) _)) hob).trans ho) ((heap_old (by repeat (first | exact Only.refl _ _ | refine Only.alloc ?_ _ | refine Only.drew ?_ _ | refine Only.set ?_ (.inr (by simp)) _)) htb).trans hb) hr hcd).mono ?_
  rintro e w1 ⟨⟨v, rfl⟩, k1, k2, hk1⟩
  have hB1 : w1.heap[w.heap.size + 1]? = some (.cells #[.int .i64 0, .int .i64 0] 34 (0, 0)) := by
    rw [hk1.block _ (by first | (simp; done) | (simp; omega)) (by rintro (h | h) <;> omega)]
    exact new_at (by simp)
  have s1 : w.heap.size + 1 < w1.heap.size := by have := hk1.size; simp at this; omega
  have hB0 : Hid (w1.heap[w.heap.size]? = some (.cells #[.int .i64 3, .int .i64 p, .int .i64 name, .int .i64 size, .int .i64 f, .int .i64 d, .int .i64 most] 24 (0, 0))) := by
    rw [hk1.block _ (by first | (simp; done) | (simp; omega)) (by rintro (h | h) <;> omega)]
    exact (Below.heap_alloc _ _ _ (by simp)).trans (new_at rfl)
  have b5' : w1.cell? ⟨w.heap.size, 5, none⟩ = some (.int .i64 d) := by simp [World.cell?, hB0.out]
  have oW : Only (fun k => k = ob ∨ k = tb) w w1 := only_via (by repeat (first | exact Only.refl _ _ | refine Only.alloc ?_ _ | refine Only.drew ?_ _ | refine Only.set ?_ (.inr (by simp)) _)) hk1 fun k _ h => h
  have hB1' := Lib.hid hB1
  have k1' := Lib.hid k1
  have k2' := Lib.hid k2
  have hk1' := Lib.hid hk1
  clear hB1 k1 k2 hk1
  go_wp2_with (fail)
  refine (Try.set tb ob d (by omega) nm sz ps (rf - 1) (arr.setIfInBounds d (.pointer none)) (by rw [Array.size_setIfInBounds]; exact hsz) _ k1'.out k2'.out ⟨by have := hr1.out; omega, by have := hr.out; omega⟩).mono ?_
  rintro e w2 ⟨⟨v, rfl⟩, h1, h2, hk⟩
  have hB : w2.heap[w.heap.size + 1]? = some (.cells #[.int .i64 0, .int .i64 0] 34 (0, 0)) := by
    rw [hk.block _ s1 (by rintro (h | h) <;> omega)]
    exact hB1'.out
  obtain ⟨⟨c0, c1⟩, ⟨g0, g1⟩, _, hlt2⟩ := box34 hB
  have b5 : w2.cell? ⟨w.heap.size, 5, none⟩ = some (.int .i64 d) := by
    have : w2.heap[w.heap.size]? = some (.cells #[.int .i64 3, .int .i64 p, .int .i64 name, .int .i64 size, .int .i64 f, .int .i64 d, .int .i64 most] 24 (0, 0)) := by
      rw [hk.block _ (by omega) (by rintro (h | h) <;> omega)]
      exact hB0.out
    simp [World.cell?, this]
  have hk' := Lib.hid hk
  clear hk
  go_wp2
  have hB' : ((w2.setCell ⟨w.heap.size + 1, 0, none⟩ (.int .i64 0)).setCell ⟨w.heap.size + 1, 1, none⟩ (.int .i64 d)).heap[w.heap.size + 1]? = some (.cells #[.int .i64 0, .int .i64 d] 34 (0, 0)) := heap_set (heap_set hB 0 _) 1 _
  obtain ⟨⟨d0, d1⟩, _, _, _⟩ := box34 hB'
  refine bodyPost_ret (v := ansV 0 d) (by simp [results, Try.results13, go_sem, d0, d1]) rfl ⟨rfl, ?_, ?_, ?_⟩
  · rw [Below.heap_setCell _ _ _ _ (by first | omega | (simp; omega)), Below.heap_setCell _ _ _ _ (by first | omega | (simp; omega))]; exact h1
  · rw [Below.heap_setCell _ _ _ _ (by first | omega | (simp; omega)), Below.heap_setCell _ _ _ _ (by first | omega | (simp; omega))]; exact h2
  · exact Only.set (Only.set (oW.trans hk'.out) (.inr (by simp)) _) (.inr (by simp)) _
end Go.Proofs
namespace Go.Fp
theorem bumps_append (a b : Tbl) (os : List Opn) : bumps (a ++ b) os = bumps b (bumps a os) := by
  induction a generalizing os with
  | nil => rfl
  | cons e a ih => cases e <;> simp [bumps, ih]
theorem bumps_step {t : Tbl} {k : Nat} {e : Option Nat} (h : t[k]? = some e) (os : List Opn) : bumps (t.take (k + 1)) os = match e with
    | none => bumps (t.take k) os
    | some i => bump (bumps (t.take k) os) i 1 := by
  have hk : k < t.length := (List.getElem?_eq_some_iff.1 h).1
  have he : t[k] = e := (List.getElem?_eq_some_iff.1 h).2
  rw [List.take_succ_eq_append_getElem hk, bumps_append, he]
  cases e <;> rfl
end Go.Fp
namespace Go.Proofs
open Go.RowKit Go.Fp
def opnV (o : Opn) : Obj := .cells #[.int .i64 o.name, .int .i64 o.size, .int .i64 o.pos, .int .i64 o.refs] 52 (0, 0)
theorem Only.up {S : Nat → Prop} {a b : World} (h : Only (fun _ => False) a b) : Only S a b := h.mono fun _ _ h => h.elim
structure ForkRel (w : World) (eo : Nat → Nat) (t : Tbl) (os : List Opn) (op : Array Value) (k : Nat) (wr : World) : Prop where
  c : ∃ cs, wr.heap[w.heap.size + 2]? = some (.cells cs 49 (0, 0)) ∧ cs.size = 16 ∧ ∀ j, j < 16 → cs[j]? = some (if j < k then ptrO eo (t.getD j none) else .pointer none)
  o : ∀ i o, (bumps (t.take k) os)[i]? = some o → wr.heap[eo i]? = some (opnV o)
  b0 : wr.heap[w.heap.size]? = some (.cells op 24 (0, 0))
  b1 : wr.heap[w.heap.size + 1]? = some (.cells #[.int .i64 0, .int .i64 0] 34 (0, 0))
  only : Only (fun b => ∃ i, i < os.length ∧ b = eo i) w wr
theorem ForkRel.drew {w : World} {eo : Nat → Nat} {t : Tbl} {os : List Opn} {op : Array Value} {k : Nat} {wr : World} (h : ForkRel w eo t os op k wr) (n : Nat) : ForkRel w eo t os op k (wr.drewN n) :=
  ⟨h.c, h.o, h.b0, h.b1, h.only.drew n⟩
theorem ForkRel.none {w : World} {eo : Nat → Nat} {t : Tbl} {os : List Opn} {op : Array Value} {k : Nat} {wr : World} (h : ForkRel w eo t os op k wr) (hk : t[k]? = some none) : ForkRel w eo t os op (k + 1) wr := by
  refine ⟨?_, ?_, h.b0, h.b1, h.only⟩
  · obtain ⟨cs, h1, h2, h3⟩ := h.c
    refine ⟨cs, h1, h2, fun j hj => ?_⟩
    rw [h3 j hj]
    by_cases hjk : j = k
    · subst hjk
      have : t.getD j Option.none = Option.none := by rw [List.getD_eq_getElem?_getD, hk]; rfl
      rw [if_neg (Nat.lt_irrefl _), if_pos (Nat.lt_succ_self _), this]; rfl
    · by_cases hlt : j < k
      · rw [if_pos hlt, if_pos (by omega)]
      · rw [if_neg hlt, if_neg (by omega)]
  · rw [bumps_step hk]; exact h.o
theorem ForkRel.some {w : World} {eo : Nat → Nat} {t : Tbl} {os : List Opn} {op : Array Value} {k i : Nat} {wr w' : World} (h : ForkRel w eo t os op k wr) (hk : t[k]? = some (some i)) (hi : i < os.length) (hio : ∀ a b, a < os.length → b < os.length → eo a = eo b → a = b)
    (heo : ∀ i, i < os.length → eo i < w.heap.size) (cs : Array Value) (hc0 : wr.heap[w.heap.size + 2]? = some (.cells cs 49 (0, 0))) (hs : cs.size = 16) {o : Opn} (ho : (bumps (t.take k) os)[i]? = Option.some o)
    (h1 : w'.heap[eo i]? = Option.some (.cells #[.int .i64 o.name, .int .i64 o.size, .int .i64 o.pos, .int .i64 (o.refs + 1)] 52 (0, 0))) (h2 : w'.heap[w.heap.size + 2]? = Option.some (.cells (cs.setIfInBounds k (.pointer (Option.some ⟨eo i, 0, Option.none⟩))) 49 (0, 0)))
    (h3 : Only (fun b => b = eo i ∨ b = w.heap.size + 2) wr w') (hk16 : k < 16) : ForkRel w eo t os op (k + 1) w' := by
  have hl : w.heap.size + 2 < wr.heap.size := (Array.getElem?_eq_some_iff.1 hc0).1
  have hei := heo i hi
  refine ⟨⟨_, h2, by simpa using hs, fun j hj => ?_⟩, ?_, ?_, ?_, ?_⟩
  · obtain ⟨cs', g1, g2, g3⟩ := h.c
    rw [hc0] at g1
    cases g1
    by_cases hjk : k = j
    · subst hjk
      have : t.getD k Option.none = Option.some i := by rw [List.getD_eq_getElem?_getD, hk]; rfl
      rw [Array.getElem?_setIfInBounds, if_pos rfl, if_pos (by omega), if_pos (by omega), this]
      rfl
    · rw [Array.getElem?_setIfInBounds, if_neg hjk, g3 j hj]
      by_cases hlt : j < k
      · rw [if_pos hlt, if_pos (by omega)]
      · rw [if_neg hlt, if_neg (by omega)]
  · rw [bumps_step hk]
    intro a oa ha
    have ha : (bump (bumps (t.take k) os) i 1)[a]? = Option.some oa := ha
    rw [bump_get] at ha
    by_cases hai : a = i
    · subst hai
      rw [ho] at ha
      simp at ha
      subst ha
      exact h1
    · cases hh : (bumps (t.take k) os)[a]? with
      | none => rw [hh] at ha; cases ha
      | some oo =>
        rw [hh] at ha
        simp [hai] at ha
        subst ha
        have hal : a < os.length := by
          have := (List.getElem?_eq_some_iff.1 hh).1
          rwa [bumps_length] at this
        have hea := heo a hal
        rw [h3.block (eo a) (by omega) (by rintro (h | h); exact hai (hio _ _ hal hi h); omega)]
        exact h.o a oo hh
  · rw [h3.block _ (by omega) (by rintro (h | h) <;> omega)]; exact h.b0
  · rw [h3.block _ (by omega) (by rintro (h | h) <;> omega)]; exact h.b1
  · refine ⟨h3.os.trans h.only.os, h3.tape.trans h.only.tape, h3.output.trans h.only.output, Nat.le_trans h.only.size h3.size, fun b hb hn => ?_⟩
    rw [h3.block b (by omega) (by rintro (h | h); exact hn ⟨i, hi, h⟩; omega)]
    exact h.only.block b hb hn
set_option maxRecDepth 100000 in
set_option maxHeartbeats 4000000 in
theorem Try.fork_ok (sb tb p d : Nat) (name size fd most : Int) (eo : Nat → Nat) (t : Tbl) (os : List Opn) (arr arrS : Array Value) (w : World) (hp : p < 4) (hsb : sb < w.heap.size) (cs : w.cell? ⟨sb, p, none⟩ = some (.pointer (some ⟨tb, 0, none⟩)))
    (hb : Hid (w.heap[tb]? = some (.cells arr 49 (0, 0)))) (htb : tb < w.heap.size) (hc : Hid (∀ j, j < 16 → w.cell? ⟨tb, j, none⟩ = some (ptrO eo (t.getD j none)))) (ht : Hid (t.length = 16))
    (hS : Hid (w.heap[sb]? = some (.cells arrS 46 (0, 0)))) (hd : d < 4) (cd : w.cell? ⟨sb, d, none⟩ = some (.pointer none))
    (ho : Hid (∀ i o, os[i]? = some o → w.heap[eo i]? = some (opnV o))) (hr : Hid (∀ (i : Nat) (o : Opn), os[i]? = some o → 0 ≤ o.refs ∧ o.refs ≤ 1000)) (hte : Hid (∀ (j i : Nat), t[j]? = some (some i) → i < os.length)) (hio : Hid (∀ a b, a < os.length → b < os.length → eo a = eo b → a = b)) :
    Calls Try.prog 13 #[.pointer (some ⟨sb, 0, none⟩), .agg #[.int .i64 7, .int .i64 p, .int .i64 name, .int .i64 size, .int .i64 fd, .int .i64 d, .int .i64 most]] w fun x w' => x = .returned (ansV 0 d) ∧ ∃ cb ct, w.heap.size ≤ cb ∧
      w'.heap[cb]? = some (.cells ct 49 (0, 0)) ∧ ct.size = 16 ∧ (∀ j, j < 16 → ct[j]? = some (ptrO eo (t.getD j none))) ∧ (∀ i o, (bumps t os)[i]? = some o → w'.heap[eo i]? = some (opnV o)) ∧
      w'.heap[sb]? = some (.cells (arrS.setIfInBounds d (.pointer (some ⟨cb, 0, none⟩))) 46 (0, 0)) ∧ Only (fun b => b = sb ∨ ∃ i, i < os.length ∧ b = eo i) w w' := by
  have hp0 : (0 : Int) ≤ p := by omega
  have hp1 : (p : Int) < 4 := by omega
  have hb2 : decide ((p : Int) < 0) = false := by simp
  have hb3 : decide ((p : Int) ≥ 4) = false := by simp; omega
  have hb4 : decide ((d : Int) < 0) = false := by simp
  have hb5 : decide ((d : Int) ≥ 4) = false := by simp; omega
  have hd0 : (0 : Int) ≤ d := by omega
  have hd1 : (d : Int) < 4 := by omega
  go_enter Try.func13, Try.ntmps13
  go_wp2
  go_quiet (fail)
  go_wp2
  go_quiet (fail)
  go_wp2
  go_quiet (fail)
  go_wp2
  have hdif : Hid (∀ i, i < os.length → tb ≠ eo i) := by
    rintro i hi rfl
    have := ho.out i _ (List.getElem?_eq_getElem hi)
    rw [hb.out] at this
    simp [opnV] at this
  have hdis : Hid (∀ i, i < os.length → sb ≠ eo i) := by
    rintro i hi rfl
    have := ho.out i _ (List.getElem?_eq_getElem hi)
    rw [hS.out] at this
    simp [opnV] at this
  have heo : Hid (∀ i, i < os.length → eo i < w.heap.size) := fun i hi => (Array.getElem?_eq_some_iff.1 (ho.out i _ (List.getElem?_eq_getElem hi))).1
  go_loopw [108] (fun i wr => ∃ k : Nat, k ≤ 16 ∧ i = .int .i64 k ∧ Hid (ForkRel w eo t os #[.int .i64 7, .int .i64 p, .int .i64 name, .int .i64 size, .int .i64 fd, .int .i64 d, .int .i64 most] k wr)) (fun i _ => 17 - (intOf i).toNat)
  case atStart =>
    refine ⟨0, Nat.zero_le _, rfl, ?_⟩
    refine ⟨⟨_, new_at (by simp), rfl, fun j hj => ?_⟩, ?_, ?_, ?_, ?_⟩
    · rw [if_neg (by omega)]
      match j, hj with
      | 0, _ => rfl
      | 1, _ => rfl
      | 2, _ => rfl
      | 3, _ => rfl
      | 4, _ => rfl
      | 5, _ => rfl
      | 6, _ => rfl
      | 7, _ => rfl
      | 8, _ => rfl
      | 9, _ => rfl
      | 10, _ => rfl
      | 11, _ => rfl
      | 12, _ => rfl
      | 13, _ => rfl
      | 14, _ => rfl
      | 15, _ => rfl
      | j + 16, h => omega
    · intro i o hi
      have hi : os[i]? = some o := hi
      exact (heap_old (by repeat (first | exact Only.refl _ _ | refine Only.alloc ?_ _ | refine Only.drew ?_ _ | refine Only.set ?_ (.inr (by simp)) _)) (heo.out i (List.getElem?_eq_some_iff.1 hi).1)).trans (ho.out i o hi)
    · refine (Below.heap_alloc _ _ _ (by simp; omega)).trans ?_
      exact (Below.heap_alloc _ _ _ (by simp)).trans (new_at rfl)
    · refine (Below.heap_alloc _ _ _ (by simp)).trans ?_
      exact new_at (by simp)
    · exact Only.up (by repeat (first | exact Only.refl _ _ | refine Only.alloc ?_ _ | refine Only.drew ?_ _ | refine Only.set ?_ (.inr (by simp)) _))
  case round =>
    obtain ⟨k, hk, rfl, hR⟩ := hrel
    by_cases h16 : k < 16
    · have i0 : (0 : Int) ≤ (k : Int) := by omega
      have i1 : (k : Int) < 16 := by omega
      have hkt : k < t.length := by have := ht.out; omega
      have hck : wr.cell? ⟨tb, k, none⟩ = some (ptrO eo (t.getD k none)) :=
        (World.cell?_of_block (w := w) (hR.out.only.block tb htb (by rintro ⟨i, hi, h⟩; exact hdif.out i hi h))).trans (hc.out k h16)
      cases he : t[k] with
      | none =>
        have hkn : Hid (t[k]? = some none) := by rw [← he]; exact List.getElem?_eq_getElem hkt
        rw [show t.getD k none = none by rw [List.getD_eq_getElem?_getD, hkn.out]; rfl] at hck
        unfold ptrO at hck
        clear he
        go_wp2
        go_quiet (fail)
        go_wp2
        go_roundw
        case rel => exact ⟨k + 1, by omega, by go_num, (hR.out.none hkn.out).drew _⟩
        case measure => simp [intOf]; omega
      | some i =>
        have hkn : Hid (t[k]? = some (some i)) := by rw [← he]; exact List.getElem?_eq_getElem hkt
        rw [show t.getD k none = some i by rw [List.getD_eq_getElem?_getD, hkn.out]; rfl] at hck
        unfold ptrO at hck
        clear he
        go_wp2
        go_quiet (fail)
        go_wp2_with (fail)
        obtain ⟨cs', g1, g2, g3⟩ := hR.out.c
        have hil := hte.out k i hkn.out
        have hbl : i < (bumps (t.take k) os).length := by rw [bumps_length]; exact hil
        obtain ⟨oo, hoo⟩ : ∃ oo, (bumps (t.take k) os)[i]? = some oo := ⟨_, List.getElem?_eq_getElem hbl⟩
        have hrf : 0 ≤ oo.refs ∧ oo.refs ≤ 1000000 := by
          have h1 := hoo
          rw [bumps_get, List.getElem?_eq_getElem hil] at h1
          simp at h1
          have h2 := hr.out i _ (List.getElem?_eq_getElem hil)
          have h3 : (t.take k).count (some i) ≤ (t.take k).length := List.count_le_length
          have h4 : (t.take k).length ≤ 16 := by rw [List.length_take]; omega
          rw [← h1]
          simp only
          omega
        refine (Try.set (w.heap.size + 1 + 1) (eo i) k h16 oo.name oo.size oo.pos oo.refs cs' g2 (wr.drewN nq) (hR.out.o i oo hoo) g1 hrf).mono ?_
        rintro e w2 ⟨⟨v, rfl⟩, h1, h2, h3⟩
        have hN : Hid (ForkRel w eo t os #[.int .i64 7, .int .i64 p, .int .i64 name, .int .i64 size, .int .i64 fd, .int .i64 d, .int .i64 most] (k + 1) w2) := (hR.out.drew _).some hkn.out hil hio.out heo.out cs' g1 g2 hoo h1 h2 h3 h16
        clear h1 h2 h3 g1 g2 g3 hR hoo
        go_wp2
        go_roundw
        case rel => exact ⟨k + 1, by omega, by go_num, hN⟩
        case measure => simp [intOf]; omega
    · obtain rfl : k = 16 := by omega
      have b5 : wr.cell? ⟨w.heap.size, 5, none⟩ = some (.int .i64 d) := by simp [World.cell?, hR.out.b0]
      have hsS : Hid (wr.heap[sb]? = some (.cells arrS 46 (0, 0))) := (hR.out.only.block sb hsb (by rintro ⟨i, hi, h⟩; exact hdis.out i hi h)).trans hS.out
      have cd' : wr.cell? ⟨sb, d, none⟩ = some (.pointer none) :=
        (World.cell?_of_block (w := w) (hsS.out.trans hS.out.symm)).trans cd
      have fd' : wr.frozen? ⟨sb, d, none⟩ = false := by simp [World.frozen?, hsS.out]
      have hsz0 := hR.out.only.size
      obtain ⟨⟨c0, c1⟩, ⟨f0, f1⟩, _, hlt2⟩ := box34 hR.out.b1
      have hsbl : sb < wr.heap.size := by omega
      have hne1 : sb ≠ w.heap.size := by omega
      have hne2 : sb ≠ w.heap.size + 1 := by omega
      clear hsz0
      go_wp2
      go_still_tail 7, (by kernel_rfl)
      change wpList _ _ _ _ _ (wr.drewN 1)
      go_wp2
      have hB' : ((((wr.drewN 1).setCell ⟨sb, d, none⟩ (.pointer (some ⟨w.heap.size + 1 + 1, 0, none⟩))).setCell ⟨w.heap.size + 1, 0, none⟩ (.int .i64 0)).setCell ⟨w.heap.size + 1, 1, none⟩ (.int .i64 d)).heap[w.heap.size + 1]? = some (.cells #[.int .i64 0, .int .i64 d] 34 (0, 0)) :=
        heap_set (heap_set ((Below.heap_setCell _ _ _ _ (by first | omega | (simp; done) | (simp; omega))).trans hR.out.b1) 0 _) 1 _
      obtain ⟨⟨d0, d1⟩, _, _, _⟩ := box34 hB'
      obtain ⟨ct, t1, t2, t3⟩ := hR.out.c
      have hbump : t.take 16 = t := List.take_of_length_le (by have := ht.out; omega)
      refine bodyPost_ret (v := ansV 0 d) (by simp [results, Try.results13, go_sem, d0, d1]) rfl ⟨rfl, w.heap.size + 1 + 1, ct, by omega, ?_, t2, ?_, ?_, ?_, ?_⟩
      · rw [Below.heap_setCell _ _ _ _ (by first | omega | (simp; done) | (simp; omega)), Below.heap_setCell _ _ _ _ (by first | omega | (simp; done) | (simp; omega)), Below.heap_setCell _ _ _ _ (by first | omega | (simp; done) | (simp; omega))]; exact t1
      · intro j hj; rw [t3 j hj, if_pos hj]
      · intro i o hi
        rw [← hbump] at hi
        have hil : i < os.length := by have := (List.getElem?_eq_some_iff.1 hi).1; rwa [bumps_length] at this
        have := hdis.out i hil
        have := heo.out i hil
        rw [Below.heap_setCell _ _ _ _ (by first | omega | (simp; done) | (simp; omega)), Below.heap_setCell _ _ _ _ (by first | omega | (simp; done) | (simp; omega)), Below.heap_setCell _ _ _ _ (by first | omega | (simp; done) | (simp; omega))]; exact hR.out.o i o hi
      · rw [Below.heap_setCell _ _ _ _ (by first | omega | (simp; done) | (simp; omega)), Below.heap_setCell _ _ _ _ (by first | omega | (simp; done) | (simp; omega))]; exact heap_set hsS.out d _
      · refine Only.set (Only.set (Only.set (p := ⟨sb, d, none⟩) ((hR.out.only.mono fun k _ h => .inr h).drew 1) (.inl (.inl rfl)) _) (.inr ?_) _) (.inr ?_) _ <;> exact Nat.le_succ _
end Go.Proofs

