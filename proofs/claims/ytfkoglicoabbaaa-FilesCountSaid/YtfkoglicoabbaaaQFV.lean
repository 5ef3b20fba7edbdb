import Derived.WalkKit
import Derived.Deep.QuietTactic
import Derived.BigQuiet
import Derived.StillTailTactics
import Derived.Lib.Hide
import Derived.Test.YtfkoglicoabbaaaRows
import Derived.Test.YtfkoglicoabbaaaQFA
set_option linter.unusedVariables false
set_option linter.unusedSimpArgs false
namespace Go.Proofs
open Go.RowKit Go.Fp
def ptrO (f : Nat → Nat) : Option Nat → Value
  | none => .pointer none
  | some k => .pointer (some ⟨f k, 0, none⟩)
structure Only (S : Nat → Prop) (w w' : World) : Prop where
  os : w'.os = w.os
  tape : w'.tape = w.tape
  output : w'.output = w.output
  size : w.heap.size ≤ w'.heap.size
  block : ∀ k, k < w.heap.size → ¬ S k → w'.heap[k]? = w.heap[k]?
theorem Only.refl (S : Nat → Prop) (w : World) : Only S w w := ⟨rfl, rfl, rfl, Nat.le_refl _, fun _ _ _ => rfl⟩
theorem Only.trans {S : Nat → Prop} {a b c : World} (h : Only S a b) (k : Only S b c) : Only S a c :=
  ⟨k.os.trans h.os, k.tape.trans h.tape, k.output.trans h.output, Nat.le_trans h.size k.size, fun i hi hs => (k.block i (Nat.lt_of_lt_of_le hi h.size) hs).trans (h.block i hi hs)⟩
theorem Only.mono {S S' : Nat → Prop} {a b : World} (h : Only S a b) (hs : ∀ k, k < a.heap.size → S k → S' k) : Only S' a b :=
  ⟨h.os, h.tape, h.output, h.size, fun i hi hn => h.block i hi fun hsi => hn (hs i hi hsi)⟩
theorem Only.drew {S : Nat → Prop} {a w : World} (h : Only S a w) (n : Nat) : Only S a (w.drewN n) := ⟨h.os, h.tape, h.output, h.size, h.block⟩
theorem Only.alloc {S : Nat → Prop} {a w : World} (h : Only S a w) (o : Obj) : Only S a (w.alloc o) :=
  ⟨h.os, h.tape, h.output, by simp only [World.size_alloc]; have := h.size; omega, fun i hi hs => (Below.heap_alloc w o i (Nat.lt_of_lt_of_le hi h.size)).trans (h.block i hi hs)⟩
theorem Only.set {S : Nat → Prop} {a w : World} (h : Only S a w) {p : Addr} (hp : S p.block ∨ a.heap.size ≤ p.block) (u : Value) : Only S a (w.setCell p u) :=
  ⟨h.os, h.tape, h.output, by have := h.size; simpa [World.setCell] using this, fun i hi hs => (Below.heap_setCell w p u i (by rintro rfl; rcases hp with hp | hp; exact hs hp; omega)).trans (h.block i hi hs)⟩
theorem heap_set {w : World} {g : Nat} {cs : Array Value} {t : TypeId} {fz : Nat × Nat} (h : w.heap[g]? = some (.cells cs t fz)) (o : Nat) (u : Value) :
    (w.setCell ⟨g, o, none⟩ u).heap[g]? = some (.cells (cs.setIfInBounds o u) t fz) := by
  have hlt : g < w.heap.size := (Array.getElem?_eq_some_iff.1 h).1
  have h' : w.heap[g] = .cells cs t fz := (Array.getElem?_eq_some_iff.1 h).2
  show (w.heap.modify g _)[g]? = _
  rw [Array.getElem?_modify, if_pos rfl, Array.getElem?_eq_getElem hlt, h']; rfl
set_option maxHeartbeats 1000000 in
theorem Try.least (b : Nat) (t : Nat → Option Nat) (f : Nat → Nat) (w : World) (hc : ∀ j, j < 16 → w.cell? ⟨b, j, none⟩ = some (ptrO f (t j))) (n : Nat) (hn : n ≤ 16) (hlt : ∀ j, j < n → (t j).isSome = true) (hat : n < 16 → t n = none)
    (v : Int) (ok : Bool) (hv : (n < 16 ∧ v = n ∧ ok = true) ∨ (n = 16 ∧ v = 0 ∧ ok = false)) :
    Calls Try.prog 15 #[.pointer (some ⟨b, 0, none⟩)] w fun e w' => e = .returned (.tuple #[.int .i64 v, .bool ok]) ∧ ∃ q, w' = w.drewN q := by
  go_enter Try.func15, Try.ntmps15
  go_wp2
  go_loopw [7] (fun i wr => (∃ k : Nat, k ≤ n ∧ i = .int .i64 k) ∧ ∃ q, wr = w.drewN q) (fun i _ => 17 - (intOf i).toNat)
  case atStart => exact ⟨⟨0, Nat.zero_le _, rfl⟩, 0, rfl⟩
  case round =>
    obtain ⟨⟨k, hk, rfl⟩, q, rfl⟩ := hrel
    by_cases h16 : k < 16
    · have hck := hc k h16
      by_cases hkn : k < n
      · have hs := hlt k hkn
        obtain ⟨j, hj⟩ := Option.isSome_iff_exists.1 hs
        rw [hj] at hck
        unfold ptrO at hck
        clear hc hlt hat hs hj
        have i0 : (0 : Int) ≤ (k : Int) := by omega
        have i1 : (k : Int) < 16 := by omega
        go_wp2
        go_quiet (fail)
        go_wp2
        go_roundw
        case rel => exact ⟨⟨k + 1, by omega, by go_num⟩, _, rfl⟩
        case measure => simp [intOf]; omega
      · have hkn' : k = n := by omega
        subst hkn'
        rw [hat h16] at hck
        unfold ptrO at hck
        clear hc hlt hat
        have i0 : (0 : Int) ≤ (k : Int) := by omega
        have i1 : (k : Int) < 16 := by omega
        obtain ⟨rfl, rfl⟩ : v = k ∧ ok = true := by rcases hv with ⟨_, h1, h2⟩ | ⟨h1, _⟩ <;> first | exact ⟨h1, h2⟩ | omega
        clear hv
        go_wp2
        go_quiet (fail)
        go_wp2
        go_ret2
        exact ⟨rfl, _, rfl⟩
    · have hn16 : n = 16 := by omega
      subst hn16
      obtain ⟨rfl, rfl⟩ : v = 0 ∧ ok = false := by rcases hv with ⟨h1, _⟩ | ⟨_, h1, h2⟩ <;> first | exact ⟨h1, h2⟩ | omega
      clear hv
      go_wp2
      go_ret2
      exact ⟨rfl, _, rfl⟩
set_option maxHeartbeats 1000000 in
theorem Try.set (b ob fd : Nat) (hfd : fd < 16) (n s p r : Int) (cs : Array Value) (hcs : cs.size = 16) (w : World) (ho : w.heap[ob]? = some (.cells #[.int .i64 n, .int .i64 s, .int .i64 p, .int .i64 r] 52 (0, 0)))
    (hb : w.heap[b]? = some (.cells cs 49 (0, 0))) (hr : 0 ≤ r ∧ r ≤ 1000000) :
    Calls Try.prog 16 #[.pointer (some ⟨b, 0, none⟩), .int .i64 fd, .pointer (some ⟨ob, 0, none⟩)] w fun e w' => (∃ v, e = .returned v) ∧
      w'.heap[ob]? = some (.cells #[.int .i64 n, .int .i64 s, .int .i64 p, .int .i64 (r + 1)] 52 (0, 0)) ∧ w'.heap[b]? = some (.cells (cs.setIfInBounds fd (.pointer (some ⟨ob, 0, none⟩))) 49 (0, 0)) ∧ Only (fun k => k = ob ∨ k = b) w w' := by
  have c3 : w.cell? ⟨ob, 3, none⟩ = some (.int .i64 r) := by simp [World.cell?, ho]
  have f3 : w.frozen? ⟨ob, 3, none⟩ = false := by simp [World.frozen?, ho]
  have cf : ∃ v, w.cell? ⟨b, fd, none⟩ = some v := by rw [show w.cell? ⟨b, fd, none⟩ = cs[fd]? by simp [World.cell?, hb]]; exact ⟨_, Array.getElem?_eq_getElem (by omega)⟩
  have ff : w.frozen? ⟨b, fd, none⟩ = false := by simp [World.frozen?, hb]
  obtain ⟨v0, cf⟩ := cf
  have hne : ob ≠ b := by rintro rfl; rw [ho] at hb; simp at hb
  have i0 : (0 : Int) ≤ (fd : Int) := by omega
  have i1 : (fd : Int) < 16 := by omega
  go_enter Try.func16, Try.ntmps16
  go_wp2
  refine bodyPost_end (v := _) (by simp [results, Try.results16, go_sem]; rfl) rfl ⟨⟨_, rfl⟩, ?_, ?_, ?_⟩
  · rw [Below.heap_setCell _ _ _ _ hne]
    exact heap_set ho 3 _
  · refine heap_set ?_ fd _
    rw [Below.heap_setCell _ _ _ _ (fun e => hne e.symm)]; exact hb
  · exact ((Only.refl _ _).set (.inl (.inl rfl)) _).set (.inl (.inr rfl)) _
set_option maxHeartbeats 1000000 in
theorem Try.drop_none (b fd : Nat) (hfd : fd < 16) (w : World) (cf : w.cell? ⟨b, fd, none⟩ = some (.pointer none)) :
    Calls Try.prog 17 #[.pointer (some ⟨b, 0, none⟩), .int .i64 fd] w fun e w' => (∃ v, e = .returned v) ∧ ∃ q, w' = w.drewN q := by
  have i0 : (0 : Int) ≤ (fd : Int) := by omega
  have i1 : (fd : Int) < 16 := by omega
  go_enter Try.func17, Try.ntmps17
  go_wp2
  exact bodyPost_end (v := _) (by simp [results, Try.results17, go_sem]; rfl) rfl ⟨⟨_, rfl⟩, 0, rfl⟩
set_option maxHeartbeats 1000000 in
theorem Try.drop_some (b ob fd : Nat) (hfd : fd < 16) (n s p r : Int) (cs : Array Value) (hcs : cs.size = 16) (w : World) (ho : w.heap[ob]? = some (.cells #[.int .i64 n, .int .i64 s, .int .i64 p, .int .i64 r] 52 (0, 0)))
    (hb : w.heap[b]? = some (.cells cs 49 (0, 0))) (hr : 0 ≤ r ∧ r ≤ 1000000) (hcf : cs[fd]? = some (.pointer (some ⟨ob, 0, none⟩))) :
    Calls Try.prog 17 #[.pointer (some ⟨b, 0, none⟩), .int .i64 fd] w fun e w' => (∃ v, e = .returned v) ∧
      w'.heap[ob]? = some (.cells #[.int .i64 n, .int .i64 s, .int .i64 p, .int .i64 (r - 1)] 52 (0, 0)) ∧ w'.heap[b]? = some (.cells (cs.setIfInBounds fd (.pointer none)) 49 (0, 0)) ∧ Only (fun k => k = ob ∨ k = b) w w' := by
  have c3 : w.cell? ⟨ob, 3, none⟩ = some (.int .i64 r) := by simp [World.cell?, ho]
  have f3 : w.frozen? ⟨ob, 3, none⟩ = false := by simp [World.frozen?, ho]
  have cf : w.cell? ⟨b, fd, none⟩ = some (.pointer (some ⟨ob, 0, none⟩)) := by simp [World.cell?, hb, hcf]
  have ff : w.frozen? ⟨b, fd, none⟩ = false := by simp [World.frozen?, hb]
  have hne : ob ≠ b := by rintro rfl; rw [ho] at hb; simp at hb
  have i0 : (0 : Int) ≤ (fd : Int) := by omega
  have i1 : (fd : Int) < 16 := by omega
  obtain ⟨r0, r1⟩ := hr
  clear hcf
  go_enter Try.func17, Try.ntmps17
  go_wp2
  refine bodyPost_end (v := _) (by simp [results, Try.results17, go_sem]; rfl) rfl ⟨⟨_, rfl⟩, ?_, ?_, ?_⟩
  · rw [Below.heap_setCell _ _ _ _ hne]
    exact heap_set ho 3 _
  · refine heap_set ?_ fd _
    rw [Below.heap_setCell _ _ _ _ (fun e => hne e.symm)]; exact hb
  · exact ((Only.refl _ _).set (.inl (.inl rfl)) _).set (.inl (.inr rfl)) _
end Go.Proofs
namespace Go.Proofs
open Go.RowKit Go.Fp
abbrev ansV (e v : Int) : Value := .agg #[.int .i64 e, .int .i64 v]
set_option maxHeartbeats 1000000 in
theorem Try.fails (e : Int) (w : World) : Calls Try.prog 14 #[.int .i64 e] w fun x w' => x = .returned (.agg #[.int .i64 e, .int .i64 0]) ∧ w' = w.alloc (.cells #[.int .i64 e, .int .i64 0] 34) := by
  go_enter Try.func14, Try.ntmps14
  go_wp2
  exact bodyPost_ret (v := ansV e 0) (by simp [results, Try.results14, go_sem, ansV]) rfl ⟨rfl, rfl⟩
set_option maxRecDepth 100000 in
set_option maxHeartbeats 4000000 in
theorem Try.do_kind0 (sb : Nat) (kind proc name size fd dst most : Int) (w : World) (hk : kind < 1) :
    Calls Try.prog 13 #[.pointer (some ⟨sb, 0, none⟩), .agg #[.int .i64 kind, .int .i64 proc, .int .i64 name, .int .i64 size, .int .i64 fd, .int .i64 dst, .int .i64 most]] w fun x w' => x = .returned (ansV 5 0) ∧ Only (fun _ => False) w w' := by
  have hb : decide (kind < 1) = true := by simp [hk]
  go_enter Try.func13, Try.ntmps13
  go_wp2_with (go_at_call 14; refine (Try.fails _ _).mono ?_; rintro e w' ⟨rfl, rfl⟩)
  exact bodyPost_ret (v := ansV 5 0) (by simp [results, Try.results13, go_sem]) rfl ⟨rfl, by repeat (first | exact Only.refl _ _ | refine Only.alloc ?_ _ | refine Only.drew ?_ _ | refine Only.set ?_ (.inr (by simp)) _)⟩
set_option maxRecDepth 100000 in
set_option maxHeartbeats 4000000 in
theorem Try.do_kind8 (sb : Nat) (kind proc name size fd dst most : Int) (w : World) (hk : 7 < kind) :
    Calls Try.prog 13 #[.pointer (some ⟨sb, 0, none⟩), .agg #[.int .i64 kind, .int .i64 proc, .int .i64 name, .int .i64 size, .int .i64 fd, .int .i64 dst, .int .i64 most]] w fun x w' => x = .returned (ansV 5 0) ∧ Only (fun _ => False) w w' := by
  have hb : decide (kind < 1) = false := by simp; omega
  have hb1 : decide (kind > 7) = true := by simp; omega
  go_enter Try.func13, Try.ntmps13
  go_wp2_with (go_at_call 14; refine (Try.fails _ _).mono ?_; rintro e w' ⟨rfl, rfl⟩)
  exact bodyPost_ret (v := ansV 5 0) (by simp [results, Try.results13, go_sem]) rfl ⟨rfl, by repeat (first | exact Only.refl _ _ | refine Only.alloc ?_ _ | refine Only.drew ?_ _ | refine Only.set ?_ (.inr (by simp)) _)⟩
set_option maxRecDepth 100000 in
set_option maxHeartbeats 4000000 in
theorem Try.do_proc0 (sb : Nat) (kind proc name size fd dst most : Int) (w : World) (hk0 : ¬ kind < 1) (hk1 : ¬ 7 < kind) (hp : proc < 0) :
    Calls Try.prog 13 #[.pointer (some ⟨sb, 0, none⟩), .agg #[.int .i64 kind, .int .i64 proc, .int .i64 name, .int .i64 size, .int .i64 fd, .int .i64 dst, .int .i64 most]] w fun x w' => x = .returned (ansV 3 0) ∧ Only (fun _ => False) w w' := by
  have hb0 : decide (kind < 1) = false := by simp; omega
  have hb1 : decide (kind > 7) = false := by simp; omega
  have hb2 : decide (proc < 0) = true := by simp [hp]
  go_enter Try.func13, Try.ntmps13
  go_wp2_with (go_at_call 14; refine (Try.fails _ _).mono ?_; rintro e w' ⟨rfl, rfl⟩)
  go_quiet (fail)
  go_wp2_with (go_at_call 14; refine (Try.fails _ _).mono ?_; rintro e w' ⟨rfl, rfl⟩)
  exact bodyPost_ret (v := ansV 3 0) (by simp [results, Try.results13, go_sem]) rfl ⟨rfl, by repeat (first | exact Only.refl _ _ | refine Only.alloc ?_ _ | refine Only.drew ?_ _ | refine Only.set ?_ (.inr (by simp)) _)⟩
set_option maxRecDepth 100000 in
set_option maxHeartbeats 4000000 in
theorem Try.do_proc4 (sb : Nat) (kind proc name size fd dst most : Int) (w : World) (hk0 : ¬ kind < 1) (hk1 : ¬ 7 < kind) (hp : 4 ≤ proc) :
    Calls Try.prog 13 #[.pointer (some ⟨sb, 0, none⟩), .agg #[.int .i64 kind, .int .i64 proc, .int .i64 name, .int .i64 size, .int .i64 fd, .int .i64 dst, .int .i64 most]] w fun x w' => x = .returned (ansV 3 0) ∧ Only (fun _ => False) w w' := by
  have hb0 : decide (kind < 1) = false := by simp; omega
  have hb1 : decide (kind > 7) = false := by simp; omega
  have hb2 : decide (proc < 0) = false := by simp; omega
  have hb3 : decide (proc ≥ 4) = true := by simp; omega
  go_enter Try.func13, Try.ntmps13
  go_wp2_with (go_at_call 14; refine (Try.fails _ _).mono ?_; rintro e w' ⟨rfl, rfl⟩)
  go_quiet (fail)
  go_wp2_with (go_at_call 14; refine (Try.fails _ _).mono ?_; rintro e w' ⟨rfl, rfl⟩)
  exact bodyPost_ret (v := ansV 3 0) (by simp [results, Try.results13, go_sem]) rfl ⟨rfl, by repeat (first | exact Only.refl _ _ | refine Only.alloc ?_ _ | refine Only.drew ?_ _ | refine Only.set ?_ (.inr (by simp)) _)⟩
set_option maxRecDepth 100000 in
set_option maxHeartbeats 4000000 in
theorem Try.do_nobody (sb p : Nat) (kind name size fd dst most : Int) (w : World) (hk0 : ¬ kind < 1) (hk1 : ¬ 7 < kind) (hp : p < 4) (hsb : sb < w.heap.size) (cs : w.cell? ⟨sb, p, none⟩ = some (.pointer none)) :
    Calls Try.prog 13 #[.pointer (some ⟨sb, 0, none⟩), .agg #[.int .i64 kind, .int .i64 p, .int .i64 name, .int .i64 size, .int .i64 fd, .int .i64 dst, .int .i64 most]] w fun x w' => x = .returned (ansV 3 0) ∧ Only (fun _ => False) w w' := by
  have hb0 : decide (kind < 1) = false := by simp; omega
  have hb1 : decide (kind > 7) = false := by simp; omega
  have hp0 : (0 : Int) ≤ p := by omega
  have hp1 : (p : Int) < 4 := by omega
  have hb2 : decide ((p : Int) < 0) = false := by simp
  have hb3 : decide ((p : Int) ≥ 4) = false := by simp; omega
  go_enter Try.func13, Try.ntmps13
  go_wp2_with (go_at_call 14; refine (Try.fails _ _).mono ?_; rintro e w' ⟨rfl, rfl⟩)
  go_quiet (fail)
  go_wp2_with (go_at_call 14; refine (Try.fails _ _).mono ?_; rintro e w' ⟨rfl, rfl⟩)
  exact bodyPost_ret (v := ansV 3 0) (by simp [results, Try.results13, go_sem]) rfl ⟨rfl, by repeat (first | exact Only.refl _ _ | refine Only.alloc ?_ _ | refine Only.drew ?_ _ | refine Only.set ?_ (.inr (by simp)) _)⟩
set_option maxRecDepth 100000 in
set_option maxHeartbeats 4000000 in
theorem Try.open_size0 (sb tb p : Nat) (name size fd dst most : Int) (w : World) (hp : p < 4) (hsb : sb < w.heap.size) (cs : w.cell? ⟨sb, p, none⟩ = some (.pointer (some ⟨tb, 0, none⟩))) (hs : size < 0) :
    Calls Try.prog 13 #[.pointer (some ⟨sb, 0, none⟩), .agg #[.int .i64 1, .int .i64 p, .int .i64 name, .int .i64 size, .int .i64 fd, .int .i64 dst, .int .i64 most]] w fun x w' => x = .returned (ansV 2 0) ∧ Only (fun _ => False) w w' := by
  have hp0 : (0 : Int) ≤ p := by omega
  have hp1 : (p : Int) < 4 := by omega
  have hb2 : decide ((p : Int) < 0) = false := by simp
  have hb3 : decide ((p : Int) ≥ 4) = false := by simp; omega
  have hb4 : decide (size < 0) = true := by simp [hs]
  go_enter Try.func13, Try.ntmps13
  go_wp2_with (go_at_call 14; refine (Try.fails _ _).mono ?_; rintro e w' ⟨rfl, rfl⟩)
  go_quiet (fail)
  go_wp2_with (go_at_call 14; refine (Try.fails _ _).mono ?_; rintro e w' ⟨rfl, rfl⟩)
  go_quiet (fail)
  go_wp2_with (go_at_call 14; refine (Try.fails _ _).mono ?_; rintro e w' ⟨rfl, rfl⟩)
  exact bodyPost_ret (v := ansV 2 0) (by simp [results, Try.results13, go_sem]) rfl ⟨rfl, by repeat (first | exact Only.refl _ _ | refine Only.alloc ?_ _ | refine Only.drew ?_ _ | refine Only.set ?_ (.inr (by simp)) _)⟩
set_option maxRecDepth 100000 in
set_option maxHeartbeats 4000000 in
theorem Try.open_size1 (sb tb p : Nat) (name size fd dst most : Int) (w : World) (hp : p < 4) (hsb : sb < w.heap.size) (cs : w.cell? ⟨sb, p, none⟩ = some (.pointer (some ⟨tb, 0, none⟩))) (hs : 1099511627776 < size) :
    Calls Try.prog 13 #[.pointer (some ⟨sb, 0, none⟩), .agg #[.int .i64 1, .int .i64 p, .int .i64 name, .int .i64 size, .int .i64 fd, .int .i64 dst, .int .i64 most]] w fun x w' => x = .returned (ansV 2 0) ∧ Only (fun _ => False) w w' := by
  have hp0 : (0 : Int) ≤ p := by omega
  have hp1 : (p : Int) < 4 := by omega
  have hb2 : decide ((p : Int) < 0) = false := by simp
  have hb3 : decide ((p : Int) ≥ 4) = false := by simp; omega
  have hb4 : decide (size < 0) = false := by simp; omega
  have hb5 : decide (size > 1099511627776) = true := by simp; omega
  go_enter Try.func13, Try.ntmps13
  go_wp2_with (go_at_call 14; refine (Try.fails _ _).mono ?_; rintro e w' ⟨rfl, rfl⟩)
  go_quiet (fail)
  go_wp2_with (go_at_call 14; refine (Try.fails _ _).mono ?_; rintro e w' ⟨rfl, rfl⟩)
  go_quiet (fail)
  go_wp2_with (go_at_call 14; refine (Try.fails _ _).mono ?_; rintro e w' ⟨rfl, rfl⟩)
  exact bodyPost_ret (v := ansV 2 0) (by simp [results, Try.results13, go_sem]) rfl ⟨rfl, by repeat (first | exact Only.refl _ _ | refine Only.alloc ?_ _ | refine Only.drew ?_ _ | refine Only.set ?_ (.inr (by simp)) _)⟩
set_option maxRecDepth 100000 in
set_option maxHeartbeats 4000000 in
theorem Try.fork_dst0 (sb tb p : Nat) (name size fd dst most : Int) (w : World) (hp : p < 4) (hsb : sb < w.heap.size) (cs : w.cell? ⟨sb, p, none⟩ = some (.pointer (some ⟨tb, 0, none⟩))) (hs : dst < 0) :
    Calls Try.prog 13 #[.pointer (some ⟨sb, 0, none⟩), .agg #[.int .i64 7, .int .i64 p, .int .i64 name, .int .i64 size, .int .i64 fd, .int .i64 dst, .int .i64 most]] w fun x w' => x = .returned (ansV 6 0) ∧ Only (fun _ => False) w w' := by
  have hp0 : (0 : Int) ≤ p := by omega
  have hp1 : (p : Int) < 4 := by omega
  have hb2 : decide ((p : Int) < 0) = false := by simp
  have hb3 : decide ((p : Int) ≥ 4) = false := by simp; omega
  have hb4 : decide (dst < 0) = true := by simp [hs]
  go_enter Try.func13, Try.ntmps13
  go_wp2_with (go_at_call 14; refine (Try.fails _ _).mono ?_; rintro e w' ⟨rfl, rfl⟩)
  go_quiet (fail)
  go_wp2_with (go_at_call 14; refine (Try.fails _ _).mono ?_; rintro e w' ⟨rfl, rfl⟩)
  go_quiet (fail)
  go_wp2_with (go_at_call 14; refine (Try.fails _ _).mono ?_; rintro e w' ⟨rfl, rfl⟩)
  go_quiet (fail)
  go_wp2_with (go_at_call 14; refine (Try.fails _ _).mono ?_; rintro e w' ⟨rfl, rfl⟩)
  exact bodyPost_ret (v := ansV 6 0) (by simp [results, Try.results13, go_sem]) rfl ⟨rfl, by repeat (first | exact Only.refl _ _ | refine Only.alloc ?_ _ | refine Only.drew ?_ _ | refine Only.set ?_ (.inr (by simp)) _)⟩
set_option maxRecDepth 100000 in
set_option maxHeartbeats 4000000 in
theorem Try.fork_dst4 (sb tb p : Nat) (name size fd dst most : Int) (w : World) (hp : p < 4) (hsb : sb < w.heap.size) (cs : w.cell? ⟨sb, p, none⟩ = some (.pointer (some ⟨tb, 0, none⟩))) (hs : 4 ≤ dst) :
    Calls Try.prog 13 #[.pointer (some ⟨sb, 0, none⟩), .agg #[.int .i64 7, .int .i64 p, .int .i64 name, .int .i64 size, .int .i64 fd, .int .i64 dst, .int .i64 most]] w fun x w' => x = .returned (ansV 6 0) ∧ Only (fun _ => False) w w' := by
  have hp0 : (0 : Int) ≤ p := by omega
  have hp1 : (p : Int) < 4 := by omega
  have hb2 : decide ((p : Int) < 0) = false := by simp
  have hb3 : decide ((p : Int) ≥ 4) = false := by simp; omega
  have hb4 : decide (dst < 0) = false := by simp; omega
  have hb5 : decide (dst ≥ 4) = true := by simp; omega
  go_enter Try.func13, Try.ntmps13
  go_wp2_with (go_at_call 14; refine (Try.fails _ _).mono ?_; rintro e w' ⟨rfl, rfl⟩)
  go_quiet (fail)
  go_wp2_with (go_at_call 14; refine (Try.fails _ _).mono ?_; rintro e w' ⟨rfl, rfl⟩)
  go_quiet (fail)
  go_wp2_with (go_at_call 14; refine (Try.fails _ _).mono ?_; rintro e w' ⟨rfl, rfl⟩)
  go_quiet (fail)
  go_wp2_with (go_at_call 14; refine (Try.fails _ _).mono ?_; rintro e w' ⟨rfl, rfl⟩)
  exact bodyPost_ret (v := ansV 6 0) (by simp [results, Try.results13, go_sem]) rfl ⟨rfl, by repeat (first | exact Only.refl _ _ | refine Only.alloc ?_ _ | refine Only.drew ?_ _ | refine Only.set ?_ (.inr (by simp)) _)⟩
set_option maxRecDepth 100000 in
set_option maxHeartbeats 4000000 in
theorem Try.fork_held (sb tb p d : Nat) (name size fd most : Int) (cb : Nat) (w : World) (hp : p < 4) (hsb : sb < w.heap.size) (cs : w.cell? ⟨sb, p, none⟩ = some (.pointer (some ⟨tb, 0, none⟩))) (hd : d < 4) (cd : w.cell? ⟨sb, d, none⟩ = some (.pointer (some ⟨cb, 0, none⟩))) :
    Calls Try.prog 13 #[.pointer (some ⟨sb, 0, none⟩), .agg #[.int .i64 7, .int .i64 p, .int .i64 name, .int .i64 size, .int .i64 fd, .int .i64 d, .int .i64 most]] w fun x w' => x = .returned (ansV 6 0) ∧ Only (fun _ => False) w w' := by
  have hp0 : (0 : Int) ≤ p := by omega
  have hp1 : (p : Int) < 4 := by omega
  have hb2 : decide ((p : Int) < 0) = false := by simp
  have hb3 : decide ((p : Int) ≥ 4) = false := by simp; omega
  have hb4 : decide ((d : Int) < 0) = false := by simp
  have hb5 : decide ((d : Int) ≥ 4) = false := by simp; omega
  have hd0 : (0 : Int) ≤ d := by omega
  have hd1 : (d : Int) < 4 := by omega
  go_enter Try.func13, Try.ntmps13
  go_wp2_with (go_at_call 14; refine (Try.fails _ _).mono ?_; rintro e w' ⟨rfl, rfl⟩)
  go_quiet (fail)
  go_wp2_with (go_at_call 14; refine (Try.fails _ _).mono ?_; rintro e w' ⟨rfl, rfl⟩)
  go_quiet (fail)
  go_wp2_with (go_at_call 14; refine (Try.fails _ _).mono ?_; rintro e w' ⟨rfl, rfl⟩)
  go_quiet (fail)
  go_wp2_with (go_at_call 14; refine (Try.fails _ _).mono ?_; rintro e w' ⟨rfl, rfl⟩)
  exact bodyPost_ret (v := ansV 6 0) (by simp [results, Try.results13, go_sem]) rfl ⟨rfl, by repeat (first | exact Only.refl _ _ | refine Only.alloc ?_ _ | refine Only.drew ?_ _ | refine Only.set ?_ (.inr (by simp)) _)⟩
set_option maxRecDepth 100000 in
set_option maxHeartbeats 4000000 in
theorem Try.fd0 (sb tb p : Nat) (kind name size fd dst most : Int) (w : World) (hk0 : ¬ kind < 1) (hk1 : ¬ 7 < kind) (hk2 : kind ≠ 1) (hk3 : kind ≠ 7) (hp : p < 4) (hsb : sb < w.heap.size) (cs : w.cell? ⟨sb, p, none⟩ = some (.pointer (some ⟨tb, 0, none⟩))) (hs : fd < 0) :
    Calls Try.prog 13 #[.pointer (some ⟨sb, 0, none⟩), .agg #[.int .i64 kind, .int .i64 p, .int .i64 name, .int .i64 size, .int .i64 fd, .int .i64 dst, .int .i64 most]] w fun x w' => x = .returned (ansV 3 0) ∧ Only (fun _ => False) w w' := by
  have hb0 : decide (kind < 1) = false := by simp; omega
  have hb1 : decide (kind > 7) = false := by simp; omega
  have hb6 : decide (kind = 1) = false := by simp [hk2]
  have hb7 : decide (kind = 7) = false := by simp [hk3]
  have hp0 : (0 : Int) ≤ p := by omega
  have hp1 : (p : Int) < 4 := by omega
  have hb2 : decide ((p : Int) < 0) = false := by simp
  have hb3 : decide ((p : Int) ≥ 4) = false := by simp; omega
  have hb4 : decide (fd < 0) = true := by simp [hs]
  go_enter Try.func13, Try.ntmps13
  go_wp2_with (go_at_call 14; refine (Try.fails _ _).mono ?_; rintro e w' ⟨rfl, rfl⟩)
  go_quiet (fail)
  go_wp2_with (go_at_call 14; refine (Try.fails _ _).mono ?_; rintro e w' ⟨rfl, rfl⟩)
  go_quiet (fail)
  go_wp2_with (go_at_call 14; refine (Try.fails _ _).mono ?_; rintro e w' ⟨rfl, rfl⟩)
  go_quiet (fail)
  go_wp2_with (go_at_call 14; refine (Try.fails _ _).mono ?_; rintro e w' ⟨rfl, rfl⟩)
  exact bodyPost_ret (v := ansV 3 0) (by simp [results, Try.results13, go_sem]) rfl ⟨rfl, by repeat (first | exact Only.refl _ _ | refine Only.alloc ?_ _ | refine Only.drew ?_ _ | refine Only.set ?_ (.inr (by simp)) _)⟩
theorem box34 {w2 : World} {b : Nat} {x y : Value} (h : w2.heap[b]? = some (.cells #[x, y] 34 (0, 0))) :
    (w2.cell? ⟨b, 0, none⟩ = some x ∧ w2.cell? ⟨b, 1, none⟩ = some y) ∧ (w2.frozen? ⟨b, 0, none⟩ = false ∧ w2.frozen? ⟨b, 1, none⟩ = false) ∧ w2.shape? b = some (34, 2) ∧ b < w2.heap.size := by
  refine ⟨⟨by simp [World.cell?, h], by simp [World.cell?, h]⟩, ⟨by simp [World.frozen?, h], by simp [World.frozen?, h]⟩, by simp [World.shape?, h], (Array.getElem?_eq_some_iff.1 h).1⟩
theorem cell_old {w w' : World} (h : Only (fun _ => False) w w') {b : Nat} (hb : b < w.heap.size) (j : Nat) : w'.cell? ⟨b, j, none⟩ = w.cell? ⟨b, j, none⟩ := World.cell?_of_block (w := w) (h.block b hb id)
theorem new_at {W : World} {o : Obj} {k : Nat} (h : k = W.heap.size) : (W.alloc o).heap[k]? = some o := by rw [h]; show (W.heap.push o)[W.heap.size]? = some o; simp
theorem only_via {a b c : World} {S S' : Nat → Prop} (h : Only (fun _ => False) a b) (k : Only S' b c) (hs : ∀ k, k < a.heap.size → S' k → S k) : Only S a c :=
  ⟨k.os.trans h.os, k.tape.trans h.tape, k.output.trans h.output, Nat.le_trans h.size k.size, fun i hi hn => (k.block i (Nat.lt_of_lt_of_le hi h.size) fun hx => hn (hs i hi hx)).trans (h.block i hi id)⟩
theorem heap_old {w w' : World} (h : Only (fun _ => False) w w') {b : Nat} (hb : b < w.heap.size) : w'.heap[b]? = w.heap[b]? := h.block b hb id
end Go.Proofs

