/- Collect(Values(xs)) at structs of two, at this seat. -/
import Derived.Shelf.SlIterI.Sorted
import Derived.Shelf.Slices.In.SortNone
import Derived.Test.YtkccegeejlbhnaaAbYv
import Derived.Test.YtkccegeejlbhnaaRows
namespace Go.Proofs
open Go.RowKit Go.Maps Go.Sort Go.Shelf
open Go.Ab (cl2)

set_option maxRecDepth 100000 in
set_option maxHeartbeats 2000000 in
theorem Try.vals2_in (n : Nat) (hn : 1 ≤ n) (l g o b off cap : Nat) (xs : List (Int × Int)) (hbig : xs.length ≤ 140737488355328) (w0 W : World) (J : List (Int × Int) → World → Prop)
    (hgl : g < w0.heap.size) (hbl : 0 < xs.length → b < w0.heap.size) (a : Option Addr) (ha : 0 < xs.length → a = some ⟨b, off, none⟩)
    (hp : w0.cell? ⟨g, o, none⟩ = some (.slice a xs.length cap)) (hc : ∀ j, j < xs.length → w0.cell? ⟨b, off + j * 2, none⟩ = some (.int .i64 (xs.getD j (0, 0)).1) ∧ w0.cell? ⟨b, off + j * 2 + 1, none⟩ = some (.int .i64 (xs.getD j (0, 0)).2))
    (hJb : ∀ pre W, J pre W → Below w0.heap.size w0 W) (hJa : ∀ pre W ob, J pre W → J pre (W.alloc ob))
    (hY : ∀ pre x W1, J pre W1 → pre.length < xs.length → YieldAt Fence.wide (n - 1) Try.prog l #[.agg #[.int .i64 x.1, .int .i64 x.2]] W1 fun e W' => e = .returned (.bool true) ∧ J (pre ++ [x]) W')
    (h0 : J [] W) : CallsIn Fence.wide n Try.prog 44 #[.func (.yield l) #[] #[], .pointer (some ⟨g, o, none⟩)] W fun e W' => (∃ v, e = .returned v) ∧ J xs W' := by
  have hpW : W.cell? ⟨g, o, none⟩ = some (.slice a xs.length cap) := ((hJb _ _ h0).cell (p := ⟨g, o, none⟩) hgl).trans hp
  refine callsIn_of_wp Try.func44 rfl trivial ?_ rfl
  simp only [Try.ntmps44, List.size_toArray, List.length_cons, List.length_nil, Nat.reduceAdd, Nat.reduceSub, Array.replicate_succ, Array.replicate_zero, List.push_toArray, List.append_toArray, List.nil_append, List.cons_append]
  gi_wp2
  gi_loopg [7] xs.length (fun gg s7 wr => ∃ k : Nat, k ≤ xs.length ∧ xs.length - k ≤ gg ∧ s7 = .int .i64 k ∧ J (xs.take k) wr)
  case atStart => exact ⟨0, Nat.zero_le _, by omega, rfl, by simpa using h0⟩
  case round =>
    obtain ⟨k, hk, hg, rfl, hJ⟩ := hrel
    by_cases hlt : k < xs.length
    · obtain rfl := ha (by omega)
      have ck1 : wr.cell? ⟨b, off + k * 2, none⟩ = some (.int .i64 (xs.getD k (0, 0)).1) := ((hJb _ _ hJ).cell (p := ⟨b, off + k * 2, none⟩) (hbl (by omega))).trans (hc k hlt).1
      have ck2 : wr.cell? ⟨b, off + k * 2 + 1, none⟩ = some (.int .i64 (xs.getD k (0, 0)).2) := ((hJb _ _ hJ).cell (p := ⟨b, off + k * 2 + 1, none⟩) (hbl (by omega))).trans (hc k hlt).2
      have hY' := hY (xs.take k) (xs.getD k (0, 0))
      have hnx : xs.take k ++ [xs.getD k (0, 0)] = xs.take (k + 1) := by
        rw [List.take_succ_eq_append_getElem hlt]; simp [List.getD_eq_getElem?_getD, hlt]
      rw [hnx] at hY'
      have hlk : (xs.take k).length < xs.length := by simp; omega
      clear hc hY hnx
      generalize (xs.getD k (0, 0)).1 = y1 at ck1 hY'
      generalize (xs.getD k (0, 0)).2 = y2 at ck2 hY'
      obtain ⟨fn, tmps, assign, body, hy, hR⟩ := hY' (wr.alloc (.cells #[.int .i64 y1, .int .i64 y2] 38)) (hJa _ _ _ hJ) hlk
      gi_wp2
      refine hR.mono ?_
      rintro e W3 ⟨rfl, hJ3⟩
      gi_wp2
      gi_roundg (xs.length - (k + 1))
      case measure => omega
      case rel => exact ⟨k + 1, by omega, Nat.le_refl _, by go_num, hJ3⟩
    · gi_wp2
      go_end0
      have : xs.take k = xs := List.take_of_length_le (by omega)
      rw [this] at hJ
      exact ⟨⟨_, rfl⟩, hJ⟩

def Try.ap2Assign : Code := (Code.region 2 #[{ dst := some 5, op := Op.alloc 38, type := 0, pos := "iter.go:51", after := #[], guard := none }, { dst := none, op := Op.store 38 (Operand.tmp 5) (Operand.tmp 7), type := 0, pos := "iter.go:51", after := #[{ on := 0, ground := Ground.data }, { on := 0, ground := Ground.phase }], guard := none }] false)
def Try.ap2Body : Code := (Code.block 1 (Code.region 3 #[{ dst := some 8, op := Op.load 33 (Operand.tmp 2), type := 33, pos := "iter.go:52", after := #[], guard := none }, { dst := some 9, op := Op.load 38 (Operand.tmp 5), type := 38, pos := "iter.go:52", after := #[], guard := none }, { dst := some 10, op := Op.buildSlice 33 1 #[(0, Operand.tmp 9)], type := 33, pos := "iter.go:52", after := #[{ on := 1, ground := Ground.data }], guard := none }, { dst := some 11, op := Op.call { callee := Callee.builtin Builtin.append, args := #[Operand.tmp 8, Operand.tmp 10], argTypes := #[33, 33] }, type := 33, pos := "iter.go:52", after := #[{ on := 0, ground := Ground.data }, { on := 2, ground := Ground.data }], guard := none }, { dst := none, op := Op.store 33 (Operand.tmp 2) (Operand.tmp 11), type := 0, pos := "iter.go:52", after := #[{ on := 3, ground := Ground.data }, { on := 3, ground := Ground.chain }, { on := 0, ground := Ground.phase }, { on := 1, ground := Ground.phase }, { on := 2, ground := Ground.phase }, { on := 3, ground := Ground.phase }], guard := none }] false))
def Try.ap2Rec (fn : FuncId) (sv : Value) (B D : Nat) (st : LoopState) : Loop := { state := st, pending := none, fn, tmps := #[.slice none 0 0, sv, .pointer (some ⟨B, 0, none⟩), undef, .slice none 0 0, undef, sv, undef, undef, undef, undef, undef, undef], params := #[7], assign := Try.ap2Assign, body := Try.ap2Body, defers := D }

/-- Between two rounds. -/
structure Try.Ap2 (w0 : World) (fn : FuncId) (sv : Value) (B l D : Nat) (ss : List (Int × Int)) (W : World) : Prop where
  box : ∃ v, W.heap[B]? = some (.cells #[v] 33 (0, 0)) ∧ W.ownsRow w0.heap.size 38 2 v ss.length (cl2 ss) ∧ (v = .slice none 0 0 ↔ ss = [])
  L : W.heap[l]? = some (.loop (Try.ap2Rec fn sv B D .ready))
  K : W.heap[D]? = some (.deferred (some []))
  below : Below w0.heap.size w0 W

set_option maxRecDepth 100000 in
set_option maxHeartbeats 4000000 in
theorem Try.ap2Yield (m : Nat) (w0 : World) (fn : FuncId) (sv : Value) (B l D : Nat) (hBl : B ≠ l) (hDl : D ≠ l) (hDB : D ≠ B) (h0B : w0.heap.size ≤ B) (h0l : w0.heap.size ≤ l)
    (N : Nat) (hN : N ≤ maxLen) (hNb : N * 16 ≤ 140737488355328) (ss : List (Int × Int)) (x : Int × Int) (W : World) (h : Try.Ap2 w0 fn sv B l D ss W) (hlen : ss.length < N) :
    YieldAt Fence.wide m Try.prog l #[.agg #[.int .i64 x.1, .int .i64 x.2]] W fun e W' => e = .returned (.bool true) ∧ Try.Ap2 w0 fn sv B l D (ss ++ [x]) W' := by
  obtain ⟨x1, x2⟩ := x
  obtain ⟨v, hv, hrow, hnil⟩ := h.box
  refine ⟨fn, #[.slice none 0 0, sv, .pointer (some ⟨B, 0, none⟩), undef, .slice none 0 0, undef, sv, .agg #[.int .i64 x1, .int .i64 x2], undef, undef, undef, undef, undef], Try.ap2Assign, Try.ap2Body, by simpa [Try.ap2Rec] using run_yield (P := Try.prog) (args := #[.agg #[.int .i64 x1, .int .i64 x2]]) h.L rfl, roundIn_of_wpIn trivial ?_⟩
  have hl : l < W.heap.size := (Array.getElem?_eq_some_iff.1 h.L).1
  have hBW : B < W.heap.size := (Array.getElem?_eq_some_iff.1 hv).1
  have hDW : D < W.heap.size := (Array.getElem?_eq_some_iff.1 h.K).1
  unfold Try.ap2Assign
  gi_wp2_with gi_round_op_a
  obtain ⟨E, hE⟩ : ∃ E, E = W.heap.size := ⟨_, rfl⟩
  obtain ⟨Wa, hWa⟩ : ∃ Wa, Wa = W.alloc (.cells #[.int .i64 x1, .int .i64 x2] 38) := ⟨_, rfl⟩
  rw [← hWa, ← hE]
  have hva : Wa.heap[B]? = some (.cells #[v] 33 (0, 0)) := by rw [hWa]; exact (Below.heap_alloc _ _ B hBW).trans hv
  have hLa : Wa.heap[l]? = some (.loop (Try.ap2Rec fn sv B D .ready)) := by rw [hWa]; exact (Below.heap_alloc _ _ l hl).trans h.L
  have hKa : Wa.heap[D]? = some (.deferred (some [])) := by rw [hWa]; exact (Below.heap_alloc _ _ D hDW).trans h.K
  have hEa : Wa.heap[E]? = some (.cells #[.int .i64 x1, .int .i64 x2] 38 (0, 0)) := by rw [hWa, hE]; exact World.alloc_heap_new W _
  have hrowa : Wa.ownsRow w0.heap.size 38 2 v ss.length (cl2 ss) := by rw [hWa]; exact hrow.alloc _
  have hba : Below w0.heap.size w0 Wa := by rw [hWa]; exact h.below.alloc h.below.size _
  have hvE : v.ownBlock ≠ some E := by
    intro e
    have := hrow.lt E e
    omega
  have hla : l < Wa.heap.size := (Array.getElem?_eq_some_iff.1 hLa).1
  have hbr := run_beginRound (P := Try.prog) hLa rfl
  have hEl : E ≠ l := by omega
  have hEB : E ≠ B := by omega
  have hED : E ≠ D := by omega
  obtain ⟨W2, hW2⟩ : ∃ W2, Wa.putObj l (.loop { Try.ap2Rec fn sv B D .ready with state := .busy }) = W2 := ⟨_, rfl⟩
  rw [hW2] at hbr
  have hg2 : Wa.grownBy W2 (some l) := by rw [← hW2]; exact grownBy_putObj_a _ _ _
  have hv2 : W2.heap[B]? = some (.cells #[v] 33 (0, 0)) := by rw [← hW2]; exact (World.putObj_heap_other hBl).trans hva
  have hK2 : W2.heap[D]? = some (.deferred (some [])) := by rw [← hW2]; exact (World.putObj_heap_other hDl).trans hKa
  have hE2 : W2.heap[E]? = some (.cells #[.int .i64 x1, .int .i64 x2] 38 (0, 0)) := by rw [← hW2]; exact (World.putObj_heap_other hEl).trans hEa
  have hL2 : W2.heap[l]? = some (.loop { Try.ap2Rec fn sv B D .ready with state := .busy }) := by rw [← hW2]; exact World.putObj_heap_same hla
  have hrow2 : W2.ownsRow w0.heap.size 38 2 v ss.length (cl2 ss) := hrowa.kept hg2 (ownsRow_ne_a hrowa hLa (fun cur e => by cases e))
  have hb2 : Below w0.heap.size w0 W2 := hba.grown hg2 hba.size (fun k e => by cases e; exact h0l)
  obtain ⟨hc2, hf2⟩ := cell_of_box_a hv2
  have hce1 : W2.cell? ⟨E, 0, none⟩ = some (.int .i64 x1) := by simp [World.cell?, hE2]
  have hce2 : W2.cell? ⟨E, 1, none⟩ = some (.int .i64 x2) := by simp [World.cell?, hE2]
  have hBlt : B < W2.heap.size := (Array.getElem?_eq_some_iff.1 hv2).1
  have hl2 : l < W2.heap.size := (Array.getElem?_eq_some_iff.1 hL2).1
  have hDlt : D < W2.heap.size := (Array.getElem?_eq_some_iff.1 hK2).1
  clear hW2 hWa hE
  refine ⟨W2, hbr, ?_⟩
  unfold Try.ap2Body
  obtain ⟨i0, hi, hz0, hz1, hz2⟩ := info_parts (P := Try.prog) (e := 38) (z := .agg #[.int .i64 0, .int .i64 0]) (size := 2) (bytes := 16) (by kernel_rfl)
  have ne_of : ∀ {j : Nat} {ob : Obj}, W2.heap[j]? = some ob → (∀ cur, ob ≠ .cells cur 38 (0, 0)) → some j ≠ v.ownBlock := fun hj hno => by
    rcases ownsRow_ne_a hrow2 hj hno with e | e
    · rw [e]; simp
    · exact fun e' => e e'.symm
  have hcl : ∀ j u, [Value.int .i64 x1, Value.int .i64 x2][j]? = some u → (W2.alloc (.cells #[.int .i64 x1, .int .i64 x2] 38)).cell? ((⟨W2.heap.size, 0, none⟩ : Addr).add j) = some u := by
    intro j u hj
    have hn := World.alloc_heap_new W2 (.cells #[.int .i64 x1, .int .i64 x2] 38)
    match j, hj with
    | 0, hj =>
      simp at hj; subst hj
      have e : (⟨W2.heap.size, 0, none⟩ : Addr).add 0 = ⟨W2.heap.size, 0, none⟩ := by simp [Addr.add]
      rw [e, World.cell?, hn]; rfl
    | 1, hj =>
      simp at hj; subst hj
      have e : (⟨W2.heap.size, 0, none⟩ : Addr).add 1 = ⟨W2.heap.size, 1, none⟩ := by simp [Addr.add]
      rw [e, World.cell?, hn]; rfl
    | j + 2, hj => simp at hj
  have hone : ∀ u ∈ [Value.int .i64 x1, Value.int .i64 x2], u.oneCell' = true := by intro u hu; simp at hu; rcases hu with rfl | rfl <;> rfl
  have hbs := hb2.size
  gi_wp2_with (first
    | (gi_at_builtin; refine wpListIn_append_own _ rfl _ _ 33 rfl w0.heap.size 38 i0 (.agg #[.int .i64 0, .int .i64 0]) 2 16 Try.underlying33 hi hz0 hz1 hz2 rfl (by decide) _ _ _ rfl (hrow2.alloc _) ⟨W2.heap.size, 0, none⟩ 1 1 [.int .i64 x1, .int .i64 x2] rfl rfl hcl hone (by omega) (by omega) (by simp; omega) ?_; intro v' w3 hown' hg3 hnil3
       have hv3 : w3.heap[B]? = some (.cells #[v] 33 (0, 0)) := (hg3.block B (by simp; omega) (ne_of hv2 (fun cur e => by cases e))).trans ((Below.heap_alloc _ _ B hBlt).trans hv2)
       obtain ⟨hc3, hf3⟩ := cell_of_box_a hv3
       obtain ⟨g', cap', cur', rfl, hbase', hgb', hr1, hr2, hr3, hr4⟩ : ∃ g' cap' cur', v' = .slice (some ⟨g', 0, none⟩) (ss.length + 1) cap' ∧ w0.heap.size ≤ g' ∧ w3.heap[g']? = some (.cells cur' 38 (0, 0)) ∧ ss.length + 1 ≤ cap' ∧ cap' ≤ maxLen ∧ cur'.size = cap' * 2 ∧ cur'.toList.take ((ss.length + 1) * 2) = cl2 ss ++ [.int .i64 x1, .int .i64 x2] := by
         rcases hown'.2 with ⟨_, h0⟩ | h'
         · exact absurd h0 (by omega)
         · exact h'
       go_frame)
    | gi_round_op_a)
  have hg3' : (W2.alloc (.cells #[.int .i64 x1, .int .i64 x2] 38)).grownBy w3 v.ownBlock := hg3
  have hL3 : w3.heap[l]? = some (.loop { Try.ap2Rec fn sv B D .ready with state := .busy }) := (hg3'.block l (by simp; omega) (ne_of hL2 (fun cur e => by cases e))).trans ((Below.heap_alloc _ _ l hl2).trans hL2)
  have hK3 : w3.heap[D]? = some (.deferred (some [])) := (hg3'.block D (by simp; omega) (ne_of hK2 (fun cur e => by cases e))).trans ((Below.heap_alloc _ _ D hDlt).trans hK2)
  obtain ⟨w4, hw4⟩ : ∃ w4, w3.setCell ⟨B, 0, none⟩ (.slice (some ⟨g', 0, none⟩) (ss.length + 1) cap') = w4 := ⟨_, rfl⟩
  rw [hw4]
  have hg4 : w3.grownBy w4 (some B) := by rw [← hw4]; exact grownBy_setCell0_a _ _ _
  have hv4 : w4.heap[B]? = some (.cells #[.slice (some ⟨g', 0, none⟩) (ss.length + 1) cap'] 33 (0, 0)) := by rw [← hw4]; exact heap_setCell_box_a _ hv3
  have hL4 : w4.heap[l]? = some (.loop { Try.ap2Rec fn sv B D .ready with state := .busy }) := (hg4.block l (Array.getElem?_eq_some_iff.1 hL3).1 (fun e => hBl (by cases e; rfl))).trans hL3
  have hK4 : w4.heap[D]? = some (.deferred (some [])) := (hg4.block D (Array.getElem?_eq_some_iff.1 hK3).1 (fun e => hDB (by cases e; rfl))).trans hK3
  have hrow4 := hown'.kept hg4 (ownsRow_ne_a hown' hv3 (fun cur e => by cases e))
  have hb3 : Below w0.heap.size w0 w3 := (hb2.alloc hb2.size _).grown hg3' (by simp; omega) (fun k e => (hrow2.lt k e).1)
  have hb4 : Below w0.heap.size w0 w4 := hb3.grown hg4 hb3.size (fun k e => by cases e; exact h0B)
  clear hw4
  refine ⟨_, _, run_endRound none hL4, rfl, ⟨⟨_, (World.putObj_heap_other hBl).trans hv4, ?_, by simp⟩, World.putObj_heap_same (Array.getElem?_eq_some_iff.1 hL4).1, (World.putObj_heap_other hDl).trans hK4, hb4.grown (grownBy_putObj_a _ _ _) hb4.size (fun k e => by cases e; exact h0l)⟩⟩
  · have := hrow4.kept (grownBy_putObj_a w4 l (.loop { { Try.ap2Rec fn sv B D .ready with state := .busy } with state := if (none : Option Code).isNone then .ready else .done, pending := none })) (ownsRow_ne_a hrow4 hL4 (fun cur e => by cases e))
    simpa [cl2] using this

set_option maxRecDepth 100000 in
set_option maxHeartbeats 2000000 in
/-- AppendSeq(nil, Values(xs)), at structs of two. -/
theorem Try.append_vals2 (g o b off cap : Nat) (xs : List (Int × Int)) (hN : xs.length ≤ maxLen) (hNb : xs.length * 16 ≤ 140737488355328) (w : World)
    (hgl : g < w.heap.size) (hbl : 0 < xs.length → b < w.heap.size) (a : Option Addr) (ha : 0 < xs.length → a = some ⟨b, off, none⟩)
    (hp : w.cell? ⟨g, o, none⟩ = some (.slice a xs.length cap)) (hc : ∀ j, j < xs.length → w.cell? ⟨b, off + j * 2, none⟩ = some (.int .i64 (xs.getD j (0, 0)).1) ∧ w.cell? ⟨b, off + j * 2 + 1, none⟩ = some (.int .i64 (xs.getD j (0, 0)).2)) :
    CallsIn Fence.wide 9 Try.prog 58 #[.slice none 0 0, .func (.func 44) #[] #[.pointer (some ⟨g, o, none⟩)]] w fun e w' => ∃ v : Value, e = .returned v ∧ w'.ownsRow w.heap.size 38 2 v xs.length (cl2 xs) ∧ Below w.heap.size w w' := by
  have en : ∀ args w, (callFunc 44 args).run Try.prog w = .ok (.enter 44 args) w := enters_of Try.func44 (by kernel_rfl) rfl
  refine callsIn_of_wp_marks Try.func58 rfl trivial ?_ rfl
  simp only [Try.ntmps58, List.size_toArray, List.length_cons, List.length_nil, Nat.reduceAdd, Nat.reduceSub, Array.replicate_succ, Array.replicate_zero, List.push_toArray, List.append_toArray, List.nil_append, List.cons_append]
  gi_wp2
  refine wpIn_rangeFunc ?_
  intro fn hfn
  obtain ⟨S, hS⟩ : ∃ S, S = w.heap.size := ⟨_, rfl⟩
  obtain ⟨sv, hsv⟩ : ∃ sv : Value, sv = .func (.func 44) #[] #[.pointer (some ⟨g, o, none⟩)] := ⟨_, rfl⟩
  obtain ⟨W0, hW0⟩ : ∃ W0, W0 = w.alloc (.cells #[.slice none 0 0] 33) := ⟨_, rfl⟩
  obtain ⟨W1, hW1⟩ : ∃ W1, W1 = (W0.alloc (.deferred (some []))).alloc (.loop (Try.ap2Rec fn sv S (S + 1) .ready)) := ⟨_, rfl⟩
  have hs0 : W0.heap.size = S + 1 := by rw [hW0, hS]; simp
  have hs1 : W1.heap.size = S + 3 := by rw [hW1]; simp [hs0]
  have hb0 : Below S w W0 := by rw [hW0, hS]; exact (Below.refl _ w).alloc (Nat.le_refl _) _
  have hb1 : Below S w W1 := by rw [hW1]; exact (hb0.alloc (by omega) _).alloc (by simp [hs0]; omega) _
  have hold : ∀ k, k < S + 1 → W1.heap[k]? = W0.heap[k]? := fun k hk => by
    rw [hW1]; exact (Below.heap_alloc _ _ k (by simp; omega)).trans (Below.heap_alloc _ _ k (by omega))
  have hbox : W1.heap[S]? = some (.cells #[.slice none 0 0] 33 (0, 0)) := (hold S (by omega)).trans (by rw [hW0, hS]; exact World.alloc_heap_new w _)
  have hloop : W1.heap[S + 2]? = some (.loop (Try.ap2Rec fn sv S (S + 1) .ready)) := by
    rw [hW1]; have := World.alloc_heap_new (W0.alloc (.deferred (some []))) (.loop (Try.ap2Rec fn sv S (S + 1) .ready)); rwa [World.size_alloc, hs0] at this
  have hdef : W1.heap[S + 1]? = some (.deferred (some [])) := by
    rw [hW1, ← hs0]; exact (Below.heap_alloc _ _ _ (by simp)).trans (World.alloc_heap_new W0 _)
  have hA : Try.Ap2 w fn sv S (S + 2) (S + 1) [] W1 := ⟨⟨_, hbox, ⟨rfl, .inl ⟨rfl, rfl⟩⟩, by simp⟩, hloop, hdef, by rw [← hS]; exact hb1⟩
  refine ⟨S + 2, [{ target := .collected (S + 1), args := #[] }], W1, { target := .fn (.func 44) #[.pointer (some ⟨g, o, none⟩)], args := #[.func (.yield (S + 2)) #[] #[]] }, W1, 44,
    #[.func (.yield (S + 2)) #[] #[], .pointer (some ⟨g, o, none⟩)], W1, ?_, ?_, ?_, ?_, fun _ => by omega, ?_⟩
  · have h := run_enterLoop_outer (P := Try.prog) (w := W0) fn #[.slice none 0 0, sv, .pointer (some ⟨S, 0, none⟩), undef, .slice none 0 0, undef, sv, undef, undef, undef, undef, undef, undef] #[7] Try.ap2Assign Try.ap2Body
    rw [hs0] at h
    rw [← hW0, ← hsv, ← hS, hW1]
    exact h
  · simp [resolve, go_sem]
  · intro f' hf'; trivial
  · simp [invoke, go_sem, en]
  · refine (Try.vals2_in 8 (by omega) (S + 2) g o b off cap xs (by omega) w W1 (fun pre W => Try.Ap2 w fn sv S (S + 2) (S + 1) pre W) hgl hbl a ha hp hc (fun pre W h => h.below) (fun pre W ob h => ?_) (fun pre x W h hl => Try.ap2Yield 7 w fn sv S (S + 2) (S + 1) (by omega) (by omega) (by omega) (by omega) (by omega) xs.length hN hNb pre x W h hl) hA).mono ?_
    · obtain ⟨v, h1, h2, h3⟩ := h.box
      have l1 := (Array.getElem?_eq_some_iff.1 h1).1
      have l2 := (Array.getElem?_eq_some_iff.1 h.L).1
      have l3 := (Array.getElem?_eq_some_iff.1 h.K).1
      exact ⟨⟨v, (Below.heap_alloc _ _ S l1).trans h1, h2.alloc _, h3⟩, (Below.heap_alloc _ _ _ l2).trans h.L, (Below.heap_alloc _ _ _ l3).trans h.K, h.below.alloc h.below.size _⟩
    rintro e W2 ⟨⟨v0, rfl⟩, h2⟩
    obtain ⟨v, hv, hrow, hnil⟩ := h2.box
    have hend := run_endLoop (P := Try.prog) h2.L (by simp [Try.ap2Rec])
    obtain ⟨W3, hW3⟩ : ∃ W3, W3 = W2.putObj (S + 2) (.loop { Try.ap2Rec fn sv S (S + 1) .ready with state := .exhausted }) := ⟨_, rfl⟩
    rw [← hW3] at hend
    have hg3 : W2.grownBy W3 (some (S + 2)) := by rw [hW3]; exact grownBy_putObj_a _ _ _
    have hv3 : W3.heap[S]? = some (.cells #[v] 33 (0, 0)) := by rw [hW3]; exact (World.putObj_heap_other (by omega)).trans hv
    have hK3 : W3.heap[S + 1]? = some (.deferred (some [])) := by rw [hW3]; exact (World.putObj_heap_other (by omega)).trans h2.K
    have hrow3 := hrow.kept hg3 (ownsRow_ne_a hrow h2.L (fun cur e => by cases e))
    have hb3 : Below w.heap.size w W3 := h2.below.grown hg3 h2.below.size (fun k e => by cases e; omega)
    obtain ⟨hc3, hf3⟩ := cell_of_box_a hv3
    refine ⟨none, W3, hend, ?_⟩
    clear hc hN hNb hW0 hW1 hW3 hsv hold hs0 hs1
    subst hS
    gi_wp2
    refine ⟨by simp, .inl ⟨_, _, rfl, run_takeDeferred hK3, ?_⟩⟩
    exact ⟨_, results_tmp rfl _ _ _, v, rfl, hrow3.kept (grownBy_putObj_a _ _ _) (ownsRow_ne_a hrow3 hK3 (fun cur e => by cases e)), hb3.grown (grownBy_putObj_a _ _ _) hb3.size (fun k e => by cases e; omega)⟩

set_option maxHeartbeats 1000000 in
/-- Collect(Values(xs)), at structs of two. -/
theorem Try.collect_vals2 (g o b off cap : Nat) (xs : List (Int × Int)) (hN : xs.length ≤ maxLen) (hNb : xs.length * 16 ≤ 140737488355328) (w : World)
    (hgl : g < w.heap.size) (hbl : 0 < xs.length → b < w.heap.size) (a : Option Addr) (ha : 0 < xs.length → a = some ⟨b, off, none⟩)
    (hp : w.cell? ⟨g, o, none⟩ = some (.slice a xs.length cap)) (hc : ∀ j, j < xs.length → w.cell? ⟨b, off + j * 2, none⟩ = some (.int .i64 (xs.getD j (0, 0)).1) ∧ w.cell? ⟨b, off + j * 2 + 1, none⟩ = some (.int .i64 (xs.getD j (0, 0)).2)) :
    Calls Try.prog 42 #[.func (.func 44) #[] #[.pointer (some ⟨g, o, none⟩)]] w fun e w' => ∃ v : Value, e = .returned v ∧ w'.ownsRow w.heap.size 38 2 v xs.length (cl2 xs) ∧ Below w.heap.size w w' := by
  refine (callsIn_wide (n := 10)).1 ?_
  have cA := Try.append_vals2 g o b off cap xs hN hNb w hgl hbl a ha hp hc
  have hfA : Fence.wide.fn 58 := trivial
  refine callsIn_of_wp Try.func42 rfl trivial ?_ rfl
  simp only [Try.ntmps42, List.size_toArray, List.length_cons, List.length_nil, Nat.reduceAdd, Nat.reduceSub, Array.replicate_succ, Array.replicate_zero, List.push_toArray, List.append_toArray, List.nil_append, List.cons_append]
  clear hc hp
  gi_wp2_with (gi_at_call 58; refine cA.mono ?_; rintro e w' ⟨v, rfl, hrow, hb⟩)
  go_ret
  exact ⟨v, rfl, hrow, hb⟩

/-- Values(s), at structs. -/
theorem Try.values2_calls (a : Option Addr) (n cap : Nat) (w : World) : Calls Try.prog 32 #[.slice a n cap] w fun ex w' => ex = .returned (.func (.func 44) #[] #[.pointer (some ⟨w.heap.size, 0, none⟩)]) ∧ w' = w.alloc (.cells #[.slice a n cap] 33) := by
  refine (callsIn_wide (n := 9)).1 ?_
  refine callsIn_of_wp Try.func32 rfl trivial ?_ rfl
  simp only [Try.ntmps32, List.size_toArray, List.length_cons, List.length_nil, Nat.reduceAdd, Nat.reduceSub, Array.replicate_succ, Array.replicate_zero, List.push_toArray, List.append_toArray, List.nil_append, List.cons_append]
  gi_wp2
  go_ret
  exact ⟨rfl, rfl⟩

end Go.Proofs
