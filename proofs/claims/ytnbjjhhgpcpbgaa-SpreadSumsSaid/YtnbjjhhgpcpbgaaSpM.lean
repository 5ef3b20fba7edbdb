/- Spread: slices.SortStableFunc walked. -/
import Derived.Test.YtnbjjhhgpcpbgaaSpW
import Derived.Test.YtnbjjhhgpcpbgaaSpD
import Derived.Test.YtnbjjhhgpcpbgaaAbYs
set_option linter.unusedVariables false
set_option linter.unusedSimpArgs false
namespace Go.Proofs
open Go.Shelf Go.RowKit Go.Lib Go.Sort Go.Sp
variable {α : Type} [Inhabited α] {v : α → Int}

theorem size_insInner (lt : α → α → Bool) (a : Nat) : ∀ (j : Nat) (d : Array α), (Sort.insInner lt a j d).size = d.size
  | 0, _ => rfl
  | j + 1, d => by
    unfold Sort.insInner
    split
    · exact (size_insInner lt a j _).trans (swp_size ..)
    · rfl
theorem size_insOuter (lt : α → α → Bool) (a b : Nat) : ∀ (n i : Nat) (d : Array α), b - i ≤ n → (Sort.insOuter lt a b i d).size = d.size
  | 0, i, d, h => by unfold Sort.insOuter; rw [if_neg (by omega)]
  | n + 1, i, d, h => by
    unfold Sort.insOuter
    split
    · exact (size_insOuter lt a b n _ _ (by omega)).trans (size_insInner ..)
    · rfl
theorem size_insertionSort (lt : α → α → Bool) (d : Array α) (a b : Nat) : (Sort.insertionSort lt d a b).size = d.size := size_insOuter lt a b _ _ d (Nat.le_refl _)
theorem insB_size (lt : α → α → Bool) (s n : Nat) : ∀ (f a : Nat) (d : Array α), (insB lt s n f a d).size = d.size
  | 0, _, _ => rfl
  | f + 1, a, d => by
    unfold insB
    split
    · exact (insB_size lt s n f _ _).trans (size_insertionSort _ _ _ _)
    · exact size_insertionSort _ _ _ _
theorem mrg_size (lt : α → α → Bool) (s n : Nat) : ∀ (f a : Nat) (d : Array α), (mrg lt s n f a d).size = d.size
  | 0, _, _ => rfl
  | f + 1, a, d => by
    unfold mrg
    split
    · exact (mrg_size lt s n f _ _).trans (symM_size ..)
    · split
      · exact symM_size ..
      · rfl
/-- What is known of the sort by insertion. -/
theorem Try.ins_s {g : Nat} {cb : Array Value} {cf : α → α → Int} {blk off cap : Nat} {d0 : Array α} {w0 : World} (eg : ∀ args w, (callFunc g args).run Try.prog w = .ok (.enter g args) w) (hcmp : CmpLays1 Try.prog g cb (eI v) cf blk off d0.size w0) (R : Row1 (eI v) w0 blk off d0) (a b : Nat) (d : Array α) (w : World)
    (hs : d0.size = d.size) (S : SW (eI v) w0 blk off d w) (hab : a ≤ b) (hb : b ≤ d.size) (hsz : d.size < 4611686018427387904) :
    Calls Try.prog 30 #[.slice (some ⟨blk, off, none⟩) d.size cap, .int .i64 a, .int .i64 b, .func (.func g) #[] cb] w fun e w' => e = .returned (.tuple #[]) ∧ SW (eI v) w0 blk off (Sort.insertionSort (ltOf cf) d a b) w' :=
  Any.insertionSortCmpFunc_s Try.laysF20 (eI v) cf g cb blk off cap a b d0 d w0 w eg hcmp R hs S hab hb hsz

set_option maxHeartbeats 8000000 in
set_option maxRecDepth 100000 in
theorem Try.stable_s {g : Nat} {cb : Array Value} {cf : α → α → Int} {blk off cap : Nat} {d0 : Array α} {w0 : World} (n : Nat) (eg : ∀ args w, (callFunc g args).run Try.prog w = .ok (.enter g args) w) (hcmp : CmpLays1 Try.prog g cb (eI v) cf blk off d0.size w0) (R : Row1 (eI v) w0 blk off d0) (d : Array α) (w : World)
    (hs : d0.size = d.size) (S : SW (eI v) w0 blk off d w) (hn : n = d.size) (hsz : d.size < 1000000000) :
    Calls Try.prog 27 #[.slice (some ⟨blk, off, none⟩) d.size cap, .int .i64 n, .func (.func g) #[] cb] w fun e w' => e = .returned (.tuple #[]) ∧ SW (eI v) w0 blk off (Go.Sp.stable (ltOf cf) n d) w' := by
  have mixed := Try.laysF20.mixed
  have HN : Aside (n = d.size) := hn
  have hn1 : n ≤ d.size := by omega
  have hsy : Aside (∀ f, SymF v g cb cf blk off cap d0 w0 f) := fun f => Try.symMerge eg hcmp R (by omega) f
  have hin : Aside (∀ (a b : Nat) (d : Array α) (w : World), d0.size = d.size → SW (eI v) w0 blk off d w → a ≤ b → b ≤ d.size → d.size < 4611686018427387904 →
    Calls Try.prog 30 #[.slice (some ⟨blk, off, none⟩) d.size cap, .int .i64 a, .int .i64 b, .func (.func g) #[] cb] w fun e w' => e = .returned (.tuple #[]) ∧ SW (eI v) w0 blk off (Sort.insertionSort (ltOf cf) d a b) w') := fun a b d w => Try.ins_s eg hcmp R a b d w
  have S0 : Aside (SW (eI v) w0 blk off d w) := S
  clear S hcmp hn
  go_enter Try.func27, Try.ntmps27
  go_wp2
  go_loopg [7, 8] n (fun g1 va vb wr => ∃ (a f : Nat) (dk : Array α), va = .int .i64 a ∧ vb = .int .i64 ((a : Int) + 20) ∧ a ≤ n ∧ n - a ≤ g1 ∧ n - a < f ∧ dk.size = d.size ∧ Aside (SW (eI v) w0 blk off dk wr) ∧ Hid (insB (ltOf cf) 20 n f a dk = insB (ltOf cf) 20 n (n + 1) 0 d))
  case atStart => exact ⟨0, n + 1, d, by go_num, by go_num, by omega, by omega, by omega, rfl, S0, rfl⟩
  case round =>
    clear S0
    obtain ⟨a, f, dk, rfl, rfl, han, hg1, hf, hsk, S1, HO⟩ := hrel
    by_cases hlt : (a : Int) + 20 ≤ (n : Int)
    · have key := hin.out a (a + 20) dk wr (by omega) S1.out (by omega) (by omega) (by omega)
      rw [hsk] at key
      have zc : ((a + 20 : Nat) : Int) = (a : Int) + 20 := by omega
      rw [zc] at key
      go_wp2_with fail
      refine key.mono ?_
      rintro _ w2 ⟨rfl, S2⟩
      clear key
      go_wp2_with fail
      obtain ⟨f', rfl⟩ : ∃ f', f = f' + 1 := ⟨f - 1, by omega⟩
      go_roundg (n - (a + 20))
      case measure => omega
      case rel => exact ⟨a + 20, f', Sort.insertionSort (ltOf cf) dk a (a + 20), by go_num, by go_num, by omega, by omega, by omega, by rw [size_insertionSort]; exact hsk, S2, (show Hid _ from by
        show _ = _
        rw [← HO.out]
        conv => rhs; unfold insB
        rw [if_pos (by omega)])⟩
    · have key := hin.out a n dk wr (by omega) S1.out (by omega) (by omega) (by omega)
      rw [hsk] at key
      go_wp2_with fail
      refine key.mono ?_
      rintro _ w2 ⟨rfl, S2⟩
      clear key
      have hE : Sort.insertionSort (ltOf cf) dk a n = insB (ltOf cf) 20 n (n + 1) 0 d := by
        rw [← HO.out]
        obtain ⟨f', rfl⟩ : ∃ f', f = f' + 1 := ⟨f - 1, by omega⟩
        unfold insB
        rw [if_neg (by omega)]
      rw [hE] at S2
      have S3 : Aside (SW (eI v) w0 blk off (insB (ltOf cf) 20 n (n + 1) 0 d) w2) := S2
      have hsd : (insB (ltOf cf) 20 n (n + 1) 0 d).size = d.size := insB_size ..
      obtain ⟨d2, hd2⟩ : ∃ q, q = insB (ltOf cf) 20 n (n + 1) 0 d := ⟨_, rfl⟩
      rw [← hd2] at S3 hsd
      have HD : Aside (d2 = insB (ltOf cf) 20 n (n + 1) 0 d) := hd2
      clear S1 S2 HO hE hd2 hsk hlt dk
      go_wp2_with fail
      go_loopg [6] n (fun g1 vs wr => ∃ (s f : Nat) (dk : Array α), vs = .int .i64 s ∧ 1 ≤ s ∧ n - s ≤ g1 ∧ n - s ≤ f ∧ s ≤ 2 * n + 20 ∧ dk.size = d.size ∧ Aside (SW (eI v) w0 blk off dk wr) ∧ Hid (mrgs (ltOf cf) n f s dk = mrgs (ltOf cf) n n 20 d2))
      case atStart => exact ⟨20, n, d2, by go_num, by omega, by omega, by omega, by omega, hsd, S3, rfl⟩
      case round =>
        clear S3
        obtain ⟨s, f, dk, rfl, hs1, hg2, hf2, hs2n, hsk, S1, HO⟩ := hrel
        by_cases hlt : (s : Int) < (n : Int)
        · go_wp2_with fail
          go_loopg [7, 8] n (fun g1 va vb wr => ∃ (a f : Nat) (dj : Array α), va = .int .i64 a ∧ vb = .int .i64 ((a : Int) + 2 * (s : Int)) ∧ a ≤ n ∧ n - a ≤ g1 ∧ n - a < f ∧ dj.size = d.size ∧ Aside (SW (eI v) w0 blk off dj wr) ∧ Hid (mrg (ltOf cf) s n f a dj = mrg (ltOf cf) s n (n + 1) 0 dk))
          case atStart => exact ⟨0, n + 1, dk, by go_num, by go_num, by omega, by omega, by omega, hsk, S1, rfl⟩
          case round =>
            clear S1
            obtain ⟨a, f3, dj, rfl, rfl, han, hg3, hf3, hsj, S2, HO2⟩ := hrel
            by_cases hle : (a : Int) + 2 * (s : Int) ≤ (n : Int)
            · have key := hsy.out (2 * s) a (a + s) (a + 2 * s) dj wr S2.out (by omega) (by omega) (by omega) (by omega) (by omega)
              rw [hsj] at key
              have zc : ((a + s : Nat) : Int) = (a : Int) + (s : Int) := by omega
              have zc2 : ((a + 2 * s : Nat) : Int) = (a : Int) + 2 * (s : Int) := by omega
              rw [zc, zc2] at key
              clear zc zc2
              go_wp2_with fail
              refine key.mono ?_
              rintro _ w2 ⟨rfl, S3⟩
              clear key
              go_wp2_with fail
              obtain ⟨f4, rfl⟩ : ∃ f4, f3 = f4 + 1 := ⟨f3 - 1, by omega⟩
              go_roundg (n - (a + 2 * s))
              case measure => omega
              case rel => exact ⟨a + 2 * s, f4, symM (ltOf cf) (2 * s) a (a + s) (a + 2 * s) dj, by go_num, by go_num, by omega, by omega, by omega, by rw [symM_size]; exact hsj, S3, (show Hid _ from by
                show _ = _
                rw [← HO2.out]
                conv => rhs; unfold mrg
                rw [if_pos (by omega)])⟩
            · by_cases hms : (a : Int) + (s : Int) < (n : Int)
              · have key := hsy.out (n - a) a (a + s) n dj wr S2.out (by omega) (by omega) (by omega) (by omega) (by omega)
                rw [hsj] at key
                have zc : ((a + s : Nat) : Int) = (a : Int) + (s : Int) := by omega
                rw [zc] at key
                clear zc
                go_wp2_with fail
                refine key.mono ?_
                rintro _ w2 ⟨rfl, S3⟩
                clear key
                go_wp2_with fail
                obtain ⟨f4, rfl⟩ : ∃ f4, f = f4 + 1 := ⟨f - 1, by omega⟩
                go_roundg (n - 2 * s)
                case measure => omega
                case rel => exact ⟨2 * s, f4, symM (ltOf cf) (n - a) a (a + s) n dj, by go_num, by omega, by omega, by omega, by omega, by rw [symM_size]; exact hsj, S3, (show Hid _ from by
                  show _ = _
                  rw [← HO.out]
                  conv => rhs; unfold mrgs
                  rw [if_pos (by omega), ← HO2.out]
                  obtain ⟨f5, rfl⟩ : ∃ f5, f3 = f5 + 1 := ⟨f3 - 1, by omega⟩
                  conv => rhs; unfold mrg
                  rw [if_neg (by omega), if_pos (by omega)])⟩
              · go_wp2_with fail
                obtain ⟨f4, rfl⟩ : ∃ f4, f = f4 + 1 := ⟨f - 1, by omega⟩
                go_roundg (n - 2 * s)
                case measure => omega
                case rel => exact ⟨2 * s, f4, dj, by go_num, by omega, by omega, by omega, by omega, hsj, S2, (show Hid _ from by
                  show _ = _
                  rw [← HO.out]
                  conv => rhs; unfold mrgs
                  rw [if_pos (by omega), ← HO2.out]
                  obtain ⟨f5, rfl⟩ : ∃ f5, f3 = f5 + 1 := ⟨f3 - 1, by omega⟩
                  conv => rhs; unfold mrg
                  rw [if_neg (by omega), if_neg (by omega)])⟩
        · go_wp2_with fail
          go_end0
          refine ⟨rfl, ?_⟩
          have h2 := HO.out
          have h3 : mrgs (ltOf cf) n f s dk = dk := by
            cases f with
            | zero => rfl
            | succ f => unfold mrgs; rw [if_neg (by omega)]
          rw [h3, HD.out] at h2
          unfold Go.Sp.stable
          rw [← h2]
          exact S1.out

theorem Try.sortStable_s {g : Nat} {cb : Array Value} {cf : α → α → Int} {blk off cap : Nat} (eg : ∀ args w, (callFunc g args).run Try.prog w = .ok (.enter g args) w) (d : Array α) (w : World) (hcmp : CmpLays1 Try.prog g cb (eI v) cf blk off d.size w) (R : Row1 (eI v) w blk off d)
    (hsz : d.size < 1000000000) :
    Calls Try.prog 23 #[.slice (some ⟨blk, off, none⟩) d.size cap, .func (.func g) #[] cb] w fun e w' => e = .returned (.tuple #[]) ∧ SW (eI v) w blk off (Go.Sp.stable (ltOf cf) d.size d) w' := by
  have key := Try.stable_s (cap := cap) d.size eg hcmp R d w rfl (SW.start R.hH) rfl hsz
  clear hcmp R
  go_enter Try.func23, Try.ntmps23
  go_wp2_with fail
  refine key.mono ?_
  rintro _ w2 ⟨rfl, S⟩
  go_wp2_with fail
  go_end0
  exact ⟨rfl, S⟩
end Go.Proofs

namespace Go.Proofs
open Go.Shelf Go.RowKit Go.Lib Go.Sort Go.Sp Go.Ab

abbrev eZ (x : Int) : Value := .int .i64 x
theorem Try.by_size {ws : List Int} {p po B o c : Nat} {w : World} (hp : w.cell? ⟨p, po, none⟩ = some (.slice (some ⟨B, o, none⟩) ws.length c)) (hc : ∀ i, i < ws.length → w.cell? ⟨B, o + i, none⟩ = some (.int .i64 (ws.getD i 0))) (hw : ∀ x ∈ ws, 0 ≤ x ∧ x ≤ 1099511627776) (a b : Nat) (ha : a < ws.length) (hb : b < ws.length) (hl : ws.length < 4611686018427387904) :
    Calls Try.prog 24 #[.int .i64 a, .int .i64 b, .pointer (some ⟨p, po, none⟩)] w fun e w' => e = .returned (.int .i64 (ws.getD b 0 - ws.getD a 0)) ∧ ∃ q os', w' = grow (w.drewN q) os' := by
  have ca := hc a ha
  have cb := hc b hb
  have h1 := hw _ (List.getElem_mem ha)
  have h2 := hw _ (List.getElem_mem hb)
  have e1 : ws.getD a 0 = ws[a] := by simp [List.getD_eq_getElem?_getD, ha]
  have e2 : ws.getD b 0 = ws[b] := by simp [List.getD_eq_getElem?_getD, hb]
  rw [e1] at ca
  rw [e2] at cb
  rw [e1, e2]
  obtain ⟨x, hx⟩ : ∃ x, x = ws[a] := ⟨_, rfl⟩
  obtain ⟨y, hy⟩ : ∃ x, x = ws[b] := ⟨_, rfl⟩
  rw [← hx] at ca h1 ⊢
  rw [← hy] at cb h2 ⊢
  have hws : IntKind.i64.wrap (y - x) = y - x := by rw [IntKind.wrap_i64]; omega
  clear hx hy e1 e2 hw hc
  have az : (a : Int) < (ws.length : Int) := by omega
  have bz : (b : Int) < (ws.length : Int) := by omega
  go_enter Try.func24, Try.ntmps24
  have mixed := Try.laysF20.mixed
  go_wp2_with fail
  go_quiet (fail)
  go_wp2
  go_ret
  exact ⟨rfl, nq, #[], by rw [grow_empty]⟩

theorem Try.ins_0 (a : Option Addr) (c : Nat) (w : World) (fv : Value) : Calls Try.prog 30 #[.slice a 0 c, .int .i64 0, .int .i64 0, fv] w fun e w' => e = .returned (.tuple #[]) ∧ w' = w := by
  go_enter Try.func30, Try.ntmps30
  go_wp2
  refine wp_loop_rounds 1 ?_
  rw [rounds_succ]
  go_wp2
  go_end0
  exact ⟨rfl, rfl⟩
theorem Try.stable_0 (a : Option Addr) (c : Nat) (w : World) (fv : Value) : Calls Try.prog 27 #[.slice a 0 c, .int .i64 0, fv] w fun e w' => e = .returned (.tuple #[]) ∧ w' = w := by
  go_enter Try.func27, Try.ntmps27
  go_wp2
  refine wp_loop_rounds 1 ?_
  rw [rounds_succ]
  go_wp2_with (first | (refine (Try.ins_0 _ _ _ _).mono ?_; rintro e w' ⟨rfl, rfl⟩))
  refine wp_loop_rounds 1 ?_
  rw [rounds_succ]
  go_wp2
  go_end0
  exact ⟨rfl, rfl⟩
theorem Try.sortStable_0 (a : Option Addr) (c : Nat) (w : World) (fv : Value) : Calls Try.prog 23 #[.slice a 0 c, fv] w fun e w' => e = .returned (.tuple #[]) ∧ w' = w := by
  go_enter Try.func23, Try.ntmps23
  go_wp2_with (first | (refine (Try.stable_0 _ _ _ _).mono ?_; rintro e w' ⟨rfl, rfl⟩))
  go_end0
  exact ⟨rfl, rfl⟩

/-- The sort over the world, of piece numbers. -/
theorem Try.sort_pieces {ws xs : List Int} {p po B o c : Nat} {w : World} (hp : w.cell? ⟨p, po, none⟩ = some (.slice (some ⟨B, o, none⟩) ws.length c)) (hc : ∀ i, i < ws.length → w.cell? ⟨B, o + i, none⟩ = some (.int .i64 (ws.getD i 0))) (hw : ∀ x ∈ ws, 0 ≤ x ∧ x ≤ 1099511627776)
    (hx : ∀ x ∈ xs, 0 ≤ x ∧ x < ws.length) (hne : xs ≠ []) (hl : ws.length < 4611686018427387904) (hxl : xs.length < 1000000000) {blk off cap : Nat} (hb : blk < w.heap.size) (hpb : p ≠ blk) (hBb : B ≠ blk) (hH : ∀ i (hi : i < xs.length), w.cell? ⟨blk, off + i, none⟩ = some (.int .i64 xs[i]) ∧ w.frozen? ⟨blk, off + i, none⟩ = false) :
    Calls Try.prog 23 #[.slice (some ⟨blk, off, none⟩) xs.length cap, .func (.func 24) #[] #[.pointer (some ⟨p, po, none⟩)]] w fun e w' => e = .returned (.tuple #[]) ∧ ∃ n os, w' = grow ((w.drewN n).setCells blk off ((stabF ws xs).map eZ)) os := by
  have h0 : 0 < ws.length := by
    cases xs with
    | nil => exact absurd rfl hne
    | cons x xs => have := hx x (by simp); omega
  letI : Inhabited (Fin ws.length) := ⟨⟨0, h0⟩⟩
  obtain ⟨d, hd⟩ : ∃ d : Array (Fin ws.length), d = (fins ws h0 xs).toArray := ⟨_, rfl⟩
  have hds : d.size = xs.length := by rw [hd]; simp [fins]
  have hdv : ∀ i (hi : i < xs.length), ((d[i]!).val : Int) = xs[i] := by
    intro i hi
    have e := congrArg (fun l => l[i]?) (fins_val (h := h0) hx)
    simp only [List.getElem?_map] at e
    rw [List.getElem?_eq_getElem hi, show fins ws h0 xs = d.toList by rw [hd], Array.getElem?_toList, Array.getElem?_eq_getElem (by omega)] at e
    simp only [Option.map_some, Option.some.injEq] at e
    rw [getElem!_pos d i (by omega)]
    exact e
  have hHold : Holds (eI (α := Fin ws.length) fun k => (k.val : Int)) w blk off d := by
    intro j hj
    rw [hds] at hj
    refine ⟨?_, (hH j hj).2⟩
    rw [(hH j hj).1]
    show _ = some (Value.int IntKind.i64 ((d[j]!).val : Int))
    rw [hdv j hj]
  have hother : ∀ (g : Nat), g ≠ blk → ∀ (j : Nat) (v : Value), w.cell? ⟨g, j, none⟩ = some v → ∀ (m : Nat) (dk : Array (Fin ws.length)) (os : Array Obj), (sortWorld (eI (α := Fin ws.length) fun k => (k.val : Int)) w blk off m dk os).cell? ⟨g, j, none⟩ = some v := by
    intro g hg j v hv m dk os
    have hlt := World.block_lt_of_cell? w _ hv
    refine (World.cell?_of_block (w := w) (a := ⟨g, j, none⟩) ?_).trans hv
    unfold sortWorld
    rw [heap_grow_old _ _ (by rw [size_putRow]; exact hlt)]
    show (w.heap.modify blk _)[g]? = _
    rw [Array.getElem?_modify, if_neg (fun e => hg e.symm)]
  have hcmp : CmpLays1 Try.prog 24 #[.pointer (some ⟨p, po, none⟩)] (eI (α := Fin ws.length) fun k => (k.val : Int)) (cmpW ws) blk off d.size w := by
    intro m os dk hs x y
    exact Try.by_size (hother p hpb po _ hp m dk os) (fun i hi => hother B hBb (o + i) _ (hc i hi) m dk os) hw x.val y.val x.isLt y.isLt hl
  have key := Try.sortStable_s (cap := cap) (enters_of Try.func24 (by kernel_rfl) rfl) d w hcmp ⟨fun _ => rfl, hHold, hb⟩ (by omega)
  rw [hds] at key
  refine key.mono ?_
  rintro e w' ⟨rfl, m, os, rfl⟩
  refine ⟨rfl, m, os, ?_⟩
  unfold sortWorld
  obtain ⟨q, hq⟩ : ∃ q, q = stable (ltOf (cmpW ws)) xs.length d := ⟨_, rfl⟩
  rw [← hq]
  have hqs : q.size = d.size := by rw [hq]; exact (stable_ok (cmpW_swo ws) d (by omega)).1.1
  have := putRow_eq_setCells (eI (α := Fin ws.length) fun k => (k.val : Int)) w blk off d q.toList m hHold (by rw [Array.length_toList]; exact hqs)
  rw [show q.toList.toArray = q from rfl] at this
  rw [this]
  have e : (stabF ws xs).map eZ = q.toList.map (eI (α := Fin ws.length) fun k => (k.val : Int)) := by
    unfold stabF
    rw [dif_pos h0, List.map_map, ← hd]
    show (stable (ltO (cmpW ws)) xs.length d).toList.map _ = _
    rw [hq]
    rfl
  rw [e]

theorem stab_mcalls (hf : FnOk Try.prog 23) {E : Elem Int} (hs : E.s = 1) (hcf : ∀ x, E.cf x 0 = .raw (.int .i64 x)) {CE : Elem (List Int)} (hce : ∀ x : List Int, CE.cf x 0 = .ro 1 x.length (fun i _ => .raw (.int .i64 (x.getD i 0)))) {xs ws : List Int} {e : TypeId}
    (hx : ∀ x ∈ xs, 0 ≤ x ∧ x < ws.length) (hw : ∀ x ∈ ws, 0 ≤ x ∧ x ≤ 1099511627776) (hxl : xs.length < 1000000000) {al : Bool} :
    MCalls Try.prog 23 [.row 0 1 0 xs.length, .fn 24 [.roat 1 (fun j => CE.cf ws j)]] [.row e 1 (E.cR xs)] 1 al (.tup []) [.row e 1 (E.cR (stabF ws xs))] := by
  obtain ⟨ys, hys⟩ : ∃ ys, ys = stabF ws xs := ⟨_, rfl⟩
  have hpad : ys.length = xs.length := by rw [hys]; exact (stabF_spec hx).1.length_eq
  rw [← hys]
  have hcell : ∀ (zs : List Int) (t : Nat), t < zs.length → (E.cR zs)[t]? = some (.pv (.raw (.int .i64 (zs.getD t 0)))) := by
    intro zs t ht
    have h3 := E.cR_get zs (i := t) (j := 0) ht (by rw [hs]; exact Nat.one_pos)
    rw [hs, Nat.mul_one, Nat.add_zero] at h3
    rw [h3]
    have e2 : zs.getD t E.z = zs.getD t 0 := by simp [List.getD_eq_getElem?_getD, ht]
    rw [e2, hcf]
  refine ⟨hf, fun ι R w vs hv hR hin hinj hout hlt _ _ => ?_⟩
  match vs, hv with
  | u :: us, hv =>
    simp only [RelL] at hv
    obtain ⟨hu, hus⟩ := hv
    obtain ⟨fv, rfl⟩ : ∃ fv, us = [fv] := by
      match us, hus with
      | [fv], _ => exact ⟨fv, rfl⟩
      | [], hus => simp [RelL] at hus
      | _ :: _ :: _, hus => simp [RelL] at hus
    simp only [RelL, RelA, and_true] at hus
    obtain ⟨cs, rfl, hcs⟩ := hus
    obtain ⟨pv_, rfl⟩ : ∃ pv_, cs = #[pv_] := by
      obtain ⟨cl⟩ := cs
      match cl, hcs with
      | [pv_], _ => exact ⟨pv_, rfl⟩
      | [], hcs => simp [RelL] at hcs
      | _ :: _ :: _, hcs => simp [RelL] at hcs
    have hpv : RelA ι R w (.roat 1 fun j => CE.cf ws j) pv_ := by
      have : RelL ι R w [.roat 1 fun j => CE.cf ws j] [pv_] := hcs
      simp only [RelL, and_true] at this
      exact this
    simp only [RelA] at hpv
    obtain ⟨pg, po, rfl, hRp, hpc⟩ := hpv
    obtain ⟨sv, hsv, _, hrp⟩ := hpc 0 Nat.one_pos
    rw [hce] at hrp
    simp only [RelP] at hrp
    obtain ⟨wa, wc, rfl, hwc, hwn, hwa⟩ := hrp
    have hB := hin 0 _ rfl
    by_cases hx0 : xs = []
    · subst hx0
      have hy : ys = [] := List.eq_nil_of_length_eq_zero (by have h := hpad; simp only [List.length_nil] at h; omega)
      subst hy
      have hform : ∃ a c, u = .slice a 0 c := by
        simp only [RelA] at hu
        rcases hu with ⟨_, _, _, rfl⟩ | ⟨g, c, a, _, rfl, _⟩
        · exact ⟨none, 0, rfl⟩
        · exact ⟨a, _, rfl⟩
      obtain ⟨a, c, rfl⟩ := hform
      refine (Try.sortStable_0 a c w _).mono ?_
      rintro ex w' ⟨rfl, rfl⟩
      refine ⟨_, ι, rfl, BelowB.refl _ _ _, ?_, ?_, ?_, ?_, ?_, fun _ _ _ h => h⟩
      · intro i b hb
        cases i with
        | zero =>
          simp at hb
          subst hb
          obtain ⟨n, hn, hs1, hn47, h⟩ := hB
          have hn0 : n = 0 := by
            have hn' : 0 = n * 1 := by simpa [Elem.cR] using hn
            omega
          subst hn0
          refine ⟨0, by simp [Elem.cR], hs1, by omega, ?_⟩
          rcases h with h | ⟨g, cap, base, cur, h1, h2, h3, h4, h5, _, _⟩
          · exact .inl h
          · exact .inr ⟨g, cap, base, cur, h1, h2, h3, h4, h5, by simp [Elem.cR, RelL], by intro v hv; simp at hv⟩
        | succ i => simp at hb
      · exact ⟨#[], rfl, by simp [RelL]⟩
      · intro i b g c hb hi
        cases i with
        | zero => exact .inr ⟨0, _, c, rfl, hi⟩
        | succ i => simp at hb
      · intro i j b b' g c c' hb hb' _ _
        cases i with
        | zero => cases j with
          | zero => rfl
          | succ j => simp at hb'
        | succ i => simp at hb
      · intro i x hi; exact hlt i x hi
    · obtain ⟨n, hn, hs1, hn47, h⟩ := hB
      rw [E.cR_length, hs] at hn
      have hnx : n = xs.length := by omega
      subst hnx
      have hpos : 0 < xs.length := List.length_pos_iff.2 hx0
      have hw0 : 0 < ws.length := by
        cases xs with
        | nil => exact absurd rfl hx0
        | cons x xs => have := hx x (by simp); omega
      obtain ⟨wg, wo, rfl, hRw, hwcells⟩ := hwa hw0
      rcases h with ⟨_, h⟩ | ⟨g, cap, base, cur, hi, hh, hsz, hnc, hcm, hr, hone⟩
      · omega
      simp only [RelA] at hu
      rcases hu with ⟨_, _, h, _⟩ | ⟨g', c', a, hi', rfl, hle, ha0⟩
      · omega
      rw [hi] at hi'
      obtain ⟨rfl, rfl⟩ : g = g' ∧ ⟨cap, base⟩ = c' := by simpa using hi'
      obtain rfl := ha0 (by show 0 < cap; omega)
      have hng : ¬ R g := hout 0 _ g _ rfl hi
      have hcells : ∀ t, t < xs.length → cur[base + t]? = some (.int .i64 (xs.getD t 0)) := by
        intro t ht
        obtain ⟨u', hu', hrv⟩ := hr.get t _ (hcell xs t ht)
        rw [raw_inv hrv] at hu'
        rw [List.getElem?_take, if_pos (by omega), List.getElem?_drop] at hu'
        simpa using hu'
      have e0 : (0 * 1 + base) = base := by omega
      rw [Nat.sub_zero, e0]
      have key := Try.sort_pieces (cap := cap) (ws := ws) (xs := xs) (p := pg) (po := po) (B := wg) (o := wo) (c := wc) (w := w) (by rw [Nat.add_zero] at hsv; exact hsv) (fun i hi => by
        obtain ⟨x, hx1, _, hx2⟩ := hwcells i hi 0 Nat.one_pos
        have hx2 : x = _ := hx2
        subst hx2
        rw [Nat.mul_one, Nat.add_zero] at hx1
        exact hx1) hw hx hx0 (by omega) hxl (blk := g) (off := base) (Array.getElem?_eq_some_iff.1 hh).1 (fun e => hng (e ▸ hRp)) (fun e => hng (e ▸ hRw)) (fun i hi => by
        have h1 := hcells i hi
        have e4 : xs.getD i 0 = xs[i] := by simp [List.getD_eq_getElem?_getD, hi]
        rw [e4] at h1
        exact ⟨by simp [World.cell?, hh, h1], by simp [World.frozen?, hh]⟩)
      refine key.mono ?_
      rintro ex w' ⟨rfl, m, os, rfl⟩
      rw [← hys]
      have hvl : (ys.map eZ).length = xs.length := by rw [List.length_map, hpad]
      obtain ⟨hp, cur', e1, e2, e3, e4, e5, e6, e7⟩ := setCells_block g (ys.map eZ) base (w.drewN m) cur e (0, 0) hh (by rw [hvl]; omega)
      rw [e1]
      have hglt : g < w.heap.size := (Array.getElem?_eq_some_iff.1 hh).1
      have e4' : (grow { w.drewN m with heap := hp } os).heap[g]? = some (.cells cur' e (0, 0)) := by
        rw [heap_grow_old _ _ (by show g < hp.size; rw [e2]; exact hglt)]; exact e4
      refine ⟨_, ι, rfl, ⟨rfl, rfl, rfl, by rw [size_grow]; show w.heap.size ≤ hp.size + os.size; rw [e2]; show w.heap.size ≤ w.heap.size + _; omega, fun k hk hnb => ?_⟩, ?_, ?_, ?_, ?_, ?_, fun _ _ _ h => h⟩
      · rw [heap_grow_old _ _ (by show k < hp.size; rw [e2]; exact hk)]
        exact e3 k (fun hkg => hnb (by rw [hkg]; exact ⟨0, _, ⟨cap, base⟩, rfl, hi⟩))
      · intro i b hb
        cases i with
        | zero =>
          simp at hb
          subst hb
          refine ⟨ys.length, by rw [E.cR_length, hs], hs1, by omega, .inr ⟨g, cap, base, cur', hi, e4', by rw [e5, hsz], by omega, hcm, ?_, ?_⟩⟩
          · refine RelL.of_get (by rw [E.cR_length, hs, List.length_take, List.length_drop]; show _ = min _ (cur'.size - _); rw [e5]; omega) ?_
            intro t x v htx htv
            have ht : t < ys.length := by
              have := (List.getElem?_eq_some_iff.1 htx).1
              rw [E.cR_length, hs] at this; omega
            rw [hcell ys t ht] at htx
            cases htx
            rw [List.getElem?_take, if_pos (by omega), List.getElem?_drop] at htv
            have h6 := e6 t (by rw [hvl]; omega)
            have htv' : cur'[base + t]? = some v := by simpa using htv
            rw [h6, List.getElem?_map, List.getElem?_eq_getElem ht] at htv'
            simp only [RelA, RelP]
            simp only [Option.map_some, Option.some.injEq] at htv'
            rw [← htv']
            simp [List.getD_eq_getElem?_getD, ht]
          · intro v hv
            obtain ⟨j, hj, rfl⟩ := List.getElem_of_mem hv
            rw [List.length_take, List.length_drop] at hj
            have hj1 : j < ys.length := by omega
            have h6 := e6 j (by rw [hvl]; omega)
            have hjl : base + j < cur'.size := by have : cur'.toList.length = cur'.size := rfl; omega
            rw [List.getElem_take, List.getElem_drop]
            rw [Array.getElem?_eq_getElem hjl, List.getElem?_map, List.getElem?_eq_getElem hj1] at h6
            have h7 := Option.some.inj h6
            have h8 : cur'.toList[base + j] = cur'[base + j] := by simp
            rw [h8, h7]
            rfl
        | succ i => simp at hb
      · exact ⟨#[], rfl, by simp [RelL]⟩
      · intro i b g' c hb hi'
        cases i with
        | zero => exact .inr ⟨0, _, c, rfl, hi'⟩
        | succ i => simp at hb
      · intro i j b b' g c c' hb hb' hi hj
        cases i with
        | zero => cases j with
          | zero => rfl
          | succ j => simp at hb'
        | succ i => simp at hb
      · intro i x hi; exact hlt i x hi
end Go.Proofs

