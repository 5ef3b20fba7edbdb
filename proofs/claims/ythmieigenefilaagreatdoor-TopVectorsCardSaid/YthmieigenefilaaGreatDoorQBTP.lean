import Derived.Test.YthmieigenefilaaGreatDoorQBTK
import Derived.Test.YthmieigenefilaaGreatDoorAbUb
import Derived.Test.YthmieigenefilaaGreatDoorAbYk
set_option linter.unusedVariables false
set_option linter.unusedSimpArgs false
namespace Go.Proofs
open Go.RowKit Go.Bn Go.Ab
theorem gok_pow {P : Program} {w : World} (h : GOk P w) {g : Nat} (hg : P.globalNamed "internal/strconv.uint64pow10" = some g) : Lib.TabIs P w "internal/strconv.uint64pow10" .u64 Lib.pow10Tab := by
 have hm : (g, powIs) ∈ tabsOf P := by
  unfold tabsOf
  simp only [List.mem_append]
  refine .inl (.inl (.inr ?_))
  unfold tabAt; rw [hg]; exact List.mem_singleton.2 rfl
 obtain ⟨cs, t, fr, h1, h2⟩ := h _ hm
 unfold Lib.TabIs World.var?
 rw [hg]
 simp only [Option.bind_some]
 rw [show w.heap[g]? = _ from h1]
 have h2 : cs.toList = _ := h2
 rw [← h2]
theorem gok_err {P : Program} {w : World} (h : GOk P w) {g : Nat} {n : String} (hn : n = "strconv.ErrRange" ∨ n = "strconv.ErrSyntax") (hg : P.globalNamed n = some g) : ∃ te pe, w.cell? ⟨g, 0, none⟩ = some (.iface te pe) := by
 have hm : (g, errIs) ∈ tabsOf P := by
  unfold tabsOf
  simp only [List.mem_append]
  rcases hn with rfl | rfl
  ·refine .inl (.inr ?_)
   unfold tabAt; rw [hg]; exact List.mem_singleton.2 rfl
  ·refine .inr ?_
   unfold tabAt; rw [hg]; exact List.mem_singleton.2 rfl
 obtain ⟨cs, h1, h2⟩ := (h _ hm).cell
 obtain ⟨te, pe, rfl⟩ := h1
 exact ⟨te, pe, h2 0⟩
theorem given_pcalls {P : Program} {f : FuncId} (hf : FnOk P f) {xs : List Value} {r : AV} {v : Value} {al : Bool} (hr : ∀ (R : Nat → Prop) (w : World), RelA (fun _ => none) R w r v)
  (h : ∀ w : World, GOk P w → Calls P f xs.toArray w fun e w' => e = .returned v ∧ Below w.heap.size w w') : PCalls P f (xs.map fun v => .pv (.raw v)) al r [] := by
 refine ⟨hf, fun R w vs hv hR hgo => ?_⟩
 have hrest : vs = xs := by
  have key : ∀ (rest us : List Value), RelL (fun _ => none) R w (rest.map fun v => .pv (.raw v)) us → us = rest := by
   intro rest
   induction rest with
   | nil =>
    intro us h
    cases us with
    | nil => rfl
    | cons _ _ => simp [RelL] at h
   | cons r rest ih =>
    intro us h
    cases us with
    | nil => simp [RelL] at h
    | cons u us =>
     simp only [List.map_cons, RelL, RelA] at h
     obtain ⟨h1, h2⟩ := h
     have h1 : u = r := h1
     rw [h1, ih us h2]
  exact key _ _ hv
 subst hrest
 refine (h w hgo).mono ?_
 rintro e w' ⟨rfl, hb⟩
 exact ⟨_, fun _ => none, rfl, hb, fun i b h => by simp at h, hr _ _, fun i b g c h => by simp at h, fun i j b b' g c c' h => by simp at h, fun i x h => by cases h⟩
theorem Tryz.cut_pcalls (s sep : ByteArray) (c : UInt8) (hc : sep = ⟨#[c]⟩) (hs : s.size ≤ 140737488355328) {al : Bool} :
  PCalls Tryz.prog 29 [.pv (.raw (.string s)), .pv (.raw (.string sep))] al (.tup [.pv (.raw (.string (bOf (cutL c s.data.toList).1))), .pv (.raw (.string (bOf (cutL c s.data.toList).2.1))), .pv (.raw (.bool (cutL c s.data.toList).2.2))]) [] :=
 given_pcalls (xs := [.string s, .string sep]) (v := .tuple #[.string (bOf (cutL c s.data.toList).1), .string (bOf (cutL c s.data.toList).2.1), .bool (cutL c s.data.toList).2.2]) ⟨_, Tryz.func29, by kernel_rfl, by kernel_rfl⟩ (fun R w => by simp only [RelA]; exact ⟨_, rfl, by simp only [RelL, and_true]; exact ⟨rfl, rfl, rfl⟩⟩) fun w hgo =>
  (Tryz.cut s sep c hc w hs).mono (by rintro e w' ⟨rfl, n, rfl⟩; exact ⟨rfl, rfl, rfl, rfl, Nat.le_refl _, fun _ _ => rfl⟩)
theorem Tryz.itoa_pcalls (n : Int) (h0 : -9223372036854775808 ≤ n) (h1 : n ≤ 9223372036854775807) {al : Bool} : PCalls Tryz.prog 31 [.pv (.raw (.int .i64 n))] al (.pv (.raw (.string (bOf (itoaL n))))) [] :=
 given_pcalls (xs := [.int .i64 n]) ⟨_, Tryz.func31, by kernel_rfl, by kernel_rfl⟩ (fun R w => rfl) fun w hgo => Tryz.itoa2 n h0 h1 w (gok_pow hgo (g := 3) (by kernel_rfl))
theorem Tryz.read_pcalls (s : ByteArray) (hs : s.size ≤ 140737488355328) {al : Bool} :
  PCalls Tryz.prog 30 [.pv (.raw (.string s))] al (.tup [.agg [.raw (.int .i64 (readL s.data.toList).1.1), .raw (.int .i64 (readL s.data.toList).1.2.1), .raw (.int .i64 (readL s.data.toList).1.2.2.1), .raw (.int .u8 (readL s.data.toList).1.2.2.2)], .pv (.raw (.bool (readL s.data.toList).2))]) [] :=
 given_pcalls (xs := [.string s]) (v := .tuple #[opO (readL s.data.toList).1, .bool (readL s.data.toList).2]) ⟨_, Tryz.func30, by kernel_rfl, by kernel_rfl⟩ (fun R w => by
  simp only [RelA]
  exact ⟨_, rfl, by simp only [RelL, RelA, and_true]; exact ⟨⟨_, rfl, by simp only [RelL, RelPs, and_true]; exact ⟨rfl, rfl, rfl, rfl⟩⟩, rfl⟩⟩) fun w hgo =>
  Tryz.read s hs w (gok_pow hgo (g := 3) (by kernel_rfl)) (gok_err hgo (g := 1) (.inr rfl) (by kernel_rfl)) (gok_err hgo (g := 2) (.inl rfl) (by kernel_rfl))
end Go.Proofs
