import Derived.Test.YtfnmmlcmjmepjaaAbYh
import Derived.Shelf.Lays2
import Derived.Shelf.RegionOpenPlain
import Derived.Lib.Walk
import Derived.Lib.SliceRun
import Derived.Lib.JoinLaws
import Derived.Lib.AppendZeros
import Derived.Lib.AppendZerosOnto
import Derived.Lib.Overlaps
import Derived.Laws.Externs
import Derived.Laws.IdiomCopy
import Derived.Shelf.Spec.SlicesInsert
set_option linter.unusedVariables false
set_option linter.unusedSimpArgs false
namespace Go.Ab
open Go.RowKit Go.Proofs Go.Shelf Go.Lib
variable {P : Program} {ρ : Shelf.Ren}
theorem run_copy_cells_s (w : World) (dT sT ty elem : TypeId) (i : TypeInfo) (b o dLen dCap : Nat) (a : Addr) (sLen sCap k : Nat) (cs : List Value)
  (hu : P.underlying dT = some (.slice elem)) (hi : P.info? elem = some i) (hk : k = Nat.min sLen dLen) (hn : cs.length = k * i.size)
  (hsrc : ∀ j v, cs[j]? = some v → w.cell? (a.add j) = some v) (hc : ∀ j, j < cs.length → (w.cell? ⟨b, o + j, none⟩).isSome = true) (hf : ∀ j, j < cs.length → w.frozen? ⟨b, o + j, none⟩ = false) (h1 : ∀ v ∈ cs, v.oneCell' = true) :
  (Builtin.copy_ #[dT, sT] ty #[.slice (some ⟨b, o, none⟩) dLen dCap, .slice (some a) sLen sCap]).run P w = .ok (goInt k) (w.setCells b o cs) := by
 have hl := run_loadCells_list (P := P) w a cs hsrc
 have hst := run_storeCells_cells (P := P) b o cs 0 w (by simpa using hc) (by simpa using hf) h1
 rw [hn] at hl
 simp [Builtin.copy_, run_underlying hu, Builtin.lenOf, Builtin.firstCells, sizeOf, typeInfo, hi, ← hk, hl, hst]
structure InsL (P : Program) (ρ : Shelf.Ren) (nm og : String) (ta : Array TypeId) (e : TypeId) (i : TypeInfo) (z : Value) : Prop where
 mixed : P.follows .mixedOrders = true
 f21 : P.funcs[ρ.f 21]? = some { Body2.n21 ρ with name := nm, origin := og, targs := ta }
 ov : ∀ (w : World) (x y : Value), (callFunc (ρ.f 27) #[x, y]).run P w = ((Extern.SlicesOverlaps.overlaps #[ρ.t 22, ρ.t 22] #[ρ.t 4] #[x, y]).run P w).andThen fun v w' => .ok (.value v) w'
 t3 : P.underlying (ρ.t 3) = some (TypeDesc.int IntKind.i64)
 a3 : ∀ w, (isAgg (ρ.t 3)).run P w = .ok false w
 z3 : ∀ w, (Go.sizeOf (ρ.t 3)).run P w = .ok 1 w
 v3 : ∀ w, (zeroValue (ρ.t 3)).run P w = .ok (Value.int IntKind.i64 0) w
 t4 : P.underlying (ρ.t 4) = some (TypeDesc.bool)
 a4 : ∀ w, (isAgg (ρ.t 4)).run P w = .ok false w
 z4 : ∀ w, (Go.sizeOf (ρ.t 4)).run P w = .ok 1 w
 v4 : ∀ w, (zeroValue (ρ.t 4)).run P w = .ok (Value.bool false) w
 t22 : P.underlying (ρ.t 22) = some (TypeDesc.slice e)
 a22 : ∀ w, (isAgg (ρ.t 22)).run P w = .ok false w
 z22 : ∀ w, (Go.sizeOf (ρ.t 22)).run P w = .ok 1 w
 v22 : ∀ w, (zeroValue (ρ.t 22)).run P w = .ok (Value.slice none 0 0) w
 ie : P.info? e = some i
 ze : ∀ w, (Go.sizeOf e).run P w = .ok i.size w
 zv : i.zero = some z
 zc : z.cells.size = i.size
 pos : 0 < i.size
set_option maxHeartbeats 4000000 in
set_option maxRecDepth 100000 in
theorem ins_shift {nm og : String} {ta : Array TypeId} {e : TypeId} {ti : TypeInfo} {z : Value} (L : InsL P ρ nm og ta e ti z) (b off n c i vb voff m vc s : Nat) (hs : s = ti.size) (cs vs : List Value) (w : World) (hi : i < n) (hm : 0 < m) (hroom : n + m ≤ c) (hc63 : c ≤ 9223372036854775807) (hvb : vb ≠ b)
  (hcl : cs.length = n * s) (hvl : vs.length = m * s)
  (hcs : ∀ j v, cs[j]? = some v → w.cell? ⟨b, off + j, none⟩ = some v) (hsp : ∀ j, j < (n + m) * s → (w.cell? ⟨b, off + j, none⟩).isSome = true) (hfz : ∀ j, j < (n + m) * s → w.frozen? ⟨b, off + j, none⟩ = false)
  (hvs : ∀ j v, vs[j]? = some v → w.cell? ⟨vb, voff + j, none⟩ = some v) (h1c : ∀ v ∈ cs, v.oneCell' = true) (h1v : ∀ v ∈ vs, v.oneCell' = true)
  (tA tB : TypeId) (kA kB : Nat) (hsa : w.shape? vb = some (tA, kA)) (hsb : w.shape? b = some (tB, kB)) (hkB : kB ≠ 0) (hfa : w.frozen? ⟨vb, voff, none⟩ = false) (hfe : w.frozen? ⟨vb, kA, none⟩ = false) :
  Calls P (ρ.f 21) #[.slice (some ⟨b, off, none⟩) n c, .int .i64 i, .slice (some ⟨vb, voff, none⟩) m vc] w fun e w' =>
   e = .returned (.slice (some ⟨b, off, none⟩) (n + m) c) ∧ w' = (w.drew.setCells b (off + (i + m) * s) (cs.drop (i * s))).setCells b (off + i * s) vs := by
 subst hs
 have t3 := L.t3; have a3 := L.a3; have z3 := L.z3; have v3 := L.v3; have t4 := L.t4; have a4 := L.a4; have z4 := L.z4; have v4 := L.v4; have t22 := L.t22; have a22 := L.a22; have z22 := L.z22; have v22 := L.v22; have ze := L.ze
 have u3 := run_underlying L.t3; have u4 := run_underlying L.t4; have u22 := run_underlying L.t22
 have hpos : 0 < ti.size := L.pos
 have hz1 : ¬ ((m : Int) = 0) := by omega
 have hz2 : ¬ ((i : Int) = (n : Int)) := by omega
 have hov : ∀ lb cb, (callFunc (ρ.f 27) #[.slice (some ⟨vb, voff, none⟩) m vc, .slice (some ⟨b, off + (i + m) * ti.size, none⟩) lb cb]).run P w = .ok (.value (.bool false)) w := fun lb cb => by
  rw [L.ov, Lib.run_overlaps_apart w (ρ.t 22) (ρ.t 4) e L.t22 ti.size ze ⟨vb, voff, none⟩ ⟨b, off + (i + m) * ti.size, none⟩ m vc lb cb hvb tA tB kA kB hsa hsb hkB hfa hfe]
  rfl
 have hdl : (cs.drop (i * ti.size)).length = (n - i) * ti.size := by rw [List.length_drop, hcl, Nat.sub_mul]
 have hle : (i + m) * ti.size + (n - i) * ti.size = (n + m) * ti.size := by rw [← Nat.add_mul]; congr 1; omega
 have hle2 : i * ti.size + m * ti.size ≤ (n + m) * ti.size := by rw [← Nat.add_mul]; exact Nat.mul_le_mul_right _ (by omega)
 have mixed := L.mixed
 have hw1 : IntKind.i64.wrap ((i : Int) + (m : Int)) = (i : Int) + (m : Int) := by rw [IntKind.wrap_i64]; omega
 have hb1 : (0 : Int) ≤ (i : Int) + (m : Int) := by omega
 have hin : i ≤ n := by omega
 have htn : ((i : Int) + (m : Int)).toNat = i + m := by omega
 have hb2 : ¬ (c = i + m) := by omega
 have hb3 : (i : Int) ≤ (n : Int) + (m : Int) := by omega
 have hb4 : ¬ (c = i) := by omega
 have hcp1 : ∀ ty dc sc, (Builtin.copy_ #[(ρ.t 22), (ρ.t 22)] ty #[.slice (some ⟨b, off + (i + m) * ti.size, none⟩) (n + m - (i + m)) dc, .slice (some ⟨b, off + i * ti.size, none⟩) (n + m - i) sc]).run P w.drew = .ok (goInt ((n - i : Nat) : Int)) (w.drew.setCells b (off + (i + m) * ti.size) (cs.drop (i * ti.size))) := fun ty dc sc =>
  run_copy_cells_s w.drew _ _ ty e ti b (off + (i + m) * ti.size) (n + m - (i + m)) dc ⟨b, off + i * ti.size, none⟩ (n + m - i) sc (n - i) (cs.drop (i * ti.size)) L.t22 L.ie (by simp only [Nat.min_def]; split <;> omega) (by rw [hdl])
   (fun j v hj => by rw [Addr.add_lit, Nat.add_assoc]; exact hcs (i * ti.size + j) v (by rwa [List.getElem?_drop] at hj))
   (fun j hj => by rw [Nat.add_assoc]; exact hsp _ (by omega)) (fun j hj => by rw [Nat.add_assoc]; exact hfz _ (by omega)) (fun v hv => h1c v (List.mem_of_mem_drop hv))
 obtain ⟨W1, hW1⟩ : ∃ W1, W1 = w.drew.setCells b (off + (i + m) * ti.size) (cs.drop (i * ti.size)) := ⟨_, rfl⟩
 have hsp1 : ∀ k, k < (n + m) * ti.size → (W1.cell? ⟨b, off + k, none⟩).isSome = true := fun k hk => by
  rw [hW1]
  exact isSome_setCells b _ _ _ (fun j hj => by rw [Nat.add_assoc]; exact hsp _ (by omega)) _ (hsp k hk)
 have hcp2 : ∀ (W : World), (∀ x, W.cell? x = W1.cell? x) → (∀ x, W.frozen? x = W1.frozen? x) → ∀ ty dc, (Builtin.copy_ #[(ρ.t 22), (ρ.t 22)] ty #[.slice (some ⟨b, off + i * ti.size, none⟩) (n + m - i) dc, .slice (some ⟨vb, voff, none⟩) m vc]).run P W = .ok (goInt m) (W.setCells b (off + i * ti.size) vs) := fun W hWc hWf ty dc =>
  run_copy_cells_s W _ _ ty e ti b (off + i * ti.size) (n + m - i) dc ⟨vb, voff, none⟩ m vc m vs L.t22 L.ie (by simp only [Nat.min_def]; split <;> omega) (by rw [hvl])
   (fun j v hj => by
    rw [Addr.add_lit, hWc, hW1, World.cell?_setCells_out b _ _ _ _ (fun h _ => absurd h hvb)]
    exact hvs j v hj)
   (fun j hj => by rw [hWc, Nat.add_assoc]; exact hsp1 _ (by omega)) (fun j hj => by rw [hWf, hW1, World.frozen?_setCells, Nat.add_assoc]; exact hfz _ (by omega)) h1v
 rw [← hW1] at hcp1
 go_enter L.f21, Body2.n21_ntmps ρ
 go_wp2_with (simp only [hov])
 go_region_law_o (refine step_copy_runI rfl _ _ (ρ.t 22) (ρ.t 22) rfl _ _ (by simp [Act.eval, Act.put]) (by simp [Act.eval, Act.put]) (hcp1 _ _ _) ?_)
 go_wp2_with (at_builtin; refine wpList_copy_runI _ rfl _ _ (ρ.t 22) (ρ.t 22) rfl _ _ rfl rfl (hcp2 _ (fun _ => rfl) (fun _ => rfl) _ _) ?_)
 go_ret
 first | exact ⟨rfl, rfl⟩ | exact ⟨rfl, by rw [hW1]⟩
set_option maxHeartbeats 4000000 in
set_option maxRecDepth 100000 in
theorem ins_end_room {nm og : String} {ta : Array TypeId} {e : TypeId} {ti : TypeInfo} {z : Value} (L : InsL P ρ nm og ta e ti z) (b off n c vb voff m vc : Nat) (vs : List Value) (w : World) (hm : 0 < m) (hroom : n + m ≤ c) (hc63 : c ≤ 9223372036854775807)
  (hvl : vs.length = m * ti.size) (hsp : ∀ j, j < m * ti.size → (w.cell? ⟨b, off + n * ti.size + j, none⟩).isSome = true) (hfz : ∀ j, j < m * ti.size → w.frozen? ⟨b, off + n * ti.size + j, none⟩ = false)
  (hvs : ∀ j v, vs[j]? = some v → w.cell? ⟨vb, voff + j, none⟩ = some v) (h1v : ∀ v ∈ vs, v.oneCell' = true) :
  Calls P (ρ.f 21) #[.slice (some ⟨b, off, none⟩) n c, .int .i64 n, .slice (some ⟨vb, voff, none⟩) m vc] w fun e w' =>
   e = .returned (.slice (some ⟨b, off, none⟩) (n + m) c) ∧ w' = w.setCells b (off + n * ti.size) vs := by
 have t3 := L.t3; have a3 := L.a3; have z3 := L.z3; have v3 := L.v3; have t4 := L.t4; have a4 := L.a4; have z4 := L.z4; have v4 := L.v4; have t22 := L.t22; have a22 := L.a22; have z22 := L.z22; have v22 := L.v22; have ze := L.ze
 have u3 := run_underlying L.t3; have u4 := run_underlying L.t4; have u22 := run_underlying L.t22
 have mixed := L.mixed
 have hz1 : ¬ ((m : Int) = 0) := by omega
 have hsrc : Src P ti.size (ρ.t 22) (.slice (some ⟨vb, voff, none⟩) m vc) m vs w := Src.ofSlice w L.t22 ⟨vb, voff, none⟩ m vc vs hvl (fun j u hj => by rw [Addr.add_lit]; exact hvs j u hj) h1v
 have hrun : ∀ ty, (Builtin.append_ #[(ρ.t 22), (ρ.t 22)] ty #[.slice (some ⟨b, off, none⟩) n c, .slice (some ⟨vb, voff, none⟩) m vc]).run P w = .ok (.slice (some ⟨b, off, none⟩) (n + m) c) (w.setCells b (off + n * ti.size) vs) := fun ty =>
  run_append_room_src w (ρ.t 22) (ρ.t 22) ty e ti L.t22 L.ie b off n c _ m vs hsrc hroom (by rw [hvl]; exact hsp) (by rw [hvl]; exact hfz)
 go_enter L.f21, Body2.n21_ntmps ρ
 go_wp2_with (at_builtin; refine Lib.wpList_append_run _ rfl _ _ _ _ rfl _ _ rfl rfl _ _ (hrun _) ?_)
 go_ret
 exact ⟨rfl, rfl⟩
set_option maxHeartbeats 4000000 in
set_option maxRecDepth 100000 in
theorem ins_end_grow {nm og : String} {ta : Array TypeId} {e : TypeId} {ti : TypeInfo} {z : Value} (L : InsL P ρ nm og ta e ti z) (base : Option Addr) (n c vb voff m vc : Nat) (cs vs : List Value) (w : World) (hm : 0 < m) (hnc : n ≤ c) (hroom : c < n + m) (h63 : n + m ≤ 140737488355328) (hbig : (n + m) * ti.bytes ≤ 140737488355328)
  (hcl : cs.length = n * ti.size) (hvl : vs.length = m * ti.size) (hnil : base = none → n = 0)
  (hcs : ∀ a, base = some a → ∀ j v, cs[j]? = some v → w.cell? (a.add j) = some v)
  (hvs : ∀ j v, vs[j]? = some v → w.cell? ⟨vb, voff + j, none⟩ = some v) (h1v : ∀ v ∈ vs, v.oneCell' = true) :
  Calls P (ρ.f 21) #[.slice base n c, .int .i64 n, .slice (some ⟨vb, voff, none⟩) m vc] w fun ex w' =>
   ex = .returned (.slice (some ⟨w.heap.size, 0, none⟩) (n + m) (grownCap w (n + m) c e)) ∧
   w' = w.drew.alloc (.cells ((cs ++ vs).toArray ++ Builtin.zeroCells z.cells (grownCap w (n + m) c e - (n + m))) e) := by
 have t3 := L.t3; have a3 := L.a3; have z3 := L.z3; have v3 := L.v3; have t4 := L.t4; have a4 := L.a4; have z4 := L.z4; have v4 := L.v4; have t22 := L.t22; have a22 := L.a22; have z22 := L.z22; have v22 := L.v22; have ze := L.ze
 have u3 := run_underlying L.t3; have u4 := run_underlying L.t4; have u22 := run_underlying L.t22
 have mixed := L.mixed
 have hz1 : ¬ ((m : Int) = 0) := by omega
 have hsrc : Src P ti.size (ρ.t 22) (.slice (some ⟨vb, voff, none⟩) m vc) m vs w := Src.ofSlice w L.t22 ⟨vb, voff, none⟩ m vc vs hvl (fun j u hj => by rw [Addr.add_lit]; exact hvs j u hj) h1v
 have hold : (Builtin.firstCells ti.size n (.slice base n c)).run P w.drew = .ok cs.toArray w.drew := by
  cases base with
  | none =>
   have h0 := hnil rfl
   subst h0
   rw [List.length_eq_zero_iff.1 (show cs.length = 0 by rw [hcl]; simp)]
   exact run_firstCells_none w.drew ti.size 0 0 c
  | some a => exact run_firstCells_some w.drew ti.size n a n c cs hcl (fun j v hj => hcs a rfl j v hj)
 have hrun : ∀ ty, (Builtin.append_ #[(ρ.t 22), (ρ.t 22)] ty #[.slice base n c, .slice (some ⟨vb, voff, none⟩) m vc]).run P w = _ := fun ty =>
  run_append_grow_src w (ρ.t 22) (ρ.t 22) ty e ti _ L.t22 L.ie L.zv base n c cs hold _ m vs hsrc hroom (by omega) (growslice_fits hroom hbig)
 go_enter L.f21, Body2.n21_ntmps ρ
 cases base with
 | none =>
  have h0 := hnil rfl
  subst h0
  go_wp2_with (at_builtin; refine Lib.wpList_append_run _ rfl _ _ _ _ rfl _ _ rfl rfl _ _ (hrun _) ?_)
  all_goals (go_ret; exact ⟨rfl, rfl⟩)
 | some a =>
  obtain ⟨ab, ao, asp⟩ := a
  go_wp2_with (at_builtin; refine Lib.wpList_append_run _ rfl _ _ _ _ rfl _ _ rfl rfl _ _ (hrun _) ?_)
  all_goals (go_ret; exact ⟨rfl, rfl⟩)
set_option maxHeartbeats 4000000 in
set_option maxRecDepth 100000 in
theorem ins_grow {nm og : String} {ta : Array TypeId} {e : TypeId} {ti : TypeInfo} {z : Value} (L : InsL P ρ nm og ta e ti z) (b off n c i vb voff m vc : Nat) (cs vs : List Value) (w : World) (hi : i < n) (hm : 0 < m) (hnc : n ≤ c) (hroom : c < n + m) (h63 : n + m ≤ 140737488355328) (hbig : (n + m) * ti.bytes ≤ 140737488355328)
  (hcl : cs.length = n * ti.size) (hvl : vs.length = m * ti.size)
  (hcs : ∀ j v, cs[j]? = some v → w.cell? ⟨b, off + j, none⟩ = some v)
  (hvs : ∀ j v, vs[j]? = some v → w.cell? ⟨vb, voff + j, none⟩ = some v) (h1c : ∀ v ∈ cs, v.oneCell' = true) (h1v : ∀ v ∈ vs, v.oneCell' = true) :
  Calls P (ρ.f 21) #[.slice (some ⟨b, off, none⟩) n c, .int .i64 i, .slice (some ⟨vb, voff, none⟩) m vc] w fun ex w' =>
   ex = .returned (.slice (some ⟨w.heap.size, 0, none⟩) (n + m) (grownCap w (n + m) c e)) ∧
   w' = (((w.alloc (.cells ((cs.take (i * ti.size)).toArray ++ Builtin.zeroCells z.cells (n + m - i) ++ Builtin.zeroCells z.cells (grownCap w (n + m) c e - (n + m))) e)).drew.setCells w.heap.size (i * ti.size) vs).drew).setCells w.heap.size ((i + m) * ti.size) (cs.drop (i * ti.size)) := by
 have t3 := L.t3; have a3 := L.a3; have z3 := L.z3; have v3 := L.v3; have t4 := L.t4; have a4 := L.a4; have z4 := L.z4; have v4 := L.v4; have t22 := L.t22; have a22 := L.a22; have z22 := L.z22; have v22 := L.v22; have ze := L.ze
 have u3 := run_underlying L.t3; have u4 := run_underlying L.t4; have u22 := run_underlying L.t22
 have mixed := L.mixed
 have hpos : 0 < ti.size := L.pos
 have hz1 : ¬ ((m : Int) = 0) := by omega
 have hz2 : ¬ ((i : Int) = (n : Int)) := by omega
 have hz3 : (c : Int) < (n : Int) + (m : Int) := by omega
 have hn0 : 0 < n * ti.size := Nat.mul_pos (by omega) hpos
 have hm0 : 0 < m * ti.size := Nat.mul_pos hm hpos
 have hisn : i * ti.size ≤ n * ti.size := Nat.mul_le_mul_right _ (by omega)
 have hims : (i + m) * ti.size = i * ti.size + m * ti.size := Nat.add_mul _ _ _
 have hnms : (n + m) * ti.size = n * ti.size + m * ti.size := Nat.add_mul _ _ _
 have hbw : b < w.heap.size := block_lt_of_cell (hcs 0 _ (List.getElem?_eq_getElem (by omega)))
 have hvw : vb < w.heap.size := block_lt_of_cell (hvs 0 _ (List.getElem?_eq_getElem (by omega)))
 have hkk : (n : Int) + (m : Int) - (i : Int) = ((n + m - i : Nat) : Int) := by omega
 have hik : i + (n + m - i) = n + m := by omega
 have hold : (Builtin.firstCells ti.size i (.slice (some ⟨b, off, none⟩) i c)).run P w.drew = .ok (cs.take (i * ti.size)).toArray w.drew := by
  exact run_firstCells_some w.drew ti.size i ⟨b, off, none⟩ i c (cs.take (i * ti.size)) (by rw [List.length_take]; omega) (fun j v hj => by
   rw [Addr.add_lit]
   rw [List.getElem?_take] at hj
   split at hj
   ·exact hcs j v hj
   ·cases hj)
 have hbm : (n + m - i) * ti.bytes ≤ (n + m) * ti.bytes := Nat.mul_le_mul_right _ (by omega)
 have hrz : ∀ ty, (Builtin.append_ #[(ρ.t 22), (ρ.t 3)] ty #[.slice (some ⟨b, off, none⟩) i c, .int .i64 ((n : Int) + (m : Int) - (i : Int))]).run P w =
   .ok (.slice (some ⟨w.heap.size, 0, none⟩) (n + m) (grownCap w (n + m) c e)) (w.drew.alloc (.cells ((cs.take (i * ti.size)).toArray ++ Builtin.zeroCells z.cells (n + m - i) ++ Builtin.zeroCells z.cells (grownCap w (n + m) c e - (n + m))) e)) := fun ty => by
  have h := Lib.run_append_grow_zeros w (ρ.t 22) (ρ.t 3) ty e ti z .i64 .i64 L.t22 L.t3 L.ie L.zv (some ⟨b, off, none⟩) i c (cs.take (i * ti.size)) hold (n + m - i) (by omega) hpos (by omega) (by omega) (by omega) (by rw [hik]; exact growslice_fits hroom hbig)
  rw [hik] at h
  rw [hkk]
  exact h
 obtain ⟨G, hG⟩ : ∃ G, G = grownCap w (n + m) c e := ⟨_, rfl⟩
 obtain ⟨ROW, hROW⟩ : ∃ ROW : Array Value, ROW = (cs.take (i * ti.size)).toArray ++ Builtin.zeroCells z.cells (n + m - i) ++ Builtin.zeroCells z.cells (G - (n + m)) := ⟨_, rfl⟩
 rw [← hG] at hrz ⊢
 rw [← hROW] at hrz ⊢
 have hRl : (n + m) * ti.size ≤ ROW.size := by
  rw [hROW]
  have : (n + m - i) * ti.size + i * ti.size = (n + m) * ti.size := by rw [← Nat.add_mul]; congr 1; omega
  simp only [Array.size_append, List.size_toArray, List.length_take, size_zeroCells, L.zc]
  omega
 obtain ⟨W1, hW1⟩ : ∃ W1, W1 = w.drew.alloc (.cells ROW e) := ⟨_, rfl⟩
 rw [← hW1] at hrz
 have hN : ∀ j, j < (n + m) * ti.size → (W1.cell? ⟨w.heap.size, j, none⟩).isSome = true := fun j hj => by
  rw [hW1, World.cell?_alloc_at (w := w.drew) ROW _ w.heap.size j rfl, Array.getElem?_eq_getElem (by omega)]; rfl
 have hNf : ∀ j, W1.frozen? ⟨w.heap.size, j, none⟩ = false := fun j => by rw [hW1]; exact World.frozen?_alloc_at (w := w.drew) ROW _ w.heap.size j rfl
 have hOb : ∀ j v, w.cell? ⟨b, j, none⟩ = some v → W1.cell? ⟨b, j, none⟩ = some v := fun j v h => by rw [hW1, World.cell?_alloc_past (w := w.drew) _ b j hbw]; exact h
 have hOv : ∀ j v, w.cell? ⟨vb, j, none⟩ = some v → W1.cell? ⟨vb, j, none⟩ = some v := fun j v h => by rw [hW1, World.cell?_alloc_past (w := w.drew) _ vb j hvw]; exact h
 have hcpA : ∀ (W : World), (∀ x, W.cell? x = W1.cell? x) → (∀ x, W.frozen? x = W1.frozen? x) → ∀ ty dc, (Builtin.copy_ #[(ρ.t 22), (ρ.t 22)] ty #[.slice (some ⟨w.heap.size, i * ti.size, none⟩) (n + m - i) dc, .slice (some ⟨vb, voff, none⟩) m vc]).run P W = .ok (goInt m) (W.setCells w.heap.size (i * ti.size) vs) := fun W hWc hWf ty dc =>
  run_copy_cells_s W _ _ ty e ti w.heap.size (i * ti.size) (n + m - i) dc ⟨vb, voff, none⟩ m vc m vs L.t22 L.ie (by simp only [Nat.min_def]; split <;> omega) hvl
   (fun j v hj => by rw [Addr.add_lit, hWc]; exact hOv _ v (hvs j v hj))
   (fun j hj => by rw [hWc]; exact hN _ (by omega)) (fun j hj => by rw [hWf]; exact hNf _) h1v
 have hGn : n + m ≤ G := by rw [hG]; exact grownCap_ge w _ _ _
 have hG63 : G ≤ 9223372036854775807 := by
  have := grownCap_le_maxLen w (n + m) c e (by unfold maxLen; omega)
  rw [← hG] at this
  unfold maxLen at this
  omega
 have hGi : ¬ (G = i) := by omega
 have hGim : ¬ (G = i + m) := by omega
 have hci : ¬ (c = i) := by omega
 have hbN : b ≠ w.heap.size := by omega
 have hdl : (cs.drop (i * ti.size)).length = (n - i) * ti.size := by rw [List.length_drop, hcl, Nat.sub_mul]
 have hdl2 : (n - i) * ti.size + i * ti.size = n * ti.size := by rw [← Nat.add_mul]; congr 1; omega
 have hcpB : ∀ (W : World), (∀ x, W.cell? x = (W1.setCells w.heap.size (i * ti.size) vs).cell? x) → (∀ x, W.frozen? x = (W1.setCells w.heap.size (i * ti.size) vs).frozen? x) → ∀ ty dc sc, (Builtin.copy_ #[(ρ.t 22), (ρ.t 22)] ty #[.slice (some ⟨w.heap.size, (i + m) * ti.size, none⟩) (n + m - (i + m)) dc, .slice (some ⟨b, off + i * ti.size, none⟩) (n - i) sc]).run P W = .ok (goInt ((n - i : Nat) : Int)) (W.setCells w.heap.size ((i + m) * ti.size) (cs.drop (i * ti.size))) := fun W hWc hWf ty dc sc =>
  run_copy_cells_s W _ _ ty e ti w.heap.size ((i + m) * ti.size) (n + m - (i + m)) dc ⟨b, off + i * ti.size, none⟩ (n - i) sc (n - i) (cs.drop (i * ti.size)) L.t22 L.ie (by simp only [Nat.min_def]; split <;> omega) hdl
   (fun j v hj => by
    rw [Addr.add_lit, hWc, World.cell?_setCells_out _ _ _ _ _ (fun h _ => absurd h hbN), Nat.add_assoc]
    exact hOb _ v (hcs (i * ti.size + j) v (by rwa [List.getElem?_drop] at hj)))
   (fun j hj => by rw [hWc]; exact isSome_setCells _ _ _ _ (fun t ht => hN _ (by omega)) _ (hN _ (by omega)))
   (fun j hj => by rw [hWf, World.frozen?_setCells]; exact hNf _) (fun v hv => h1c v (List.mem_of_mem_drop hv))
 subst hW1
 have hE1 : ∀ x, ((w.alloc (.cells ROW e)).drew).cell? x = (w.drew.alloc (.cells ROW e)).cell? x := fun x => rfl
 have hE2 : ∀ x, ((w.alloc (.cells ROW e)).drew).frozen? x = (w.drew.alloc (.cells ROW e)).frozen? x := fun x => rfl
 have hF1 : ∀ x, (((w.alloc (.cells ROW e)).drew.setCells w.heap.size (i * ti.size) vs).drew).cell? x = ((w.drew.alloc (.cells ROW e)).setCells w.heap.size (i * ti.size) vs).cell? x := fun x => rfl
 have hF2 : ∀ x, (((w.alloc (.cells ROW e)).drew.setCells w.heap.size (i * ti.size) vs).drew).frozen? x = ((w.drew.alloc (.cells ROW e)).setCells w.heap.size (i * ti.size) vs).frozen? x := fun x => rfl
 have hw1 : IntKind.i64.wrap ((i : Int) + (m : Int)) = (i : Int) + (m : Int) := by rw [IntKind.wrap_i64]; omega
 have hb1 : (0 : Int) ≤ (i : Int) + (m : Int) := by omega
 have hin : i ≤ n := by omega
 have htn : ((i : Int) + (m : Int)).toNat = i + m := by omega
 have hb3 : (i : Int) ≤ (n : Int) := by omega
 clear hkk hik hold hROW hG hRl hims hnms hdl2
 go_enter L.f21, Body2.n21_ntmps ρ
 go_wp2_with (first
  | (at_builtin; refine Lib.wpList_append_run _ rfl _ _ _ _ rfl _ _ rfl rfl _ _ (hrz _) ?_)
  | (at_builtin; refine wpList_copy_runI _ rfl _ _ (ρ.t 22) (ρ.t 22) rfl _ _ rfl rfl (hcpA _ hE1 hE2 _ _) ?_)
  | (at_builtin; refine wpList_copy_runI _ rfl _ _ (ρ.t 22) (ρ.t 22) rfl _ _ rfl rfl (hcpB _ (fun _ => rfl) (fun _ => rfl) _ _ _) ?_))
 go_region_law_o (refine step_copy_runI rfl _ _ (ρ.t 22) (ρ.t 22) rfl (.slice (some ⟨w.heap.size, (i + m) * ti.size, none⟩) (n + m - (i + m)) (G - (i + m))) (.slice (some ⟨b, off + i * ti.size, none⟩) (n - i) (c - i)) (by simp [Act.eval, Act.put]) (by simp [Act.eval, Act.put]) (hcpB _ hF1 hF2 (ρ.t 3) (G - (i + m)) (c - i)) ?_)
 go_wp2
 go_ret
 exact ⟨rfl, rfl⟩
theorem rel_bald {ι ι' : Emb} {R R' : Nat → Prop} {w w' : World} : ∀ {xs : List AV} {us : List Value}, AllPv xs → AV.baldL xs = true → RelL ι R w xs us → RelL ι' R' w' xs us
 | [], [], _, _, _ => by simp [RelL]
 | [], _ :: _, _, _, h => by simp [RelL] at h
 | _ :: _, [], _, _, h => by simp [RelL] at h
 | x :: xs, u :: us, hp, hb, h => by
  simp only [AV.baldL, Bool.and_eq_true] at hb
  simp only [RelL] at h ⊢
  obtain ⟨p, rfl⟩ := hp x List.mem_cons_self
  refine ⟨?_, rel_bald (fun y hy => hp y (List.mem_cons_of_mem _ hy)) hb.2 h.2⟩
  cases p with
  | raw v => have := h.1; simp only [RelA, RelP] at this ⊢; exact this
  | ro s n c => simp [AV.bald] at hb
theorem setCells_blockE (b : Nat) : ∀ (vs : List Value) (o : Nat) (w : World) (cur : Array Value) (e : TypeId) (fr : Nat × Nat), w.heap[b]? = some (.cells cur e fr) → o + vs.length ≤ cur.size →
  ∃ (h : Array Obj) (cur' : Array Value), w.setCells b o vs = { w with heap := h } ∧ h.size = w.heap.size ∧ (∀ k, k ≠ b → h[k]? = w.heap[k]?) ∧ h[b]? = some (.cells cur' e fr) ∧ cur'.size = cur.size ∧
   (∀ j, j < vs.length → cur'[o + j]? = vs[j]?) ∧ (∀ j, j < o ∨ o + vs.length ≤ j → cur'[j]? = cur[j]?)
 | [], o, w, cur, e, fr, hb, _ => ⟨w.heap, cur, rfl, rfl, fun _ _ => rfl, hb, rfl, fun j hj => by simp at hj, fun _ _ => rfl⟩
 | v :: r, o, w, cur, e, fr, hb, hl => by
  simp only [List.length_cons] at hl
  have hblt : b < w.heap.size := (Array.getElem?_eq_some_iff.1 hb).1
  have hbv : w.heap[b] = .cells cur e fr := (Array.getElem?_eq_some_iff.1 hb).2
  have h1 : (w.setCell ⟨b, o, none⟩ v).heap[b]? = some (.cells (cur.setIfInBounds o v) e fr) := by
   unfold World.setCell
   rw [Array.getElem?_eq_getElem (by simpa using hblt), Array.getElem_modify]
   simp [hbv]
  have h2 : ∀ k, k ≠ b → (w.setCell ⟨b, o, none⟩ v).heap[k]? = w.heap[k]? := by
   intro k hk
   unfold World.setCell
   simp only [Array.getElem?_modify]
   rw [if_neg (Ne.symm hk)]
  obtain ⟨h, cur', e1, e2, e3, e4, e5, e6, e7⟩ := setCells_blockE b r (o + 1) (w.setCell ⟨b, o, none⟩ v) (cur.setIfInBounds o v) e fr h1 (by simp; omega)
  refine ⟨h, cur', ?_, ?_, ?_, e4, by rw [e5]; simp, ?_, ?_⟩
  ·rw [World.setCells, e1]; rfl
  ·rw [e2]; simp [World.setCell]
  ·intro k hk; rw [e3 k hk, h2 k hk]
  ·intro j hj
   cases j with
   | zero =>
    rw [Nat.add_zero, e7 o (by omega), Array.getElem?_eq_getElem (by simp; omega)]
    simp
   | succ j =>
    have := e6 j (by simpa using hj)
    rw [show o + 1 + j = o + (j + 1) by omega] at this
    simpa using this
  ·intro j hj
   simp only [List.length_cons] at hj
   rw [e7 j (by omega)]
   simp only [Array.getElem?_setIfInBounds]
   rw [if_neg (by omega)]
theorem part_get {cur : Array Value} {base k j : Nat} (hj : j < k) : ((cur.toList.drop base).take k)[j]? = cur[base + j]? := by
 rw [List.getElem?_take, if_pos hj, List.getElem?_drop]
 simp
theorem part_eq {cur : Array Value} {base k : Nat} {L : List Value} (hl : L.length = k) (hb : base + k ≤ cur.size) (h : ∀ j, j < k → cur[base + j]? = L[j]?) : (cur.toList.drop base).take k = L := by
 apply List.ext_getElem?
 intro j
 by_cases hj : j < k
 ·rw [part_get hj]; exact h j hj
 ·rw [List.getElem?_eq_none (by simp; omega), List.getElem?_eq_none (by omega)]
def MPost (ι : Emb) (R : Nat → Prop) (w : World) (hin : List Blk) (nk : Nat) (al : Bool) (res : AV) (hout : List Blk) (e : Ending) (w' : World) : Prop :=
 ∃ v ι', e = .returned v ∧ BelowB (inBlk ι hin) w.heap.size w w' ∧
   (∀ i b, hout[i]? = some b → RelB ι' (outR al R ι hin w.heap.size w'.heap.size ι' hout) w' i b) ∧
   RelA ι' (outR al R ι hin w.heap.size w'.heap.size ι' hout) w' res v ∧
   (∀ i b g c, hout[i]? = some b → ι' i = some (some (g, c)) → w.heap.size ≤ g ∨ inBlk ι hin g) ∧
   (∀ i j b b' g c c', hout[i]? = some b → hout[j]? = some b' → ι' i = some (some (g, c)) → ι' j = some (some (g, c')) → i = j) ∧
   (∀ i x, ι' i = some x → i < hout.length) ∧ (∀ i x, i < nk → ι i = some x → ι' i = some x)
theorem ins_mcalls {α : Type} {nm og : String} {ta : Array TypeId} {e : TypeId} {ti : TypeInfo} {z : Value} (L : InsL P ρ nm og ta e ti z) {f : FuncId} (hfρ : ρ.f 21 = f) (hf : FnOk P f) {E : Elem α} (hraw : E.Raw) {s : Nat} (hs : E.s = s) (hsz : s = ti.size) {by_ : Nat} (hby : ti.bytes = by_)
  {xs vs : List α} {i : Nat} (hi : i ≤ xs.length) (hv : 0 < vs.length) (hb : (xs.length + vs.length) * by_ ≤ 140737488355328) (hb2 : xs.length + vs.length ≤ 140737488355328) {al : Bool} :
  MCalls P f [.row 0 s 0 xs.length, .pv (.raw (.int .i64 i)), .row 1 s 0 vs.length] [.row e s (E.cR xs), .row e s (E.cR vs)] 0 al (.row 0 s 0 (xs.take i ++ vs ++ xs.drop i).length) [.row e s (E.cR (xs.take i ++ vs ++ xs.drop i))] := by
 subst hfρ hs hby
 have hlen : (xs.take i ++ vs ++ xs.drop i).length = xs.length + vs.length := by simp; omega
 rw [hlen]
 refine ⟨hf, fun ι R w us hus hR hin hinj hout hlt _ _ => ?_⟩
 match us, hus with
 | [], hus => simp [RelL] at hus
 | [_], hus => simp [RelL] at hus
 | [_, _], hus => simp [RelL] at hus
 | _ :: _ :: _ :: _ :: _, hus => simp [RelL] at hus
 | [u0, u1, u2], hus =>
 simp only [RelL, and_true] at hus
 obtain ⟨hu0, hu1, hu2⟩ := hus
 have hu1 := raw_inv hu1
 subst hu1
 have hE : 0 < E.s := by rw [hsz]; exact L.pos
 generalize hn : xs.length = n at *
 generalize hm : vs.length = m at *
 have hb0 := hin 0 _ rfl
 have hb1 := hin 1 _ rfl
 obtain ⟨n1, hn1, _, hn147, hb1⟩ := hb1
 rw [E.cR_length, hm] at hn1
 obtain rfl : m = n1 := Nat.eq_of_mul_eq_mul_right hE hn1
 rcases hb1 with ⟨_, h0⟩ | ⟨gv, capv, bv, curv, hιv, hhv, hszv, hncv, hcmv, hrv, hov⟩
 ·omega
 simp only [RelA] at hu2
 rcases hu2 with ⟨_, _, h0, _⟩ | ⟨gv', cv', av, hιv', hu2, hle2, hav⟩
 ·omega
 rw [hιv] at hιv'
 obtain ⟨rfl, rfl⟩ : gv = gv' ∧ ⟨capv, bv⟩ = cv' := by simpa using hιv'
 obtain rfl := hav (by show 0 < capv; omega)
 rw [Nat.zero_mul, Nat.zero_add, Nat.sub_zero] at hu2
 simp only at hu2
 subst hu2
 obtain ⟨V, hV⟩ : ∃ V, V = (curv.toList.drop bv).take (m * E.s) := ⟨_, rfl⟩
 rw [← hV] at hrv hov
 have hVl : V.length = m * E.s := by rw [← hrv.length, E.cR_length, hm]
 have hmc : m * E.s ≤ capv * E.s := Nat.mul_le_mul_right _ hncv
 have hvs : ∀ j v, V[j]? = some v → w.cell? ⟨gv, bv + j, none⟩ = some v := by
  intro j v hj
  have hjl := (List.getElem?_eq_some_iff.1 hj).1
  rw [hV, part_get (by omega)] at hj
  simp [World.cell?, hhv, hj]
 have hsa : w.shape? gv = some (e, curv.size) := by simp [World.shape?, hhv]
 have hfv : ∀ k, w.frozen? ⟨gv, k, none⟩ = false := by intro k; simp [World.frozen?, hhv]
 have hbald : ∀ l : List α, AV.baldL (E.cR l) = true := fun l => Elem.cR_bald hraw l
 have hvw : gv < w.heap.size := (Array.getElem?_eq_some_iff.1 hhv).1
 have fin : ∀ (X : List Value), X.length = n * E.s → RelL ι R w (E.cR xs) X → Ones X → ∀ (g' cap' base' : Nat) (cur' : Array Value) (w' : World), BelowB (inBlk ι [.row e E.s (E.cR xs), .row e E.s (E.cR vs)]) w.heap.size w w' → (w.heap.size ≤ g' ∨ inBlk ι [.row e E.s (E.cR xs), .row e E.s (E.cR vs)] g') →
   w'.heap[g']? = some (.cells cur' e (0, 0)) → cur'.size = base' + cap' * E.s → n + m ≤ cap' → cap' ≤ maxLen → (∀ j, j < (n + m) * E.s → cur'[base' + j]? = (X.take (i * E.s) ++ V ++ X.drop (i * E.s))[j]?) →
   MPost ι R w [.row e E.s (E.cR xs), .row e E.s (E.cR vs)] 0 al (.row 0 E.s 0 (n + m)) [.row e E.s (E.cR (xs.take i ++ vs ++ xs.drop i))] (.returned (.slice (some ⟨g', base', none⟩) (n + m) cap')) w' := by
  intro X hXl hX hXo g' cap' base' cur' w' hbel hnew hh hsz' hnc hcm hcells
  have hXL : (X.take (i * E.s) ++ V ++ X.drop (i * E.s)).length = (n + m) * E.s := by
   have : i * E.s ≤ n * E.s := Nat.mul_le_mul_right _ hi
   simp only [List.length_append, List.length_take, List.length_drop, hXl, hVl]
   rw [Nat.add_mul]
   omega
  have hcc : (n + m) * E.s ≤ cap' * E.s := Nat.mul_le_mul_right _ hnc
  have hpart := part_eq (base := base') hXL (by omega) hcells
  refine ⟨_, fun k => if k = 0 then some (some (g', ⟨cap', base'⟩)) else none, rfl, hbel, ?_, ?_, ?_, ?_, ?_, fun k x hk => by omega⟩
  ·intro k b hk
   cases k with
   | succ k => simp at hk
   | zero =>
    simp only [List.getElem?_cons_zero, Option.some.injEq] at hk
    subst hk
    refine ⟨n + m, by rw [E.cR_length, hlen], hE, hb2, .inr ⟨g', cap', base', cur', rfl, hh, hsz', hnc, hcm, ?_, ?_⟩⟩
    ·rw [hpart]
     refine rel_bald (Elem.cR_pv _ _) (hbald _) ?_ (ι := ι) (R := R) (w := w)
     rw [E.cR_append, E.cR_append, ← E.cR_take, ← E.cR_drop]
     exact ((hX.take _).append hrv).append (hX.drop _)
    ·rw [hpart]
     intro v hv'
     rcases List.mem_append.1 hv' with hv' | hv'
     ·rcases List.mem_append.1 hv' with hv' | hv'
      ·exact hXo v (List.mem_of_mem_take hv')
      ·exact hov v hv'
     ·exact hXo v (List.mem_of_mem_drop hv')
  ·simp only [RelA]
   exact .inr ⟨g', ⟨cap', base'⟩, some ⟨g', base', none⟩, by simp, by first | rfl | simp, by show 0 + (n + m) ≤ cap'; omega, fun _ => by simp⟩
  ·intro k b g c hk hik
   cases k with
   | succ k => simp at hk
   | zero =>
    simp only [if_true, Option.some.injEq, Prod.mk.injEq] at hik
    obtain ⟨rfl, _⟩ := hik
    exact hnew
  ·intro k j b b' g c c' hk hj _ _
   cases k with
   | succ k => simp at hk
   | zero => cases j with
    | succ j => simp at hj
    | zero => rfl
  ·intro k x hk
   cases k with
   | zero => simp
   | succ k => simp at hk
 have hcap : ∀ need old, need ≤ 140737488355328 → need ≤ grownCap w need old e ∧ grownCap w need old e ≤ maxLen := fun need old hn => ⟨grownCap_ge w need old e, grownCap_le_maxLen w need old e (by unfold maxLen; omega)⟩
 have finNew : ∀ (X : List Value), X.length = n * E.s → RelL ι R w (E.cR xs) X → Ones X → i = n → ∀ old, ∀ w', w' = w.drew.alloc (.cells ((X ++ V).toArray ++ Builtin.zeroCells z.cells (grownCap w (n + m) old e - (n + m))) e) →
   MPost ι R w [.row e E.s (E.cR xs), .row e E.s (E.cR vs)] 0 al (.row 0 E.s 0 (n + m)) [.row e E.s (E.cR (xs.take i ++ vs ++ xs.drop i))] (.returned (.slice (some ⟨w.heap.size, 0, none⟩) (n + m) (grownCap w (n + m) old e))) w' := by
  intro X hXl hX hXo hin' old w' hw'
  obtain ⟨hg1, hg2⟩ := hcap (n + m) old hb2
  have hnm : (n + m) * E.s = n * E.s + m * E.s := Nat.add_mul _ _ _
  refine fin X hXl hX hXo w.heap.size (grownCap w (n + m) old e) 0 ((X ++ V).toArray ++ Builtin.zeroCells z.cells (grownCap w (n + m) old e - (n + m))) w' (by rw [hw']; exact BelowB.of (below_drew_alloc w _)) (.inl (Nat.le_refl _)) (by rw [hw']; exact heap_alloc_new w.drew _) ?_ hg1 hg2 ?_
  ·simp only [Array.size_append, List.size_toArray, List.length_append, size_zeroCells, L.zc, hXl, hVl, ← hsz]
   rw [Nat.sub_mul, hnm]
   have := Nat.mul_le_mul_right E.s hg1
   omega
  ·intro j hj
   rw [hin', Nat.zero_add, Array.getElem?_append_left (by simp [hXl, hVl]; omega)]
   have : X.take (n * E.s) = X := List.take_of_length_le (by omega)
   have h2 : X.drop (n * E.s) = [] := List.drop_of_length_le (by omega)
   rw [this, h2, List.append_nil]
   simp
 rcases hb0 with ⟨n0, hn0, _, _, ⟨hnil, h0⟩ | ⟨g, cap, base, cur, hι, hh, hszc, hnc, hcm, hr, hone⟩⟩
 ·
  subst h0
  rw [E.cR_length, hn] at hn0
  have hn00 : n = 0 := by
   rcases Nat.eq_zero_or_pos n with h | h
   ·exact h
   ·have := Nat.mul_pos h hE; omega
  subst hn00
  simp only [RelA] at hu0
  have hu0' : ∃ a c, u0 = .slice a 0 c ∧ (a = none ∨ True) := by
   rcases hu0 with ⟨_, _, _, rfl⟩ | ⟨g, c, a, hι, rfl, _⟩
   ·exact ⟨none, 0, rfl, .inl rfl⟩
   ·exact ⟨a, _, rfl, .inr trivial⟩
  obtain rfl : i = 0 := by omega
  rcases hu0 with ⟨_, _, _, rfl⟩ | ⟨g, c, a, hι, _⟩
  ·refine (ins_end_grow L none 0 0 gv bv m capv [] V w hv (Nat.le_refl _) (by omega) (by omega) hb (by simp) (by rw [hVl, hsz]) (fun _ => rfl) (fun a h => by cases h) hvs hov).mono ?_
   rintro ex w' ⟨rfl, hw'⟩
   have hx0 : xs = [] := List.eq_nil_of_length_eq_zero hn
   exact finNew [] (by simp) (by rw [hx0, E.cR_nil]; simp only [RelL]) (by intro v hv; simp at hv) rfl 0 w' hw'
  ·rw [hnil] at hι; cases hι
 ·rw [E.cR_length, hn] at hn0
  obtain rfl : n = n0 := Nat.eq_of_mul_eq_mul_right hE hn0
  simp only [RelA] at hu0
  rcases hu0 with ⟨hnil, _⟩ | ⟨g', c', a, hι', hu0, hle0, ha⟩
  ·rw [hι] at hnil; cases hnil
  rw [hι] at hι'
  obtain ⟨rfl, rfl⟩ : g = g' ∧ ⟨cap, base⟩ = c' := by simpa using hι'
  rw [Nat.zero_mul, Nat.zero_add] at ha
  rw [Nat.sub_zero] at hu0
  simp only at hu0 ha
  subst hu0
  have hne : gv ≠ g := by
   intro e'
   have := hinj 0 1 _ _ g _ _ rfl rfl hι (by rw [hιv, e'])
   cases this
  obtain ⟨X, hX⟩ : ∃ X, X = (cur.toList.drop base).take (n * E.s) := ⟨_, rfl⟩
  rw [← hX] at hr hone
  have hXl : X.length = n * E.s := by rw [← hr.length, E.cR_length, hn]
  have hncs : n * E.s ≤ cap * E.s := Nat.mul_le_mul_right _ hnc
  have hcs : ∀ j v, X[j]? = some v → w.cell? ⟨g, base + j, none⟩ = some v := by
   intro j v hj
   have hjl := (List.getElem?_eq_some_iff.1 hj).1
   rw [hX, part_get (by omega)] at hj
   simp [World.cell?, hh, hj]
  have hXc : ∀ j, j < n * E.s → cur[base + j]? = X[j]? := fun j hj => by rw [hX, part_get hj]
  have hcm' : cap ≤ 9223372036854775807 := by unfold maxLen at hcm; omega
  have hgw : g < w.heap.size := (Array.getElem?_eq_some_iff.1 hh).1
  have hin0 : inBlk ι [.row e E.s (E.cR xs), .row e E.s (E.cR vs)] g := ⟨0, _, ⟨cap, base⟩, rfl, hι⟩
  have hfz : ∀ k, w.frozen? ⟨g, k, none⟩ = false := by intro k; simp [World.frozen?, hh]
  have hsb : w.shape? g = some (e, cur.size) := by simp [World.shape?, hh]
  have hnm : (n + m) * E.s = n * E.s + m * E.s := Nat.add_mul _ _ _
  have his : i * E.s ≤ n * E.s := Nat.mul_le_mul_right _ hi
  have hims : (i + m) * E.s = i * E.s + m * E.s := Nat.add_mul _ _ _
  by_cases hroom : n + m ≤ cap
  ·
   obtain rfl := ha (by omega)
   have hnmc : (n + m) * E.s ≤ cap * E.s := Nat.mul_le_mul_right _ hroom
   have hsp : ∀ j, j < (n + m) * E.s → (w.cell? ⟨g, base + j, none⟩).isSome = true := by
    intro j hj
    have : base + j < cur.size := by omega
    simp [World.cell?, hh, this]
   by_cases hie : i = n
   ·subst hie
    refine (ins_end_room L g base i cap gv bv m capv V w hv hroom hcm' (by rw [hVl, hsz]) (fun j hj => by rw [← hsz] at hj ⊢; rw [Nat.add_assoc]; exact hsp _ (by omega)) (fun j _ => hfz _) hvs hov).mono ?_
    rintro ex w' ⟨rfl, hw'⟩
    rw [← hsz] at hw'
    obtain ⟨hp, cur', e1, e2, e3, e4, e5, e6, e7⟩ := setCells_blockE g V (base + i * E.s) w cur e (0, 0) hh (by omega)
    refine fin X hXl hr hone g cap base cur' w' (by rw [hw', e1]; exact ⟨rfl, rfl, rfl, by show w.heap.size ≤ hp.size; omega, fun k hk hnb => e3 k (fun hkg => hnb (hkg ▸ hin0))⟩) (.inr hin0) (by rw [hw', e1]; exact e4) (by omega) hroom hcm ?_
    intro j hj
    have ht : X.take (i * E.s) = X := List.take_of_length_le (by rw [hXl]; exact Nat.le_refl _)
    have hd : X.drop (i * E.s) = [] := List.drop_of_length_le (by rw [hXl]; exact Nat.le_refl _)
    rw [ht, hd, List.append_nil]
    by_cases hjn : j < i * E.s
    ·rw [e7 _ (by omega), hXc j hjn, List.getElem?_append_left (by omega)]
    ·rw [List.getElem?_append_right (by omega), hXl, ← e6 (j - i * E.s) (by omega)]
     congr 1; omega
   ·have hin' : i < n := by omega
    refine (ins_shift L g base n cap i gv bv m capv E.s hsz X V w hin' hv hroom hcm' hne hXl hVl hcs hsp (fun j _ => hfz _) hvs hone hov e e curv.size cur.size hsa hsb (by have := Nat.mul_pos hv hE; omega) (hfv _) (hfv _)).mono ?_
    rintro ex w' ⟨rfl, hw'⟩
    have hdl : (X.drop (i * E.s)).length + i * E.s = n * E.s := by rw [List.length_drop, hXl]; omega
    obtain ⟨hp, cur1, e1, e2, e3, e4, e5, e6, e7⟩ := setCells_blockE g (X.drop (i * E.s)) (base + (i + m) * E.s) w.drew cur e (0, 0) hh (by omega)
    obtain ⟨hp2, cur', f1, f2, f3, f4, f5, f6, f7⟩ := setCells_blockE g V (base + i * E.s) { w.drew with heap := hp } cur1 e (0, 0) e4 (by omega)
    rw [e1, f1] at hw'
    refine fin X hXl hr hone g cap base cur' w' (by rw [hw']; exact ⟨rfl, rfl, rfl, by show w.heap.size ≤ hp2.size; rw [f2]; show _ ≤ hp.size; rw [e2]; exact Nat.le_refl _, fun k hk hnb => (f3 k (fun hkg => hnb (hkg ▸ hin0))).trans (e3 k (fun hkg => hnb (hkg ▸ hin0)))⟩) (.inr hin0) (by rw [hw']; exact f4) (by omega) hroom hcm ?_
    intro j hj
    have htl : (X.take (i * E.s)).length = i * E.s := by rw [List.length_take]; omega
    by_cases hj1 : j < i * E.s
    ·rw [f7 _ (by omega), e7 _ (by omega), hXc j (by omega), List.append_assoc, List.getElem?_append_left (by omega), List.getElem?_take, if_pos hj1]
    ·by_cases hj2 : j < (i + m) * E.s
     ·rw [List.getElem?_append_left (by rw [List.length_append]; omega), List.getElem?_append_right (by omega), htl, ← f6 (j - i * E.s) (by omega)]
      congr 1; omega
     ·rw [f7 _ (by omega), List.getElem?_append_right (by rw [List.length_append]; omega), List.length_append, htl, hVl, ← hims, ← e6 (j - (i + m) * E.s) (by omega)]
      congr 1; omega
  ·
   have hroom' : cap < n + m := by omega
   by_cases hie : i = n
   ·subst hie
    refine (ins_end_grow L a i cap gv bv m capv X V w hv hnc hroom' hb2 hb (by rw [hXl, hsz]) (by rw [hVl, hsz]) (fun ha0 => ?_) (fun a' ha' j v hj => ?_) hvs hov).mono ?_
    ·rcases Nat.eq_zero_or_pos i with h | h
     ·exact h
     ·rw [ha (by omega)] at ha0; cases ha0
    ·have hjl := (List.getElem?_eq_some_iff.1 hj).1
     have hn1 : 0 < i := by
      rcases Nat.eq_zero_or_pos i with h | h
      ·rw [hXl, h] at hjl; simp at hjl
      ·exact h
     rw [ha (by omega)] at ha'
     cases ha'
     rw [Addr.add_lit]
     exact hcs j v hj
    ·rintro ex w' ⟨rfl, hw'⟩
     exact finNew X hXl hr hone rfl cap w' hw'
   ·have hin' : i < n := by omega
    obtain rfl := ha (by omega)
    refine (ins_grow L g base n cap i gv bv m capv X V w hin' hv hnc hroom' hb2 hb (by rw [hXl, hsz]) (by rw [hVl, hsz]) hcs hvs hone hov).mono ?_
    rintro ex w' ⟨rfl, hw'⟩
    rw [← hsz] at hw'
    obtain ⟨hg1, hg2⟩ := hcap (n + m) cap hb2
    generalize hG : grownCap w (n + m) cap e = G at *
    obtain ⟨ROW, hROW⟩ : ∃ ROW : Array Value, ROW = (X.take (i * E.s)).toArray ++ Builtin.zeroCells z.cells (n + m - i) ++ Builtin.zeroCells z.cells (G - (n + m)) := ⟨_, rfl⟩
    rw [← hROW] at hw'
    have htl : (X.take (i * E.s)).length = i * E.s := by rw [List.length_take]; omega
    have hRl : ROW.size = G * E.s := by
     rw [hROW]
     simp only [Array.size_append, List.size_toArray, htl, size_zeroCells, L.zc, ← hsz]
     rw [← Nat.add_mul, ← Nat.add_mul]
     congr 1
     omega
    have hGs : (n + m) * E.s ≤ G * E.s := Nat.mul_le_mul_right _ hg1
    have hnewc : ((w.alloc (.cells ROW e)).drew).heap[w.heap.size]? = some (.cells ROW e (0, 0)) := heap_alloc_new w _
    obtain ⟨hp, cur1, e1, e2, e3, e4, e5, e6, e7⟩ := setCells_blockE w.heap.size V (i * E.s) ((w.alloc (.cells ROW e)).drew) ROW e (0, 0) hnewc (by omega)
    have hdl : (X.drop (i * E.s)).length + i * E.s = n * E.s := by rw [List.length_drop, hXl]; omega
    obtain ⟨hp2, cur', f1, f2, f3, f4, f5, f6, f7⟩ := setCells_blockE w.heap.size (X.drop (i * E.s)) ((i + m) * E.s) ({ (w.alloc (.cells ROW e)).drew with heap := hp } : World).drew cur1 e (0, 0) e4 (by omega)
    rw [e1, f1] at hw'
    have hzs : (w.alloc (.cells ROW e)).heap.size = w.heap.size + 1 := by show (w.heap.push _).size = _; simp
    refine fin X hXl hr hone w.heap.size G 0 cur' w' (by
     rw [hw']
     refine ⟨rfl, rfl, rfl, ?_, fun k hk hnb => (f3 k (by omega)).trans ((e3 k (by omega)).trans (heap_alloc_old w _ hk))⟩
     show w.heap.size ≤ hp2.size
     rw [f2]; show _ ≤ hp.size; rw [e2]; show _ ≤ (w.alloc (.cells ROW e)).heap.size; omega) (.inl (Nat.le_refl _)) (by rw [hw']; exact f4) (by omega) hg1 hg2 ?_
    intro j hj
    rw [Nat.zero_add]
    by_cases hj1 : j < i * E.s
    ·rw [f7 _ (by omega), e7 _ (by omega), List.append_assoc, List.getElem?_append_left (by omega), hROW, Array.append_assoc, Array.getElem?_append_left (by simp; omega)]
     simp
    ·by_cases hj2 : j < (i + m) * E.s
     ·rw [f7 _ (by omega), List.getElem?_append_left (by rw [List.length_append]; omega), List.getElem?_append_right (by omega), htl, ← e6 (j - i * E.s) (by omega)]
      congr 1; omega
     ·rw [List.getElem?_append_right (by rw [List.length_append]; omega), List.length_append, htl, hVl, ← hims, ← f6 (j - (i + m) * E.s) (by omega)]
      congr 1; omega
end Go.Ab

