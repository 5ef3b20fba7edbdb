import Derived.Test.YthmieigenefilaaGreatDoorQBYT
import Derived.Test.YthmieigenefilaaGreatDoorQBYM
import Derived.Test.YthmieigenefilaaGreatDoorAbYt
import Derived.Test.YthmieigenefilaaGreatDoorAbYk
import Derived.Test.YthmieigenefilaaGreatDoorQBTP
import Derived.Test.YthmieigenefilaaGreatDoorQBYS
set_option linter.unusedSimpArgs false
set_option linter.unusedVariables false
namespace Go.Proofs.YthmieigenefilaaGreatDoor
open Go Go.Ab
theorem mixed : Tryz.prog.follows .mixedOrders = true := by kernel_rfl
def E3 : Elem Int := { s := 1, cf := fun x j => match j with | _ => .raw (.int .i64 x), z := 0 }
theorem E3_raw : E3.Raw := by
 intro x j
 exact ⟨_, rfl⟩
def E4 : Elem Bool := { s := 1, cf := fun x j => match j with | _ => .raw (.bool x), z := false }
def E5 : Elem Int := { s := 1, cf := fun x j => match j with | _ => .raw (.int .u8 x), z := 0 }
theorem E5_raw : E5.Raw := by
 intro x j
 exact ⟨_, rfl⟩
def E9 : Elem ByteArray := { s := 1, cf := fun x j => match j with | _ => .raw (.string x), z := ByteArray.empty }
theorem E9_raw : E9.Raw := by
 intro x j
 exact ⟨_, rfl⟩
def E26 : Elem AKO := { s := 4, cf := fun x j => match j with | 0 => .raw (.int .i64 x.Kind) | 1 => .raw (.int .i64 x.Core) | 2 => .raw (.int .i64 x.N) | _ => .raw (.int .u8 x.Byte), z := (⟨0, 0, 0, 0⟩ : AKO) }
theorem E26_raw : E26.Raw := by
 intro x j
 match j with
 | 0 => exact ⟨_, rfl⟩
 | 1 => exact ⟨_, rfl⟩
 | 2 => exact ⟨_, rfl⟩
 | n + 3 => exact ⟨_, rfl⟩
def E44 : Elem Int := { s := 1, cf := fun x j => match j with | _ => .raw (.int .i64 x), z := 0 }
theorem E44_raw : E44.Raw := by
 intro x j
 exact ⟨_, rfl⟩
def E50 : Elem Api_Slot := { s := 2, cf := fun x j => match j with | 0 => .raw (.int .i64 x.Core) | _ => .raw (.int .i64 x.Vec), z := (⟨0, 0⟩ : Api_Slot) }
theorem E50_raw : E50.Raw := by
 intro x j
 match j with
 | 0 => exact ⟨_, rfl⟩
 | n + 1 => exact ⟨_, rfl⟩
def E52 : Elem Api_Pin := { s := 7, cf := fun x j => match j with | 0 => .raw (.int .i64 x.Core) | 1 => .raw (.int .i64 x.Vec) | 2 => .raw (.bool x.Level) | 3 => .raw (.bool x.Masked) | 4 => .raw (.bool x.Up) | 5 => .raw (.bool x.Kept) | _ => .raw (.bool x.Sent), z := (⟨0, 0, false, false, false, false, false⟩ : Api_Pin) }
theorem E52_raw : E52.Raw := by
 intro x j
 match j with
 | 0 => exact ⟨_, rfl⟩
 | 1 => exact ⟨_, rfl⟩
 | 2 => exact ⟨_, rfl⟩
 | 3 => exact ⟨_, rfl⟩
 | 4 => exact ⟨_, rfl⟩
 | 5 => exact ⟨_, rfl⟩
 | n + 6 => exact ⟨_, rfl⟩
def E58 : Elem Api_Sent := { s := 3, cf := fun x j => match j with | 0 => .raw (.int .i64 x.Pin) | 1 => .raw (.int .i64 x.Core) | _ => .raw (.int .i64 x.Vec), z := (⟨0, 0, 0⟩ : Api_Sent) }
theorem E58_raw : E58.Raw := by
 intro x j
 match j with
 | 0 => exact ⟨_, rfl⟩
 | 1 => exact ⟨_, rfl⟩
 | n + 2 => exact ⟨_, rfl⟩
def E63 : Elem (Nat → Int) := { s := 4, cf := fun x j => match j with | 0 => .raw (.int .u64 (x 0)) | 1 => .raw (.int .u64 (x 1)) | 2 => .raw (.int .u64 (x 2)) | _ => .raw (.int .u64 (x 3)), z := (fun (_ : Nat) => (0 : Int)) }
theorem E63_raw : E63.Raw := by
 intro x j
 match j with
 | 0 => exact ⟨_, rfl⟩
 | 1 => exact ⟨_, rfl⟩
 | 2 => exact ⟨_, rfl⟩
 | n + 3 => exact ⟨_, rfl⟩
def E98 : Elem Api_VecOp := { s := 3, cf := fun x j => match j with | 0 => .raw (.int .i64 x.Kind) | 1 => .raw (.int .i64 x.Line) | _ => .raw (.int .i64 x.Mask), z := (⟨0, 0, 0⟩ : Api_VecOp) }
def E103 : Elem Api_PinOp := { s := 2, cf := fun x j => match j with | 0 => .raw (.int .i64 x.Kind) | _ => .raw (.int .i64 x.Pin), z := (⟨0, 0⟩ : Api_PinOp) }
def E188 : Elem AFr := { s := 2, cf := fun x j => match j with | 0 => .raw (.bool x.On) | _ => .raw (.bool x.Irq), z := (⟨false, false⟩ : AFr) }
theorem E188_raw : E188.Raw := by
 intro x j
 match j with
 | 0 => exact ⟨_, rfl⟩
 | n + 1 => exact ⟨_, rfl⟩
def E30 : Elem (List Int) := { s := 1, cf := fun x j => match j with | _ => (E5.ro x), z := [] }
def E78 : Elem AKA := { s := 2, cf := fun x j => match j with | 0 => .raw (.int .i64 x.Err) | _ => (E5.ro x.Data), z := (⟨0, []⟩ : AKA) }
def E96 : Elem Vector_table := { s := 3, cf := fun x j => match j with | 0 => .raw (.int .i64 x.cores_) | 1 => (E50.ro x.of_) | _ => (E63.ro x.taken_), z := (⟨0, [], []⟩ : Vector_table) }
def Key50 : Key Api_Slot := ⟨fun x => [x.Core, x.Vec], 2, fun _ => rfl, by intro x y h; cases x; cases y; simp_all⟩
set_option maxHeartbeats 40000000
set_option maxRecDepth 100000
theorem sg {Q : Exit → AS → Prop} {σ : AS} {k : List Fr} {S : Sk} (h : S.Holds fun j => V Tryz.prog tab Q ((runS tab [] 4000 σ k).get j)) (hs : (runS tab [] 4000 σ k).sk 0 = S := by kernel_rfl) : VS Tryz.prog tab Q k .normal σ := segs [] tabOk mixed 4000 hs h
theorem s0 {Q : Exit → AS → Prop} {σ : AS} {k : List Fr} (h : V Tryz.prog tab Q ((runS tab [] 4000 σ k).get 0)) (hs : (runS tab [] 4000 σ k).sk 0 = .leaf 0 := by kernel_rfl) : VS Tryz.prog tab Q k .normal σ := segs [] tabOk mixed 4000 hs (sk_leaf h)
attribute [local irreducible] V VS runS Sk.Holds
theorem bn_cut_ok (a0 a1 : ByteArray) (r : ByteArray × ByteArray × Bool) (h : bn_cut a0 a1 = some r) {al : Bool} : PCalls Tryz.prog 29 [.pv (.raw (.string a0)), .pv (.raw (.string a1))] al (.tup [.pv (.raw (.string r.1)), .pv (.raw (.string r.2.1)), .pv (.raw (.bool r.2.2))]) [] := by
 unfold bn_cut at h
 obtain ⟨g, h⟩ := if_ h
 obtain rfl := some_ h
 exact Tryz.cut_pcalls a0 a1 _ g.1 g.2
theorem bn_read_ok (a0 : ByteArray) (r : AKO × Bool) (h : bn_read a0 = some r) {al : Bool} : PCalls Tryz.prog 30 [.pv (.raw (.string a0))] al (.tup [.agg [.raw (.int .i64 r.1.Kind), .raw (.int .i64 r.1.Core), .raw (.int .i64 r.1.N), .raw (.int .u8 r.1.Byte)], .pv (.raw (.bool r.2))]) [] := by
 unfold bn_read at h
 obtain ⟨g, h⟩ := if_ h
 obtain rfl := some_ h
 exact Tryz.read_pcalls a0 g
theorem bench_Parse_ok (a0 : ByteArray) (r : (List AKO) × Int × Int) (h : bench_Parse a0 = some r) {al : Bool} : PCalls Tryz.prog 15 [.pv (.raw (.string a0))] al (.tup [.row 0 4 0 r.1.length, .pv (.raw (.int .i64 r.2.1)), .pv (.raw (.int .i64 r.2.2))]) [.row 26 4 (E26.cR r.1)] := by
 unfold bench_Parse at h
 refine fn_ok tabOk Tryz.func15 (by kernel_rfl) (by kernel_rfl) Tryz.ntmps15 (by simp) ?_
 refine s0 ?_
 replace h : (fun (x : Nat × ByteArray × List AKO × Int) => bench_Parse_l1 a0 x.1 x.2.1 x.2.2.1 x.2.2.2 = some r) (FUEL, a0, ([] : List AKO), 0) := h
 refine loop_ok (by kernel_rfl) (X := Nat × ByteArray × List AKO × Int) (fun x => bench_Parse_l1 a0 x.1 x.2.1 x.2.2.1 x.2.2.2 = some r) (fun x => x.1) (fun x => mk 40 [(0, .pv (.raw (.string x.2.1))), (2, .pv (.raw (.slice none 0 0))), (3, .pv (.raw (.int .i64 0))), (4, .pv (.raw (.int .i64 0))), (5, .row 0 4 0 x.2.2.1.length), (6, .pv (.raw (.int .i64 x.2.2.2)))] [(0, .row 26 4 (E26.cR x.2.2.1))]) (FUEL, a0, ([] : List AKO), 0) h ?_ ?_
 ·exact sub_ok (ρ := [(0, none)]) (l := [a0 = a0, (0 : Int) = 0, (0 : Int) = 0, 0 = 0, (([] : List AKO).length) = 0, (0 : Int) = 0, E26.cR ([] : List AKO) = []]) (by kernel_rfl) ⟨rfl, rfl, rfl, rfl, (by first | rfl | simp), rfl, rfl, trivial⟩
 ·clear h; rintro ⟨n1, s1, l2, x3⟩ h p1 hp1
  obtain _ | n1 := n1
  ·cases (show (none : Option ((List AKO) × Int × Int)) = some r from h)
  have h : bench_Parse_l1 a0 (n1 + 1) s1 l2 x3 = some r := h
  unfold bench_Parse_l1 at h
  refine sg (S := .br (!(s1.toList == (bytesOf []).toList)) (.leaf 0) (.leaf 1)) ?_
  refine br_ h ?_ ?_ <;> clear h <;> intro c4 h
  ·refine sk_leaf ?_
   obtain ⟨r5, e6, h⟩ := bd_ h
   refine call_ok (d := some 18) (fn := 29) (ax := [.pv (.raw (.string s1)), .pv (.raw (.string (bytesOf [10])))]) (ps := [s1 = s1, (bytesOf [10]) = (bytesOf [10])]) (hb' := []) (by kernel_rfl) (bn_cut_ok _ _ _ e6 (al := true)) (by kernel_rfl) ⟨rfl, rfl, trivial⟩ (fun _ => (by kernel_rfl)) (by simp) rfl (by kernel_rfl) ?_
   refine s0 ?_
   obtain ⟨r7, e8, h⟩ := bd_ h
   refine call_ok (d := some 24) (fn := 30) (ax := [.pv (.raw (.string r5.1))]) (ps := [r5.1 = r5.1]) (hb' := []) (by kernel_rfl) (bn_read_ok _ _ e8 (al := true)) (by kernel_rfl) ⟨rfl, trivial⟩ (fun _ => (by kernel_rfl)) (by simp) rfl (by kernel_rfl) ?_
   refine sg (S := .and (((!(!r5.2.2)) = true → ((!(!r5.2.2)) = true))) (.and ((!r5.2.2) = false → (!(!r5.2.2)) = true) (.br ((!r5.2.2) || (!r7.2)) (.leaf 0) (.leaf 1)))) ?_
   refine sk_and (fun h => h) ?_
   refine sk_and ((by decide : ∀ y0 : Bool, ((y0 = false) → ((!y0) = true))) (!r5.2.2)) ?_
   refine br_ h ?_ ?_ <;> clear h <;> intro c11 h
   ·cases h
   ·refine sk_leaf ?_
    refine bs_ok (d := 36) (e := 26) (s := 4) (n := 1) (cs := [.pv (.raw (.int .i64 r7.1.Kind)), .pv (.raw (.int .i64 r7.1.Core)), .pv (.raw (.int .i64 r7.1.N)), .pv (.raw (.int .u8 r7.1.Byte))]) (cs' := E26.cR [r7.1]) (by kernel_rfl) rfl (by kernel_rfl) ?_
    refine s0 ?_
    obtain ⟨g12, h⟩ := if_ h
    refine app_ok (d := 37) (e := 26) (s := 4) (b := 32) (x := .row 0 4 0 l2.length) (y := .row 18688 4 0 1) E26 (xs := l2) (ys := [r7.1]) (by kernel_rfl) rfl (.row 0 l2 l2.length rfl (by kernel_rfl)) (.all 18688 26 [r7.1] 1 rfl (by kernel_rfl)) g12 (by kernel_rfl) ?_
    refine s0 ?_
    refine back_ok (p := p1) (by kernel_rfl) (hp1 (n1, r5.2.1, (l2 ++ [r7.1]), (IntKind.i64.wrap (x3 + 1))) _ h (Nat.lt_succ_self n1) ?_)
    exact sub_ok (ρ := [(0, some 18752)]) (l := [r5.2.1 = r5.2.1, (0 : Int) = 0, (0 : Int) = 0, 0 = 0, ((l2 ++ [r7.1]).length) = ((l2 ++ [r7.1]).length), ((IntKind.i64.wrap (x3 + 1)) : Int) = (IntKind.i64.wrap (x3 + 1)), E26.cR (l2 ++ [r7.1]) = E26.cR (l2 ++ [r7.1]), AllPv (E26.cR (l2 ++ [r7.1]))]) (by kernel_rfl) ⟨rfl, rfl, rfl, rfl, rfl, rfl, rfl, (Elem.cR_pv _ _), trivial⟩
  ·refine sk_leaf ?_
   obtain rfl := some_ h
   exact end_ok [(0, some 0)] Tryz.results15 (ps := [0 = 0, l2.length = l2.length, (0 : Int) = 0, (0 : Int) = 0, E26.cR l2 = E26.cR l2, AllPv (E26.cR l2)]) (by kernel_rfl) ⟨rfl, rfl, rfl, rfl, rfl, (Elem.cR_pv _ _), trivial⟩ (fun _ => ⟨rfl, by simp only [List.mem_cons, List.not_mem_nil, or_false, forall_eq_or_imp, forall_eq]; exact Elem.cR_bald E26_raw _⟩)
def Y53 (x0 : KWh) (x1 : Nat) : List AV := [.pv ((E5.ro x0.uart_.In)), .pv ((E5.ro x0.uart_.Out)), .pv (.raw (.int .i64 x0.uart_.Lost)), .pv (.raw (.bool x0.uart_.Asks)), .row x1 7 0 x0.pins_.length]
def Y0 (x0 : Kernel_core) : List AV := [.pv (.raw (.int .u64 ((x0.local_.Asked) 0))), .pv (.raw (.int .u64 ((x0.local_.Asked) 1))), .pv (.raw (.int .u64 ((x0.local_.Asked) 2))), .pv (.raw (.int .u64 ((x0.local_.Asked) 3))), .pv (.raw (.int .u64 ((x0.local_.Served) 0))), .pv (.raw (.int .u64 ((x0.local_.Served) 1))), .pv (.raw (.int .u64 ((x0.local_.Served) 2))), .pv (.raw (.int .u64 ((x0.local_.Served) 3))), .pv (.raw (.int .i64 (x0.local_.Class))), .pv (.raw (.bool (x0.nest_.On))), .pv ((E188.ro (x0.nest_.Kept))), .pv (.raw (.bool (x0.serving_)))]
def Y94 (x0 : KWh) : List AV := [.pv ((E5.ro x0.fetched_)), .pv ((E30.ro x0.tty_.Lines)), .pv ((E5.ro x0.tty_.Edit)), .pv (.raw (.int .i64 x0.taken_))]
def Y11 (x0 : KWh) (x1 : Nat) : List AV := ((Y53 x0 x1) ++ ((Y0 (x0.cores_ 0)) ++ ((Y0 (x0.cores_ 1)) ++ (Y94 x0))))
def Y54 : Api_Pin := (⟨0, 64, true, false, false, false, false⟩ : Api_Pin)
def Y90 (x0 x1 : Bool) (x2 : Nat) : List AV := [.pv (.raw (.slice none 0 0)), .pv (.raw (.slice none 0 0)), .pv (.raw (.int .i64 0)), .pv (.raw (.bool false)), .row x2 7 0 ([Y54].length), .pv (.raw (.int .u64 0)), .pv (.raw (.int .u64 0)), .pv (.raw (.int .u64 0)), .pv (.raw (.int .u64 0)), .pv (.raw (.int .u64 0)), .pv (.raw (.int .u64 0)), .pv (.raw (.int .u64 0)), .pv (.raw (.int .u64 0)), .pv (.raw (.int .i64 0)), .pv (.raw (.bool x0)), .pv (.raw (.slice none 0 0)), .pv (.raw (.bool false)), .pv (.raw (.int .u64 0)), .pv (.raw (.int .u64 0)), .pv (.raw (.int .u64 0)), .pv (.raw (.int .u64 0)), .pv (.raw (.int .u64 0)), .pv (.raw (.int .u64 0)), .pv (.raw (.int .u64 0)), .pv (.raw (.int .u64 0)), .pv (.raw (.int .i64 0)), .pv (.raw (.bool x1)), .pv (.raw (.slice none 0 0)), .pv (.raw (.bool false)), .pv (.raw (.slice none 0 0)), .pv (.raw (.slice none 0 0)), .pv (.raw (.slice none 0 0)), .pv (.raw (.int .i64 0))]
theorem kernel_boot_ok (r : KWh) (h : kernel_boot = some r) : PCalls Tryz.prog 20 [] true (.ptr 0 0) [.box (Y11 r 1), .row 52 7 (E52.cR r.pins_)] := by
 unfold kernel_boot at h
 refine fn_ok tabOk Tryz.func20 (by kernel_rfl) (by kernel_rfl) Tryz.ntmps20 (by simp) ?_
 refine s0 ?_
 refine bs_ok (d := 4) (e := 52) (s := 7) (n := 1) (cs := [.pv (.raw (.int .i64 0)), .pv (.raw (.int .i64 64)), .pv (.raw (.bool true)), .pv (.raw (.bool false)), .pv (.raw (.bool false)), .pv (.raw (.bool false)), .pv (.raw (.bool false))]) (cs' := E52.cR [Y54]) (by kernel_rfl) rfl (by kernel_rfl) ?_
 refine s0 ?_
 refine len_row (by kernel_rfl) 16640 (e := 52) (s := 7) (n := [Y54].length) (cs := E52.cR [Y54]) (by kernel_rfl) (Elem.cR_length _ _) ?_; intro hl1_0
 replace h : (fun (x : Nat × Nat × Bool × Bool) => kernel_boot_l1  x.1 x.2.1 x.2.2.1 x.2.2.2 = some r) (FUEL, 0, false, false) := h
 refine loop_ok (by kernel_rfl) (X := Nat × Nat × Bool × Bool) (fun x => kernel_boot_l1  x.1 x.2.1 x.2.2.1 x.2.2.2 = some r) (fun x => x.1) (fun x => mk 19 [(0, .pv (.raw (.pointer none))), (1, .ptr 0 0), (7, .pv (.raw (.int .i64 ((x.2.1 : Nat) : Int))))] [(0, .box [.pv (.raw (.slice none 0 0)), .pv (.raw (.slice none 0 0)), .pv (.raw (.int .i64 0)), .pv (.raw (.bool false)), .row 1 7 0 ([Y54].length), .pv (.raw (.int .u64 0)), .pv (.raw (.int .u64 0)), .pv (.raw (.int .u64 0)), .pv (.raw (.int .u64 0)), .pv (.raw (.int .u64 0)), .pv (.raw (.int .u64 0)), .pv (.raw (.int .u64 0)), .pv (.raw (.int .u64 0)), .pv (.raw (.int .i64 0)), .pv (.raw (.bool x.2.2.1)), .pv (.raw (.slice none 0 0)), .pv (.raw (.bool false)), .pv (.raw (.int .u64 0)), .pv (.raw (.int .u64 0)), .pv (.raw (.int .u64 0)), .pv (.raw (.int .u64 0)), .pv (.raw (.int .u64 0)), .pv (.raw (.int .u64 0)), .pv (.raw (.int .u64 0)), .pv (.raw (.int .u64 0)), .pv (.raw (.int .i64 0)), .pv (.raw (.bool x.2.2.2)), .pv (.raw (.slice none 0 0)), .pv (.raw (.bool false)), .pv (.raw (.slice none 0 0)), .pv (.raw (.slice none 0 0)), .pv (.raw (.slice none 0 0)), .pv (.raw (.int .i64 0))]), (1, .row 52 7 (E52.cR [Y54]))]) (FUEL, 0, false, false) h ?_ ?_
 ·exact sub_ok (ρ := [(0, some 16768), (1, some 16640)]) (l := [0 = 0, (0 : Int) = ((0 : Nat) : Int), (0 : Int) = 0, false = false, 0 = 0, 1 = ([Y54].length), (0 : Int) = 0, (0 : Int) = 0, (0 : Int) = 0, (0 : Int) = 0, (0 : Int) = 0, (0 : Int) = 0, (0 : Int) = 0, (0 : Int) = 0, (0 : Int) = 0, false = false, false = false, (0 : Int) = 0, (0 : Int) = 0, (0 : Int) = 0, (0 : Int) = 0, (0 : Int) = 0, (0 : Int) = 0, (0 : Int) = 0, (0 : Int) = 0, (0 : Int) = 0, false = false, false = false, (0 : Int) = 0, E52.cR [Y54] = E52.cR [Y54], AllPv (E52.cR [Y54])]) (by kernel_rfl) ⟨rfl, (by first | rfl | simp), rfl, rfl, rfl, (by first | rfl | simp), rfl, rfl, rfl, rfl, rfl, rfl, rfl, rfl, rfl, rfl, rfl, rfl, rfl, rfl, rfl, rfl, rfl, rfl, rfl, rfl, rfl, rfl, rfl, rfl, (Elem.cR_pv _ _), trivial⟩
 ·clear h; rintro ⟨n1, k1, b2, b3⟩ h p1 hp1
  obtain _ | n1 := n1
  ·cases (show (none : Option (KWh)) = some r from h)
  have h : kernel_boot_l1  (n1 + 1) k1 b2 b3 = some r := h
  unfold kernel_boot_l1 at h
  refine sg (S := .br (decide ((((k1 : Nat) : Int) : Int) < 2)) (.and (0 ≤ (((k1 : Nat) : Int) : Int) ∧ ((k1 : Nat) : Int) < ((2 : Nat) : Int)) (.leaf 0)) (.leaf 1)) ?_
  refine br_ h ?_ ?_ <;> clear h <;> intro c4 h
  ·refine gd_ h ?_; clear h; intro g5 h
   refine sk_leaf ?_
   refine brV_ h ?_ ?_ <;> clear h <;> intro c6 h
   ·refine stc_ok (id := 0) (off := (((5 + k1 * 12) + 9) + 0)) (vs := [.pv (.raw (.bool true))]) (cs := (Y90 b2 b3 1)) [.pv (.raw (.slice none 0 0)), .pv (.raw (.slice none 0 0)), .pv (.raw (.int .i64 0)), .pv (.raw (.bool false)), .row 1 7 0 ([Y54].length), .pv (.raw (.int .u64 0)), .pv (.raw (.int .u64 0)), .pv (.raw (.int .u64 0)), .pv (.raw (.int .u64 0)), .pv (.raw (.int .u64 0)), .pv (.raw (.int .u64 0)), .pv (.raw (.int .u64 0)), .pv (.raw (.int .u64 0)), .pv (.raw (.int .i64 0)), .pv (.raw (.bool true)), .pv (.raw (.slice none 0 0)), .pv (.raw (.bool false)), .pv (.raw (.int .u64 0)), .pv (.raw (.int .u64 0)), .pv (.raw (.int .u64 0)), .pv (.raw (.int .u64 0)), .pv (.raw (.int .u64 0)), .pv (.raw (.int .u64 0)), .pv (.raw (.int .u64 0)), .pv (.raw (.int .u64 0)), .pv (.raw (.int .i64 0)), .pv (.raw (.bool b3)), .pv (.raw (.slice none 0 0)), .pv (.raw (.bool false)), .pv (.raw (.slice none 0 0)), .pv (.raw (.slice none 0 0)), .pv (.raw (.slice none 0 0)), .pv (.raw (.int .i64 0))] (by kernel_rfl) (by kernel_rfl) (by simp only [Y90, List.length_append, rA_length, fl_length, List.length_cons, List.length_nil]; rw [show k1 = 0 from of_decide_eq_true c6]; omega) (by rw [show k1 = 0 from of_decide_eq_true c6]; rfl) ?_
    refine s0 ?_
    refine back_ok (p := p1) (by kernel_rfl) (hp1 (n1, k1 + 1, true, b3) _ h (Nat.lt_succ_self n1) ?_)
    exact sub_ok (ρ := [(0, some 0), (1, some 1)]) (l := [0 = 0, ((IntKind.i64.wrap (((k1 : Nat) : Int) + 1)) : Int) = (((k1 + 1) : Nat) : Int), (0 : Int) = 0, false = false, 0 = 0, ([Y54].length) = ([Y54].length), (0 : Int) = 0, (0 : Int) = 0, (0 : Int) = 0, (0 : Int) = 0, (0 : Int) = 0, (0 : Int) = 0, (0 : Int) = 0, (0 : Int) = 0, (0 : Int) = 0, true = true, false = false, (0 : Int) = 0, (0 : Int) = 0, (0 : Int) = 0, (0 : Int) = 0, (0 : Int) = 0, (0 : Int) = 0, (0 : Int) = 0, (0 : Int) = 0, (0 : Int) = 0, b3 = b3, false = false, (0 : Int) = 0, E52.cR [Y54] = E52.cR [Y54], AllPv (E52.cR [Y54])]) (by kernel_rfl) ⟨rfl, (wrap_nat_lit (by simp at * <;> omega)), rfl, rfl, rfl, rfl, rfl, rfl, rfl, rfl, rfl, rfl, rfl, rfl, rfl, rfl, rfl, rfl, rfl, rfl, rfl, rfl, rfl, rfl, rfl, rfl, rfl, rfl, rfl, rfl, (Elem.cR_pv _ _), trivial⟩
   ·refine brV_ h ?_ ?_ <;> clear h <;> intro c7 h
    ·refine stc_ok (id := 0) (off := (((5 + k1 * 12) + 9) + 0)) (vs := [.pv (.raw (.bool true))]) (cs := (Y90 b2 b3 1)) [.pv (.raw (.slice none 0 0)), .pv (.raw (.slice none 0 0)), .pv (.raw (.int .i64 0)), .pv (.raw (.bool false)), .row 1 7 0 ([Y54].length), .pv (.raw (.int .u64 0)), .pv (.raw (.int .u64 0)), .pv (.raw (.int .u64 0)), .pv (.raw (.int .u64 0)), .pv (.raw (.int .u64 0)), .pv (.raw (.int .u64 0)), .pv (.raw (.int .u64 0)), .pv (.raw (.int .u64 0)), .pv (.raw (.int .i64 0)), .pv (.raw (.bool b2)), .pv (.raw (.slice none 0 0)), .pv (.raw (.bool false)), .pv (.raw (.int .u64 0)), .pv (.raw (.int .u64 0)), .pv (.raw (.int .u64 0)), .pv (.raw (.int .u64 0)), .pv (.raw (.int .u64 0)), .pv (.raw (.int .u64 0)), .pv (.raw (.int .u64 0)), .pv (.raw (.int .u64 0)), .pv (.raw (.int .i64 0)), .pv (.raw (.bool true)), .pv (.raw (.slice none 0 0)), .pv (.raw (.bool false)), .pv (.raw (.slice none 0 0)), .pv (.raw (.slice none 0 0)), .pv (.raw (.slice none 0 0)), .pv (.raw (.int .i64 0))] (by kernel_rfl) (by kernel_rfl) (by simp only [Y90, List.length_append, rA_length, fl_length, List.length_cons, List.length_nil]; rw [show k1 = 1 from of_decide_eq_true c7]; omega) (by rw [show k1 = 1 from of_decide_eq_true c7]; rfl) ?_
     refine s0 ?_
     refine back_ok (p := p1) (by kernel_rfl) (hp1 (n1, k1 + 1, b2, true) _ h (Nat.lt_succ_self n1) ?_)
     exact sub_ok (ρ := [(0, some 0), (1, some 1)]) (l := [0 = 0, ((IntKind.i64.wrap (((k1 : Nat) : Int) + 1)) : Int) = (((k1 + 1) : Nat) : Int), (0 : Int) = 0, false = false, 0 = 0, ([Y54].length) = ([Y54].length), (0 : Int) = 0, (0 : Int) = 0, (0 : Int) = 0, (0 : Int) = 0, (0 : Int) = 0, (0 : Int) = 0, (0 : Int) = 0, (0 : Int) = 0, (0 : Int) = 0, b2 = b2, false = false, (0 : Int) = 0, (0 : Int) = 0, (0 : Int) = 0, (0 : Int) = 0, (0 : Int) = 0, (0 : Int) = 0, (0 : Int) = 0, (0 : Int) = 0, (0 : Int) = 0, true = true, false = false, (0 : Int) = 0, E52.cR [Y54] = E52.cR [Y54], AllPv (E52.cR [Y54])]) (by kernel_rfl) ⟨rfl, (wrap_nat_lit (by simp at * <;> omega)), rfl, rfl, rfl, rfl, rfl, rfl, rfl, rfl, rfl, rfl, rfl, rfl, rfl, rfl, rfl, rfl, rfl, rfl, rfl, rfl, rfl, rfl, rfl, rfl, rfl, rfl, rfl, rfl, (Elem.cR_pv _ _), trivial⟩
    ·cases h
  ·refine sk_leaf ?_
   obtain rfl := some_ h
   exact end_ok [(0, some 0), (1, some 1)] Tryz.results20 (ps := [0 = 0, ([] : List Int).length = 0, ([] : List Int).length = 0, (0 : Int) = 0, false = false, 0 = 0, ([Y54].length) = [Y54].length, (0 : Int) = 0, (0 : Int) = 0, (0 : Int) = 0, (0 : Int) = 0, (0 : Int) = 0, (0 : Int) = 0, (0 : Int) = 0, (0 : Int) = 0, (0 : Int) = 0, b2 = b2, ([] : List AFr).length = 0, false = false, (0 : Int) = 0, (0 : Int) = 0, (0 : Int) = 0, (0 : Int) = 0, (0 : Int) = 0, (0 : Int) = 0, (0 : Int) = 0, (0 : Int) = 0, (0 : Int) = 0, b3 = b3, ([] : List AFr).length = 0, false = false, ([] : List Int).length = 0, ([] : List (List Int)).length = 0, ([] : List Int).length = 0, (0 : Int) = 0, E52.cR [Y54] = E52.cR [Y54], AllPv (E52.cR [Y54])]) (by kernel_rfl) ⟨rfl, rfl, rfl, rfl, rfl, rfl, rfl, rfl, rfl, rfl, rfl, rfl, rfl, rfl, rfl, rfl, rfl, rfl, rfl, rfl, rfl, rfl, rfl, rfl, rfl, rfl, rfl, rfl, rfl, rfl, rfl, rfl, rfl, rfl, rfl, rfl, (Elem.cR_pv _ _), trivial⟩ (fun hx => by cases hx)
theorem kw_do_1_ok (a0 : Int) (r : AKA) (h : kw_do_1 a0 = some r) : PCalls Tryz.prog 39 [.pv (.raw (.int .i64 a0))] true (.agg [.pv (.raw (.int .i64 r.Err)), .pv ((E5.ro r.Data))]) [] := by
 unfold kw_do_1 at h
 refine fn_ok tabOk Tryz.func39 (by kernel_rfl) (by kernel_rfl) Tryz.ntmps39 (by simp) ?_
 refine s0 ?_
 obtain rfl := some_ h
 exact end_ok [] Tryz.results39 (ps := [(a0 : Int) = a0, ([] : List Int).length = 0]) (by kernel_rfl) ⟨rfl, rfl, trivial⟩ (fun hx => by cases hx)
def Y100 (x0 : Api_Uart) : List AV := [.pv ((E5.ro x0.In)), .pv ((E5.ro x0.Out)), .pv (.raw (.int .i64 x0.Lost)), .pv (.raw (.bool x0.Asks))]
def Y36 (x0 : List Int) : Bool := (decide ((((x0.length : Nat) : Int) : Int) ≤ 16))
def Y35 (x0 : Api_Uart) : Bool := ((decide ((((x0.In.length : Nat) : Int) : Int) ≤ 16)) && (decide ((((x0.Out.length : Nat) : Int) : Int) ≤ 16)))
def Y33 (x0 : Api_Uart) : Bool := (((decide ((((x0.In.length : Nat) : Int) : Int) ≤ 16)) && (decide ((((x0.Out.length : Nat) : Int) : Int) ≤ 16))) && (decide ((x0.Lost : Int) ≥ 0)))
def Y78 (x0 : Bool) (x1 : Api_Uart) : Bool := (x0 && (decide ((x1.Lost : Int) ≤ 1099511627776)))
theorem uart_Right_ok (a0 : Api_Uart) (r : Bool) (h : uart_Right a0 = some r) {al : Bool} : PCalls Tryz.prog 82 [.agg (Y100 a0)] al (.pv (.raw (.bool r))) [] := by
 unfold uart_Right at h
 refine fn_ok tabOk Tryz.func82 (by kernel_rfl) (by kernel_rfl) Tryz.ntmps82 (by simp) ?_
 refine sg (S := .and (((Y36 a0.In) = true → ((Y36 a0.In) = true))) (.and (((Y36 a0.In) = true → ((Y36 a0.In) = true))) (.and (((Y36 a0.In) = true → ((Y36 a0.In) = true))) (.and ((Y36 a0.In) = true → (Y36 a0.In) = true) (.and (((Y35 a0) = true → ((Y35 a0) = true))) (.and (((Y35 a0) = true → ((Y35 a0) = true))) (.and ((Y35 a0) = true → (Y35 a0) = true) (.and (((Y33 a0) = true → ((Y33 a0) = true))) (.and (((Y33 a0) = true → ((Y33 a0) = true))) (.and ((Y33 a0) = true → (Y33 a0) = true) (.and (((Y78 (Y33 a0) a0) = true → ((Y78 (Y33 a0) a0) = true))) (.and (((Y78 (Y33 a0) a0) = true → ((Y78 (Y33 a0) a0) = true))) (.and (((Y78 (Y33 a0) a0) = true → ((Y78 (Y33 a0) a0) = true))) (.and (((Y78 (Y33 a0) a0) = true → ((Y78 (Y33 a0) a0) = true))) (.and (((Y78 (Y33 a0) a0) = true → ((Y78 (Y33 a0) a0) = true))) (.and (((Y78 (Y33 a0) a0) = true → ((Y78 (Y33 a0) a0) = true))) (.and ((Y78 (Y33 a0) a0) = true → (Y78 (Y33 a0) a0) = true) (.leaf 0)))))))))))))))))) ?_
 refine sk_and (fun h => h) ?_
 refine sk_and (fun h => h) ?_
 refine sk_and (fun h => h) ?_
 refine sk_and (fun h => h) ?_
 refine sk_and (fun h => h) ?_
 refine sk_and (fun h => h) ?_
 refine sk_and (fun h => h) ?_
 refine sk_and (fun h => h) ?_
 refine sk_and (fun h => h) ?_
 refine sk_and (fun h => h) ?_
 refine sk_and (fun h => h) ?_
 refine sk_and (fun h => h) ?_
 refine sk_and (fun h => h) ?_
 refine sk_and (fun h => h) ?_
 refine sk_and (fun h => h) ?_
 refine sk_and (fun h => h) ?_
 refine sk_and (fun h => h) ?_
 refine sk_leaf ?_
 obtain rfl := some_ h
 exact end_ok [] Tryz.results82 (ps := [(((((decide ((((a0.In.length : Nat) : Int) : Int) ≤ 16)) && (decide ((((a0.Out.length : Nat) : Int) : Int) ≤ 16))) && (decide ((a0.Lost : Int) ≥ 0))) && (decide ((a0.Lost : Int) ≤ 1099511627776))) && (a0.Asks == (decide ((((a0.In.length : Nat) : Int) : Int) > 0)))) = (((((decide ((((a0.In.length : Nat) : Int) : Int) ≤ 16)) && (decide ((((a0.Out.length : Nat) : Int) : Int) ≤ 16))) && (decide ((a0.Lost : Int) ≥ 0))) && (decide ((a0.Lost : Int) ≤ 1099511627776))) && (a0.Asks == (decide ((((a0.In.length : Nat) : Int) : Int) > 0))))]) (by kernel_rfl) ⟨rfl, trivial⟩ (fun _ => ⟨rfl, by simp⟩)
theorem uart_Step_1_ok (a0 : Int) (r : Api_Uart × Int × Int) (h : uart_Step_1 a0 = some r) {al : Bool} : PCalls Tryz.prog 81 [.pv (.raw (.int .i64 a0))] al (.tup [.agg [.row 0 1 0 r.1.In.length, .row 1 1 0 r.1.Out.length, .pv (.raw (.int .i64 r.1.Lost)), .pv (.raw (.bool r.1.Asks))], .pv (.raw (.int .u8 r.2.1)), .pv (.raw (.int .i64 r.2.2))]) [.row 5 1 (E5.cR r.1.In), .row 5 1 (E5.cR r.1.Out)] := by
 unfold uart_Step_1 at h
 refine fn_ok tabOk Tryz.func81 (by kernel_rfl) (by kernel_rfl) Tryz.ntmps81 (by simp) ?_
 refine s0 ?_
 obtain rfl := some_ h
 exact end_ok [(0, none), (1, none)] Tryz.results81 (ps := [0 = 0, ([] : List Int).length = 0, 0 = 0, ([] : List Int).length = 0, (0 : Int) = 0, false = false, (0 : Int) = 0, (a0 : Int) = a0, E5.cR [] = [], E5.cR [] = []]) (by kernel_rfl) ⟨rfl, rfl, rfl, rfl, rfl, rfl, rfl, rfl, rfl, rfl, trivial⟩ (fun _ => ⟨rfl, by simp only [List.mem_cons, List.not_mem_nil, or_false, forall_eq_or_imp, forall_eq]; exact ⟨Elem.cR_bald E5_raw _, Elem.cR_bald E5_raw _⟩⟩)
set_option maxRecDepth 100000 in
theorem slices_Clone_byte_ok (a0 r : List Int) (h : slices_Clone_byte a0 = some r) {al : Bool} : PCalls Tryz.prog 22 [.pv (E5.ro a0)] al (.row 0 1 0 r.length) [.row 5 1 (E5.cR r)] := by
 unfold slices_Clone_byte at h
 obtain ⟨g, h⟩ := if_ h
 obtain rfl := some_ h
 refine fn_ok tabOk Tryz.func22 (by kernel_rfl) (by kernel_rfl) Tryz.ntmps22 (by simp) ?_
 refine segs [1] tabOk mixed 4000 (S := .leaf 0) (by kernel_rfl) ?_
 refine sk_leaf ?_
 refine nil_ok (d1 := 3) (d2 := 4) (s := 1) (n := a0.length) (c := fun i j => E5.cf (a0.getD i E5.z) j) tabOk (by kernel_rfl) ?_
 intro b hb
 refine sg (S := .br b (.leaf 0) (.leaf 1)) ?_
 refine sk_br ?_ ?_ <;> intro hc <;> refine sk_leaf ?_
 ·obtain rfl : a0 = [] := List.eq_nil_of_length_eq_zero (hb hc)
  exact end_ok [(0, none)] Tryz.results22 (ps := [0 = 0, 0 = 0, E5.cR [] = []]) (by kernel_rfl) ⟨rfl, rfl, rfl, trivial⟩ (fun _ => ⟨rfl, by simp only [List.mem_cons, List.not_mem_nil, or_false, forall_eq]; exact Elem.cR_bald E5_raw _⟩)
 ·refine bs_ok (d := 5) (e := 5) (s := 1) (n := 0) (cs := []) (cs' := E5.cR []) (by kernel_rfl) rfl (by kernel_rfl) ?_
  refine s0 ?_
  refine app_ok (d := 7) (e := 5) (s := 1) (b := 1) (x := .row 16704 1 0 0) (y := .pv (E5.ro a0)) E5 (xs := []) (ys := a0) (by kernel_rfl) rfl (.row 16704 [] 0 rfl (by kernel_rfl)) (.ro a0) ⟨by simp; omega, by simp; omega⟩ (by kernel_rfl) ?_
  refine s0 ?_
  exact end_ok [(0, some 16832)] Tryz.results22 (ps := [0 = 0, a0.length = a0.length, E5.cR a0 = E5.cR a0, AllPv (E5.cR a0)]) (by kernel_rfl) ⟨rfl, rfl, rfl, Elem.cR_pv _ _, trivial⟩ (fun _ => ⟨rfl, by simp only [List.mem_cons, List.not_mem_nil, or_false, forall_eq]; exact Elem.cR_bald E5_raw _⟩)
def Y51 (x0 : Api_Uart) (x1 x2 : Int) : List Prop := [x0.In.length = x0.In.length, rowQ (E5.cR x0.In) 1 0 x0.In.length (fun i j => E5.cf (x0.In.getD i E5.z) j), x0.Out.length = x0.Out.length, rowQ (E5.cR x0.Out) 1 0 x0.Out.length (fun i j => E5.cf (x0.Out.getD i E5.z) j), (x0.Lost : Int) = x0.Lost, x0.Asks = x0.Asks, (x1 : Int) = x1, (x2 : Int) = x2]
def Y69 (x0 : List Int) : List Prop := [x0.length = x0.length, ∀ i, i < x0.length → ∀ j, j < 1 → E5.cf (x0.getD i E5.z) j = E5.cf (x0.getD i E5.z) j]
theorem Y69p {x0 : List Int} : allP (Y69 x0) := ⟨rfl, fun _ _ _ _ => rfl, trivial⟩
theorem uart_Step_ok (a0 : Api_Uart) (a1 : Api_UartOp) (r : Api_Uart × Int × Int) (h : uart_Step a0 a1 = some r) : PCalls Tryz.prog 61 [.agg (Y100 a0), .agg [.pv (.raw (.int .i64 a1.Kind)), .pv (.raw (.int .u8 a1.Byte))]] true (.tup [.agg (Y100 r.1), .pv (.raw (.int .u8 r.2.1)), .pv (.raw (.int .i64 r.2.2))]) [] := by
 unfold uart_Step at h
 refine fn_ok tabOk Tryz.func61 (by kernel_rfl) (by kernel_rfl) Tryz.ntmps61 (by simp) ?_
 refine s0 ?_
 obtain ⟨r1, e2, h⟩ := bd_ h
 refine call_ok (d := some 10) (fn := 82) (ax := [.agg (Y100 a0)]) (ps := [a0.In.length = a0.In.length, ∀ i, i < a0.In.length → ∀ j, j < 1 → E5.cf (a0.In.getD i E5.z) j = E5.cf (a0.In.getD i E5.z) j, a0.Out.length = a0.Out.length, ∀ i, i < a0.Out.length → ∀ j, j < 1 → E5.cf (a0.Out.getD i E5.z) j = E5.cf (a0.Out.getD i E5.z) j, (a0.Lost : Int) = a0.Lost, a0.Asks = a0.Asks]) (hb' := []) (by kernel_rfl) (uart_Right_ok _ _ e2 (al := true)) (by kernel_rfl) ⟨rfl, fun _ _ _ _ => rfl, rfl, fun _ _ _ _ => rfl, rfl, rfl, trivial⟩ (fun _ => (by kernel_rfl)) (by simp) rfl (by kernel_rfl) ?_
 refine sg (S := .br (!r1) (.leaf 0) (.leaf 1)) ?_
 refine br_ h ?_ ?_ <;> clear h <;> intro c3 h
 ·refine sk_leaf ?_
  obtain ⟨r4, e5, h⟩ := bd_ h
  refine call_ok (d := some 13) (fn := 81) (ax := [.pv (.raw (.int .i64 1))]) (ps := [(1 : Int) = 1]) (hb' := [.row 5 1 (E5.cR r4.1.In), .row 5 1 (E5.cR r4.1.Out)]) (by kernel_rfl) (uart_Step_1_ok _ _ e5 (al := true)) (by kernel_rfl) ⟨rfl, trivial⟩ (fun _ => (by kernel_rfl)) (by simp) (by simp only [List.map_cons, List.map_nil, Elem.row_up, up_map] <;> rfl) (by kernel_rfl) ?_
  refine s0 ?_
  obtain rfl := some_ h
  exact end_ok [] Tryz.results61 (ps := (Y51 r4.1 r4.2.1 r4.2.2)) (by kernel_rfl) ⟨(by first | rfl | exact Elem.sub_len _ (by omega) | omega | simp | (simp <;> omega)), E5.rowQ_all r4.1.In rfl, (by first | rfl | exact Elem.sub_len _ (by omega) | omega | simp | (simp <;> omega)), E5.rowQ_all r4.1.Out rfl, rfl, rfl, rfl, rfl, trivial⟩ (fun hx => by cases hx)
 ·refine sk_leaf ?_
  obtain ⟨r6, e7, h⟩ := bd_ h
  refine call_ok (d := some 19) (fn := 22) (ax := [.pv ((E5.ro a0.In))]) (ps := (Y69 a0.In)) (hb' := [.row 5 1 (E5.cR r6)]) (by kernel_rfl) (slices_Clone_byte_ok _ _ e7 (al := true)) (by kernel_rfl) Y69p (fun _ => (by kernel_rfl)) (by simp) (by simp only [List.map_cons, List.map_nil, Elem.row_up, up_map] <;> rfl) (by kernel_rfl) ?_
  refine s0 ?_
  obtain ⟨r8, e9, h⟩ := bd_ h
  refine call_ok (d := some 22) (fn := 22) (ax := [.pv ((E5.ro a0.Out))]) (ps := (Y69 a0.Out)) (hb' := [.row 5 1 (E5.cR r8)]) (by kernel_rfl) (slices_Clone_byte_ok _ _ e9 (al := true)) (by kernel_rfl) Y69p (fun _ => (by kernel_rfl)) (by simp) (by simp only [List.map_cons, List.map_nil, Elem.row_up, up_map] <;> rfl) (by kernel_rfl) ?_
  refine sg (S := .br ((a1.Kind : Int) == 1) (.br (decide ((((r6.length : Nat) : Int) : Int) < 16)) (.leaf 0) (.br ((a0.Lost : Int) == 1099511627776) (.leaf 1) (.leaf 2))) (.br ((a1.Kind : Int) == 2) (.br ((((r6.length : Nat) : Int) : Int) == 0) (.leaf 3) (.and (0 ≤ (0 : Int) ∧ 0 < ((r6.length : Nat) : Int)) (.leaf 4))) (.br ((a1.Kind : Int) == 3) (.br ((((r8.length : Nat) : Int) : Int) == 16) (.leaf 5) (.leaf 6)) (.br ((a1.Kind : Int) == 4) (.br ((((r8.length : Nat) : Int) : Int) == 0) (.leaf 7) (.and (0 ≤ (0 : Int) ∧ 0 < ((r8.length : Nat) : Int)) (.leaf 8))) (.leaf 9))))) ?_
  refine br_ h ?_ ?_ <;> clear h <;> intro c10 h
  ·refine br_ h ?_ ?_ <;> clear h <;> intro c11 h
   ·refine sk_leaf ?_
    refine bs_ok (d := 47) (e := 5) (s := 1) (n := 1) (cs := [.pv (.raw (.int .u8 a1.Byte))]) (cs' := E5.cR [a1.Byte]) (by kernel_rfl) rfl (by kernel_rfl) ?_
    refine s0 ?_
    obtain ⟨g12, h⟩ := if_ h
    refine app_ok (d := 48) (e := 5) (s := 1) (b := 1) (x := .row 17600 1 0 r6.length) (y := .row 19392 1 0 1) E5 (xs := r6) (ys := [a1.Byte]) (by kernel_rfl) rfl (.row 17600 r6 r6.length rfl (by kernel_rfl)) (.all 19392 5 [a1.Byte] 1 rfl (by kernel_rfl)) g12 (by kernel_rfl) ?_
    refine s0 ?_
    obtain rfl := some_ h
    exact end_ok [] Tryz.results61 (ps := [((r6 ++ [a1.Byte]).length) = (r6 ++ [a1.Byte]).length, rowQ (E5.cR (r6 ++ [a1.Byte])) 1 0 ((r6 ++ [a1.Byte]).length) (fun i j => E5.cf ((r6 ++ [a1.Byte]).getD i E5.z) j), r8.length = r8.length, rowQ (E5.cR r8) 1 0 r8.length (fun i j => E5.cf (r8.getD i E5.z) j), (a0.Lost : Int) = a0.Lost, (decide (((((r6 ++ [a1.Byte]).length : Nat) : Int) : Int) > 0)) = (decide (((((r6 ++ [a1.Byte]).length : Nat) : Int) : Int) > 0)), (0 : Int) = 0, (0 : Int) = 0]) (by kernel_rfl) ⟨(by first | rfl | exact Elem.sub_len _ (by omega) | omega | simp | (simp <;> omega)), E5.rowQ_all (r6 ++ [a1.Byte]) rfl, (by first | rfl | exact Elem.sub_len _ (by omega) | omega | simp | (simp <;> omega)), E5.rowQ_all r8 rfl, rfl, rfl, rfl, rfl, trivial⟩ (fun hx => by cases hx)
   ·refine br_ h ?_ ?_ <;> clear h <;> intro c13 h
    ·refine sk_leaf ?_
     obtain ⟨r14, e15, h⟩ := bd_ h
     refine call_ok (d := some 55) (fn := 81) (ax := [.pv (.raw (.int .i64 4))]) (ps := [(4 : Int) = 4]) (hb' := [.row 5 1 (E5.cR r14.1.In), .row 5 1 (E5.cR r14.1.Out)]) (by kernel_rfl) (uart_Step_1_ok _ _ e15 (al := true)) (by kernel_rfl) ⟨rfl, trivial⟩ (fun _ => (by kernel_rfl)) (by simp) (by simp only [List.map_cons, List.map_nil, Elem.row_up, up_map] <;> rfl) (by kernel_rfl) ?_
     refine s0 ?_
     obtain rfl := some_ h
     exact end_ok [] Tryz.results61 (ps := (Y51 r14.1 r14.2.1 r14.2.2)) (by kernel_rfl) ⟨(by first | rfl | exact Elem.sub_len _ (by omega) | omega | simp | (simp <;> omega)), E5.rowQ_all r14.1.In rfl, (by first | rfl | exact Elem.sub_len _ (by omega) | omega | simp | (simp <;> omega)), E5.rowQ_all r14.1.Out rfl, rfl, rfl, rfl, rfl, trivial⟩ (fun hx => by cases hx)
    ·refine sk_leaf ?_
     obtain rfl := some_ h
     exact end_ok [] Tryz.results61 (ps := [r6.length = r6.length, rowQ (E5.cR r6) 1 0 r6.length (fun i j => E5.cf (r6.getD i E5.z) j), r8.length = r8.length, rowQ (E5.cR r8) 1 0 r8.length (fun i j => E5.cf (r8.getD i E5.z) j), ((IntKind.i64.wrap (a0.Lost + 1)) : Int) = (IntKind.i64.wrap (a0.Lost + 1)), (decide ((((r6.length : Nat) : Int) : Int) > 0)) = (decide ((((r6.length : Nat) : Int) : Int) > 0)), (0 : Int) = 0, (0 : Int) = 0]) (by kernel_rfl) ⟨(by first | rfl | exact Elem.sub_len _ (by omega) | omega | simp | (simp <;> omega)), E5.rowQ_all r6 rfl, (by first | rfl | exact Elem.sub_len _ (by omega) | omega | simp | (simp <;> omega)), E5.rowQ_all r8 rfl, rfl, rfl, rfl, rfl, trivial⟩ (fun hx => by cases hx)
  ·refine br_ h ?_ ?_ <;> clear h <;> intro c16 h
   ·refine br_ h ?_ ?_ <;> clear h <;> intro c17 h
    ·refine sk_leaf ?_
     obtain ⟨r18, e19, h⟩ := bd_ h
     refine call_ok (d := some 66) (fn := 81) (ax := [.pv (.raw (.int .i64 3))]) (ps := [(3 : Int) = 3]) (hb' := [.row 5 1 (E5.cR r18.1.In), .row 5 1 (E5.cR r18.1.Out)]) (by kernel_rfl) (uart_Step_1_ok _ _ e19 (al := true)) (by kernel_rfl) ⟨rfl, trivial⟩ (fun _ => (by kernel_rfl)) (by simp) (by simp only [List.map_cons, List.map_nil, Elem.row_up, up_map] <;> rfl) (by kernel_rfl) ?_
     refine s0 ?_
     obtain rfl := some_ h
     exact end_ok [] Tryz.results61 (ps := (Y51 r18.1 r18.2.1 r18.2.2)) (by kernel_rfl) ⟨(by first | rfl | exact Elem.sub_len _ (by omega) | omega | simp | (simp <;> omega)), E5.rowQ_all r18.1.In rfl, (by first | rfl | exact Elem.sub_len _ (by omega) | omega | simp | (simp <;> omega)), E5.rowQ_all r18.1.Out rfl, rfl, rfl, rfl, rfl, trivial⟩ (fun hx => by cases hx)
    ·refine gd_ h ?_; clear h; intro g20 h
     refine sk_leaf ?_
     refine ld_ok (d := 73) (id := 17600) (i := (0 + 0)) (j := 0) (e := 5) (n := 1) E5 (xs := r6) (by kernel_rfl) (by kernel_rfl) (by first | omega | (simp at * <;> omega) | (simp_all <;> omega)) (by exact Nat.le_of_ble_eq_true rfl) ?_
     refine sg (S := .and (0 ≤ (1 : Int)) (.and (1 ≤ r6.length) (.leaf 0))) ?_
     refine sk_and (by decide) ?_
     refine gd_ h ?_; clear h; intro g22 h
     refine sk_leaf ?_
     obtain rfl := some_ h
     exact end_ok [] Tryz.results61 (ps := [(r6.length - 1) = ((r6.drop (0 + 1)).take (r6.length - 1)).length, rowQ (E5.cR r6) 1 (0 + 1) (r6.length - 1) (fun i j => E5.cf (((r6.drop (0 + 1)).take (r6.length - 1)).getD i E5.z) j), r8.length = r8.length, rowQ (E5.cR r8) 1 0 r8.length (fun i j => E5.cf (r8.getD i E5.z) j), (a0.Lost : Int) = a0.Lost, (decide (((((r6.length - 1) : Nat) : Int) : Int) > 0)) = (decide (((((r6.length - 1) : Nat) : Int) : Int) > 0)), ((r6.getD (0 + 0) 0) : Int) = (r6.getD (0 + 0) 0), (0 : Int) = 0]) (by kernel_rfl) ⟨(by first | rfl | exact Elem.sub_len _ (by omega) | omega | simp | (simp <;> omega)), E5.rowQ_part r6 (0 + 1) (r6.length - 1) (by first | omega | (simp at * <;> omega) | (simp_all <;> omega)), (by first | rfl | exact Elem.sub_len _ (by omega) | omega | simp | (simp <;> omega)), E5.rowQ_all r8 rfl, rfl, rfl, rfl, rfl, trivial⟩ (fun hx => by cases hx)
   ·refine br_ h ?_ ?_ <;> clear h <;> intro c23 h
    ·refine br_ h ?_ ?_ <;> clear h <;> intro c24 h
     ·refine sk_leaf ?_
      obtain ⟨r25, e26, h⟩ := bd_ h
      refine call_ok (d := some 85) (fn := 81) (ax := [.pv (.raw (.int .i64 7))]) (ps := [(7 : Int) = 7]) (hb' := [.row 5 1 (E5.cR r25.1.In), .row 5 1 (E5.cR r25.1.Out)]) (by kernel_rfl) (uart_Step_1_ok _ _ e26 (al := true)) (by kernel_rfl) ⟨rfl, trivial⟩ (fun _ => (by kernel_rfl)) (by simp) (by simp only [List.map_cons, List.map_nil, Elem.row_up, up_map] <;> rfl) (by kernel_rfl) ?_
      refine s0 ?_
      obtain rfl := some_ h
      exact end_ok [] Tryz.results61 (ps := (Y51 r25.1 r25.2.1 r25.2.2)) (by kernel_rfl) ⟨(by first | rfl | exact Elem.sub_len _ (by omega) | omega | simp | (simp <;> omega)), E5.rowQ_all r25.1.In rfl, (by first | rfl | exact Elem.sub_len _ (by omega) | omega | simp | (simp <;> omega)), E5.rowQ_all r25.1.Out rfl, rfl, rfl, rfl, rfl, trivial⟩ (fun hx => by cases hx)
     ·refine sk_leaf ?_
      refine bs_ok (d := 93) (e := 5) (s := 1) (n := 1) (cs := [.pv (.raw (.int .u8 a1.Byte))]) (cs' := E5.cR [a1.Byte]) (by kernel_rfl) rfl (by kernel_rfl) ?_
      refine s0 ?_
      obtain ⟨g27, h⟩ := if_ h
      refine app_ok (d := 94) (e := 5) (s := 1) (b := 1) (x := .row 17792 1 0 r8.length) (y := .row 22336 1 0 1) E5 (xs := r8) (ys := [a1.Byte]) (by kernel_rfl) rfl (.row 17792 r8 r8.length rfl (by kernel_rfl)) (.all 22336 5 [a1.Byte] 1 rfl (by kernel_rfl)) g27 (by kernel_rfl) ?_
      refine s0 ?_
      obtain rfl := some_ h
      exact end_ok [] Tryz.results61 (ps := [r6.length = r6.length, rowQ (E5.cR r6) 1 0 r6.length (fun i j => E5.cf (r6.getD i E5.z) j), ((r8 ++ [a1.Byte]).length) = (r8 ++ [a1.Byte]).length, rowQ (E5.cR (r8 ++ [a1.Byte])) 1 0 ((r8 ++ [a1.Byte]).length) (fun i j => E5.cf ((r8 ++ [a1.Byte]).getD i E5.z) j), (a0.Lost : Int) = a0.Lost, (decide ((((r6.length : Nat) : Int) : Int) > 0)) = (decide ((((r6.length : Nat) : Int) : Int) > 0)), (0 : Int) = 0, (0 : Int) = 0]) (by kernel_rfl) ⟨(by first | rfl | exact Elem.sub_len _ (by omega) | omega | simp | (simp <;> omega)), E5.rowQ_all r6 rfl, (by first | rfl | exact Elem.sub_len _ (by omega) | omega | simp | (simp <;> omega)), E5.rowQ_all (r8 ++ [a1.Byte]) rfl, rfl, rfl, rfl, rfl, trivial⟩ (fun hx => by cases hx)
    ·refine br_ h ?_ ?_ <;> clear h <;> intro c28 h
     ·refine br_ h ?_ ?_ <;> clear h <;> intro c29 h
      ·refine sk_leaf ?_
       obtain ⟨r30, e31, h⟩ := bd_ h
       refine call_ok (d := some 103) (fn := 81) (ax := [.pv (.raw (.int .i64 3))]) (ps := [(3 : Int) = 3]) (hb' := [.row 5 1 (E5.cR r30.1.In), .row 5 1 (E5.cR r30.1.Out)]) (by kernel_rfl) (uart_Step_1_ok _ _ e31 (al := true)) (by kernel_rfl) ⟨rfl, trivial⟩ (fun _ => (by kernel_rfl)) (by simp) (by simp only [List.map_cons, List.map_nil, Elem.row_up, up_map] <;> rfl) (by kernel_rfl) ?_
       refine s0 ?_
       obtain rfl := some_ h
       exact end_ok [] Tryz.results61 (ps := (Y51 r30.1 r30.2.1 r30.2.2)) (by kernel_rfl) ⟨(by first | rfl | exact Elem.sub_len _ (by omega) | omega | simp | (simp <;> omega)), E5.rowQ_all r30.1.In rfl, (by first | rfl | exact Elem.sub_len _ (by omega) | omega | simp | (simp <;> omega)), E5.rowQ_all r30.1.Out rfl, rfl, rfl, rfl, rfl, trivial⟩ (fun hx => by cases hx)
      ·refine gd_ h ?_; clear h; intro g32 h
       refine sk_leaf ?_
       refine ld_ok (d := 110) (id := 17792) (i := (0 + 0)) (j := 0) (e := 5) (n := 1) E5 (xs := r8) (by kernel_rfl) (by kernel_rfl) (by first | omega | (simp at * <;> omega) | (simp_all <;> omega)) (by exact Nat.le_of_ble_eq_true rfl) ?_
       refine sg (S := .and (0 ≤ (1 : Int)) (.and (1 ≤ r8.length) (.leaf 0))) ?_
       refine sk_and (by decide) ?_
       refine gd_ h ?_; clear h; intro g34 h
       refine sk_leaf ?_
       obtain rfl := some_ h
       exact end_ok [] Tryz.results61 (ps := [r6.length = r6.length, rowQ (E5.cR r6) 1 0 r6.length (fun i j => E5.cf (r6.getD i E5.z) j), (r8.length - 1) = ((r8.drop (0 + 1)).take (r8.length - 1)).length, rowQ (E5.cR r8) 1 (0 + 1) (r8.length - 1) (fun i j => E5.cf (((r8.drop (0 + 1)).take (r8.length - 1)).getD i E5.z) j), (a0.Lost : Int) = a0.Lost, (decide ((((r6.length : Nat) : Int) : Int) > 0)) = (decide ((((r6.length : Nat) : Int) : Int) > 0)), ((r8.getD (0 + 0) 0) : Int) = (r8.getD (0 + 0) 0), (0 : Int) = 0]) (by kernel_rfl) ⟨(by first | rfl | exact Elem.sub_len _ (by omega) | omega | simp | (simp <;> omega)), E5.rowQ_all r6 rfl, (by first | rfl | exact Elem.sub_len _ (by omega) | omega | simp | (simp <;> omega)), E5.rowQ_part r8 (0 + 1) (r8.length - 1) (by first | omega | (simp at * <;> omega) | (simp_all <;> omega)), rfl, rfl, rfl, rfl, trivial⟩ (fun hx => by cases hx)
     ·refine sk_leaf ?_
      obtain ⟨r35, e36, h⟩ := bd_ h
      refine call_ok (d := some 28) (fn := 81) (ax := [.pv (.raw (.int .i64 5))]) (ps := [(5 : Int) = 5]) (hb' := [.row 5 1 (E5.cR r35.1.In), .row 5 1 (E5.cR r35.1.Out)]) (by kernel_rfl) (uart_Step_1_ok _ _ e36 (al := true)) (by kernel_rfl) ⟨rfl, trivial⟩ (fun _ => (by kernel_rfl)) (by simp) (by simp only [List.map_cons, List.map_nil, Elem.row_up, up_map] <;> rfl) (by kernel_rfl) ?_
      refine s0 ?_
      obtain rfl := some_ h
      exact end_ok [] Tryz.results61 (ps := (Y51 r35.1 r35.2.1 r35.2.2)) (by kernel_rfl) ⟨(by first | rfl | exact Elem.sub_len _ (by omega) | omega | simp | (simp <;> omega)), E5.rowQ_all r35.1.In rfl, (by first | rfl | exact Elem.sub_len _ (by omega) | omega | simp | (simp <;> omega)), E5.rowQ_all r35.1.Out rfl, rfl, rfl, rfl, rfl, trivial⟩ (fun hx => by cases hx)
end Go.Proofs.YthmieigenefilaaGreatDoor
