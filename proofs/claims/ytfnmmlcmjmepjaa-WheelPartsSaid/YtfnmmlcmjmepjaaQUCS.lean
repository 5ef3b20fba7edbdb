import Derived.Shelf.Small.Bits
import Derived.Shelf.Strconv.Itoa0
import Derived.Shelf.Sort.Plain
import Derived.Ground.Names2Prog
import Derived.Shelf.Slices.CompactI
import Derived.Shelf.Slices.SearchI
import Derived.Shelf.Slices.Cells
import Derived.Shelf.Slices.In.SortNone
import Derived.Ground.SlbCloneProg
import Derived.Shelf.Bytes.SlClone
import Derived.Test.YtfnmmlcmjmepjaaRows
namespace Go.Proofs
open Go.Shelf
def Try.lays189_ren : Go.Shelf.Ren := ⟨fun | 189 => 58 | 125 => 62 | 257 => 61 | 128 => 72 | 129 => 73 | 294 => 63 | 295 => 64 | 296 => 65 | 297 => 66 | 298 => 67 | 299 => 68 | 216 => 69 | 300 => 70 | 301 => 71 | 328 => 74 | 329 => 75 | 330 => 76 | 331 => 77 | 332 => 78 | 215 => 79 | 343 => 80 | n => n, fun | 28 => 117 | 3 => 3 | 46 => 123 | 0 => 0 | 51 => 133 | 53 => 135 | 4 => 4 | 183 => 126 | 182 => 125 | 131 => 107 | 5 => 5 | 9 => 9 | 218 => 136 | 222 => 83 | 228 => 142 | 229 => 143 | n => n, fun | n => n⟩
theorem Try.lays189 : Go.Proofs.Lays.n189 Try.prog Try.lays189_ren := {
 mixed := by kernel_rfl
 f125 := Try.func62.trans (congrArg some (by kernel_rfl))
 f128 := Try.func72.trans (congrArg some (by kernel_rfl))
 f129 := Try.func73.trans (congrArg some (by kernel_rfl))
 f189 := Try.func58.trans (congrArg some (by kernel_rfl))
 f215 := Try.func79.trans (congrArg some (by kernel_rfl))
 f216 := Try.func69.trans (congrArg some (by kernel_rfl))
 f257 := Try.func61.trans (congrArg some (by kernel_rfl))
 f294 := Try.func63.trans (congrArg some (by kernel_rfl))
 f295 := Try.func64.trans (congrArg some (by kernel_rfl))
 f296 := Try.func65.trans (congrArg some (by kernel_rfl))
 f297 := Try.func66.trans (congrArg some (by kernel_rfl))
 f298 := Try.func67.trans (congrArg some (by kernel_rfl))
 f299 := Try.func68.trans (congrArg some (by kernel_rfl))
 f300 := Try.func70.trans (congrArg some (by kernel_rfl))
 f301 := Try.func71.trans (congrArg some (by kernel_rfl))
 f328 := Try.func74.trans (congrArg some (by kernel_rfl))
 f329 := Try.func75.trans (congrArg some (by kernel_rfl))
 f330 := Try.func76.trans (congrArg some (by kernel_rfl))
 f331 := Try.func77.trans (congrArg some (by kernel_rfl))
 f332 := Try.func78.trans (congrArg some (by kernel_rfl))
 f343 := Try.func80.trans (congrArg some (by kernel_rfl))
 t0 := Try.underlying0
 a0 := Try.isAgg0
 z0 := Try.sizeOf0
 v0 := Try.zeroValue0
 t3 := Try.underlying3
 a3 := Try.isAgg3
 z3 := Try.sizeOf3
 v3 := Try.zeroValue3
 t4 := Try.underlying4
 a4 := Try.isAgg4
 z4 := Try.sizeOf4
 v4 := Try.zeroValue4
 t5 := Try.underlying5
 a5 := Try.isAgg5
 z5 := Try.sizeOf5
 v5 := Try.zeroValue5
 t9 := Try.underlying9
 a9 := Try.isAgg9
 z9 := Try.sizeOf9
 v9 := Try.zeroValue9
 t28 := Try.underlying117
 a28 := Try.isAgg117
 z28 := Try.sizeOf117
 v28 := Try.zeroValue117
 t46 := Try.underlying123
 a46 := Try.isAgg123
 z46 := Try.sizeOf123
 v46 := Try.zeroValue123
 t51 := Try.underlying133
 a51 := Try.isAgg133
 z51 := Try.sizeOf133
 v51 := Try.zeroValue133
 t53 := Try.underlying135
 a53 := Try.isAgg135
 z53 := Try.sizeOf135
 v53 := Try.zeroValue135
 t131 := Try.underlying107
 a131 := Try.isAgg107
 z131 := Try.sizeOf107
 v131 := Try.zeroValue107
 t182 := Try.underlying125
 a182 := Try.isAgg125
 z182 := Try.sizeOf125
 v182 := Try.zeroValue125
 t183 := Try.underlying126
 a183 := Try.isAgg126
 z183 := Try.sizeOf126
 v183 := Try.zeroValue126
 t218 := Try.underlying136
 a218 := Try.isAgg136
 z218 := Try.sizeOf136
 v218 := Try.zeroValue136
 t222 := Try.underlying83
 a222 := Try.isAgg83
 z222 := Try.sizeOf83
 v222 := Try.zeroValue83
 t228 := Try.underlying142
 a228 := Try.isAgg142
 z228 := Try.sizeOf142
 v228 := Try.zeroValue142
 t229 := Try.underlying143
 a229 := Try.isAgg143
 z229 := Try.sizeOf143
 v229 := Try.zeroValue143 }
open Go.Sort Go.RowKit in
theorem Try.slices_Sort_int (blk off cap : Nat) (zs : List Int) (w : World) (hH : Holds (Value.int .i64) w blk off zs.toArray) (hblk : blk < w.heap.size) (hsz : zs.length < 4611686018427387904) :
  Calls Try.prog 58 #[.slice (some ⟨blk, off, none⟩) zs.length cap] w fun e w' =>
   e = .returned (.tuple #[]) ∧ ∃ n os, w' = grow (putRow (Value.int .i64) (Sort.ahead w n) blk off (zs.mergeSort fun x y => decide (x ≤ y)).toArray) os := Any.slices_Sort_int Try.lays189 blk off cap zs w hH hblk hsz
open Go.RowKit Go.Sort in
theorem Try.slices_Sort_int_none (p : Option Addr) (cap : Nat) (w : World) :
  Calls Try.prog 58 #[.slice p 0 cap] w fun e w' => e = .returned (.tuple #[]) ∧ w' = w := Any.slices_Sort_int_none Try.lays189 p cap w
end Go.Proofs

