/- slices.Sort, slices.Compact over []int, and bits.Len at this dump, in plain words: written by the kit (lay-shelf, lay-plain), trimmed. -/
import Derived.Shelf.Small.Bits
import Derived.Shelf.Sort.Plain
import Derived.Ground.Names2Prog
import Derived.Shelf.Slices.CompactI
import Derived.Shelf.Slices.In.SortNone
import Derived.Test.YtpjopeojeglogaaProg
namespace Go.Proofs
open Go.Shelf
def Try.lays125_ren : Go.Shelf.Ren := ⟨fun | 125 => 181 | 128 => 212 | 129 => 213 | n => n, fun | 46 => 181 | 3 => 3 | 51 => 119 | 53 => 281 | 4 => 4 | 5 => 5 | 9 => 9 | n => n, fun | n => n⟩
theorem Try.lays125 : Go.Proofs.Lays.n125 Try.prog Try.lays125_ren := {
  mixed := by kernel_rfl
  f125 := Try.func181.trans (congrArg some (by kernel_rfl))
  f128 := Try.func212.trans (congrArg some (by kernel_rfl))
  f129 := Try.func213.trans (congrArg some (by kernel_rfl))
  t3 := Try.underlying3
  a3 := Try.isAgg3
  z3 := Try.sizeOf3
  v3 := Try.zeroValue3
  t4 := Try.underlying4
  a4 := Try.isAgg4
  z4 := Try.sizeOf4
  v4 := Try.zeroValue4
  t5 := Try.underlying5
  a5 := Try.isAgg5
  z5 := Try.sizeOf5
  v5 := Try.zeroValue5
  t9 := Try.underlying9
  a9 := Try.isAgg9
  z9 := Try.sizeOf9
  v9 := Try.zeroValue9
  t46 := Try.underlying181
  a46 := Try.isAgg181
  z46 := Try.sizeOf181
  v46 := Try.zeroValue181
  t51 := Try.underlying119
  a51 := Try.isAgg119
  z51 := Try.sizeOf119
  v51 := Try.zeroValue119
  t53 := Try.underlying281
  a53 := Try.isAgg281
  z53 := Try.sizeOf281
  v53 := Try.zeroValue281 }
theorem Try.bits_Len (x : Int) (w : World) (h0 : 0 ≤ x) (h1 : x ≤ 18446744073709551615) :
    Calls Try.prog 181 #[.int .u64 x] w fun e w' => e = .returned (.int .i64 (Lib.bitLen x.toNat)) ∧ w' = w := Any.bits_Len Try.lays125 x w h0 h1
def Try.lays189_ren : Go.Shelf.Ren := ⟨fun | 189 => 139 | 125 => 181 | 257 => 180 | 128 => 212 | 129 => 213 | 294 => 203 | 295 => 204 | 296 => 205 | 297 => 206 | 298 => 207 | 299 => 208 | 216 => 209 | 300 => 210 | 301 => 211 | 328 => 224 | 329 => 225 | 330 => 226 | 331 => 227 | 332 => 228 | 215 => 200 | 343 => 233 | n => n, fun | 28 => 35 | 3 => 3 | 46 => 181 | 0 => 0 | 51 => 119 | 53 => 281 | 4 => 4 | 183 => 274 | 182 => 273 | 131 => 112 | 5 => 5 | 9 => 9 | 218 => 288 | 222 => 292 | 228 => 295 | 229 => 115 | n => n, fun | n => n⟩
theorem Try.lays189 : Go.Proofs.Lays.n189 Try.prog Try.lays189_ren := {
  mixed := by kernel_rfl
  f125 := Try.func181.trans (congrArg some (by kernel_rfl))
  f128 := Try.func212.trans (congrArg some (by kernel_rfl))
  f129 := Try.func213.trans (congrArg some (by kernel_rfl))
  f189 := Try.func139.trans (congrArg some (by kernel_rfl))
  f215 := Try.func200.trans (congrArg some (by kernel_rfl))
  f216 := Try.func209.trans (congrArg some (by kernel_rfl))
  f257 := Try.func180.trans (congrArg some (by kernel_rfl))
  f294 := Try.func203.trans (congrArg some (by kernel_rfl))
  f295 := Try.func204.trans (congrArg some (by kernel_rfl))
  f296 := Try.func205.trans (congrArg some (by kernel_rfl))
  f297 := Try.func206.trans (congrArg some (by kernel_rfl))
  f298 := Try.func207.trans (congrArg some (by kernel_rfl))
  f299 := Try.func208.trans (congrArg some (by kernel_rfl))
  f300 := Try.func210.trans (congrArg some (by kernel_rfl))
  f301 := Try.func211.trans (congrArg some (by kernel_rfl))
  f328 := Try.func224.trans (congrArg some (by kernel_rfl))
  f329 := Try.func225.trans (congrArg some (by kernel_rfl))
  f330 := Try.func226.trans (congrArg some (by kernel_rfl))
  f331 := Try.func227.trans (congrArg some (by kernel_rfl))
  f332 := Try.func228.trans (congrArg some (by kernel_rfl))
  f343 := Try.func233.trans (congrArg some (by kernel_rfl))
  t0 := Try.underlying0
  a0 := Try.isAgg0
  z0 := Try.sizeOf0
  v0 := Try.zeroValue0
  t3 := Try.underlying3
  a3 := Try.isAgg3
  z3 := Try.sizeOf3
  v3 := Try.zeroValue3
  t4 := Try.underlying4
  a4 := Try.isAgg4
  z4 := Try.sizeOf4
  v4 := Try.zeroValue4
  t5 := Try.underlying5
  a5 := Try.isAgg5
  z5 := Try.sizeOf5
  v5 := Try.zeroValue5
  t9 := Try.underlying9
  a9 := Try.isAgg9
  z9 := Try.sizeOf9
  v9 := Try.zeroValue9
  t28 := Try.underlying35
  a28 := Try.isAgg35
  z28 := Try.sizeOf35
  v28 := Try.zeroValue35
  t46 := Try.underlying181
  a46 := Try.isAgg181
  z46 := Try.sizeOf181
  v46 := Try.zeroValue181
  t51 := Try.underlying119
  a51 := Try.isAgg119
  z51 := Try.sizeOf119
  v51 := Try.zeroValue119
  t53 := Try.underlying281
  a53 := Try.isAgg281
  z53 := Try.sizeOf281
  v53 := Try.zeroValue281
  t131 := Try.underlying112
  a131 := Try.isAgg112
  z131 := Try.sizeOf112
  v131 := Try.zeroValue112
  t182 := Try.underlying273
  a182 := Try.isAgg273
  z182 := Try.sizeOf273
  v182 := Try.zeroValue273
  t183 := Try.underlying274
  a183 := Try.isAgg274
  z183 := Try.sizeOf274
  v183 := Try.zeroValue274
  t218 := Try.underlying288
  a218 := Try.isAgg288
  z218 := Try.sizeOf288
  v218 := Try.zeroValue288
  t222 := Try.underlying292
  a222 := Try.isAgg292
  z222 := Try.sizeOf292
  v222 := Try.zeroValue292
  t228 := Try.underlying295
  a228 := Try.isAgg295
  z228 := Try.sizeOf295
  v228 := Try.zeroValue295
  t229 := Try.underlying115
  a229 := Try.isAgg115
  z229 := Try.sizeOf115
  v229 := Try.zeroValue115 }
open Go.Sort Go.RowKit in
theorem Try.slices_Sort_int (blk off cap : Nat) (zs : List Int) (w : World) (hH : Holds (Value.int .i64) w blk off zs.toArray) (hblk : blk < w.heap.size) (hsz : zs.length < 4611686018427387904) :
    Calls Try.prog 139 #[.slice (some ⟨blk, off, none⟩) zs.length cap] w fun e w' =>
      e = .returned (.tuple #[]) ∧ ∃ n os, w' = grow (putRow (Value.int .i64) (Sort.ahead w n) blk off (zs.mergeSort fun x y => decide (x ≤ y)).toArray) os := Any.slices_Sort_int Try.lays189 blk off cap zs w hH hblk hsz
def Try.laysNm220_ren : Go.Shelf.Ren := ⟨fun | 20 => 194 | n => n, fun | 22 => 35 | 3 => 3 | 4 => 4 | 0 => 0 | n => n, fun | n => n⟩
theorem Try.laysNm220 : Go.Proofs.Lays2.n20 Try.prog Try.laysNm220_ren := {
  mixed := by kernel_rfl
  f20 := Try.func194.trans (congrArg some (by kernel_rfl))
  t0 := Try.underlying0
  a0 := Try.isAgg0
  z0 := Try.sizeOf0
  v0 := Try.zeroValue0
  t3 := Try.underlying3
  a3 := Try.isAgg3
  z3 := Try.sizeOf3
  v3 := Try.zeroValue3
  t4 := Try.underlying4
  a4 := Try.isAgg4
  z4 := Try.sizeOf4
  v4 := Try.zeroValue4
  t22 := Try.underlying35
  a22 := Try.isAgg35
  z22 := Try.sizeOf35
  v22 := Try.zeroValue35
  i3 := by kernel_rfl }
open Go.RowKit Go.Lib Go.Sort in
theorem Try.slices_Compact_int (blk off cap : Nat) (zs : List Int) (w : World) (hH : Holds (Value.int .i64) w blk off zs.toArray) (hsz : zs.length ≤ 9223372036854775807) (hcap : zs.length ≤ cap) :
    Calls Try.prog 194 #[.slice (some ⟨blk, off, none⟩) zs.length cap] w fun e w' => e = .returned (.slice (some ⟨blk, off, none⟩) (Lib.compact zs).length cap) ∧ ∃ q, w' = putRow (Value.int .i64) (Sort.ahead w q) blk off (Lib.compact zs ++ List.replicate (zs.length - (Lib.compact zs).length) 0).toArray := Any.slices_Compact_int Try.laysNm220 blk off cap zs w hH hsz hcap
open Go.RowKit Go.Lib Go.Sort in
theorem Try.slices_Compact_int_empty (a : Option Addr) (cap : Nat) (w : World) :
    Calls Try.prog 194 #[.slice a 0 cap] w fun e w' => e = .returned (.slice a 0 cap) ∧ w' = w := Any.slices_Compact_int_empty Try.laysNm220 a cap w
open Go.RowKit Go.Sort in
theorem Try.slices_Sort_int_none (p : Option Addr) (cap : Nat) (w : World) :
    Calls Try.prog 139 #[.slice p 0 cap] w fun e w' => e = .returned (.tuple #[]) ∧ w' = w := Any.slices_Sort_int_none Try.lays189 p cap w
end Go.Proofs
