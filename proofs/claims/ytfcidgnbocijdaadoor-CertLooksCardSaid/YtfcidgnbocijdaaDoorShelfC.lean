/-
  DERIVED: THE SHELF's CONTRACTS AT THIS DUMP, IN PLAIN WORDS (tools/lay-plain.mjs out of 'YtfcidgnbocijdaaDoorLayC.lean', which tools/lay-shelf.mjs wrote): THE SAME DECLARATIONS UNDER THE SAME NAMES: 'import', 'namespace', 'open', 'def', 'theorem' AND NOTHING ELSE: no command of the shelf's: FOR A HAND-IN. Each laying: the table of numbers ('.._ren') and one theorem, a field a fact of the dump's own or the kernel's comparison; each contract: ONE APPLICATION.
-/
import Derived.Shelf.Bytes.SlSmallAll
import Derived.Shelf.Bytes.SlTrim
import Derived.Test.YtfcidgnbocijdaaDoorProg
namespace Go.Proofs
open Go.Shelf
def Tryd.lays115_ren : Go.Shelf.Ren := ⟨fun | 115 => 95 | n => n, fun | 37 => 64 | 4 => 4 | 9 => 9 | 5 => 5 | n => n, fun | n => n⟩
theorem Tryd.lays115 : Go.Proofs.Lays.n115 Tryd.prog Tryd.lays115_ren := {
  mixed := by kernel_rfl
  f115 := Tryd.func95.trans (congrArg some (by kernel_rfl))
  t4 := Tryd.underlying4
  a4 := Tryd.isAgg4
  z4 := Tryd.sizeOf4
  v4 := Tryd.zeroValue4
  t9 := Tryd.underlying9
  a9 := Tryd.isAgg9
  z9 := Tryd.sizeOf9
  v9 := Tryd.zeroValue9
  t37 := Tryd.underlying64
  a37 := Tryd.isAgg64
  z37 := Tryd.sizeOf64
  v37 := Tryd.zeroValue64 }
def Tryd.laysnb116_ren : Go.Shelf.Ren := ⟨fun | 116 => 77 | 115 => 95 | n => n, fun | 37 => 64 | 4 => 4 | 3 => 3 | 9 => 9 | 5 => 5 | n => n, fun | n => n⟩
theorem Tryd.laysnb116 : Go.Proofs.Lays.nb116 Tryd.prog Tryd.laysnb116_ren := {
  mixed := by kernel_rfl
  f115 := Tryd.func95.trans (congrArg some (by kernel_rfl))
  f116 := Tryd.func77.trans (congrArg some (by kernel_rfl))
  t3 := Tryd.underlying3
  a3 := Tryd.isAgg3
  z3 := Tryd.sizeOf3
  v3 := Tryd.zeroValue3
  t4 := Tryd.underlying4
  a4 := Tryd.isAgg4
  z4 := Tryd.sizeOf4
  v4 := Tryd.zeroValue4
  t9 := Tryd.underlying9
  a9 := Tryd.isAgg9
  z9 := Tryd.sizeOf9
  v9 := Tryd.zeroValue9
  t37 := Tryd.underlying64
  a37 := Tryd.isAgg64
  z37 := Tryd.sizeOf64
  v37 := Tryd.zeroValue64
  t5 := Tryd.underlying5
  a5 := Tryd.isAgg5
  z5 := Tryd.sizeOf5
  v5 := Tryd.zeroValue5 }
/-- bytes.HasPrefix: WHOLE: each argument nil, or of no byte at whatever address, or at an address with its cells. (LAID: no walk: one application.) -/
theorem Tryd.bytes_HasPrefix_all (p1 p2 : Option Addr) (n c m d : Nat) (xs ys : List Int) (w : World) (hx : xs.length = n) (hy : ys.length = m) (hnc : n ≤ c) (h1 : Lib.BytesIn w p1 n xs) (h2 : Lib.BytesIn w p2 m ys) :
    Calls Tryd.prog 77 #[.slice p1 n c, .slice p2 m d] w fun e w' => e = .returned (.bool (Lib.hasPrefix (Lib.bytesOf xs) (Lib.bytesOf ys))) ∧ w' = w := Any.bytes_HasPrefix_all Tryd.laysnb116 p1 p2 n c m d xs ys w hx hy hnc h1 h2
def Tryd.laysTrim_ren : Go.Shelf.Ren := ⟨fun | 6 => 78 | 10 => 97 | 9 => 96 | 11 => 98 | 13 => 100 | 12 => 99 | 15 => 102 | 14 => 101 | 16 => 112 | 19 => 115 | 18 => 114 | 17 => 113 | 21 => 125 | 20 => 124 | n => n, fun | 22 => 64 | 9 => 9 | 3 => 3 | 4 => 4 | 5 => 5 | 28 => 131 | 27 => 130 | 0 => 0 | 31 => 134 | 21 => 21 | 33 => 146 | 36 => 166 | 37 => 138 | 40 => 169 | 39 => 168 | n => n, fun | 0 => 4 | 1 => 5 | n => n⟩
theorem Tryd.laysTrim : Go.Proofs.SlLaysV.n6 Tryd.prog Tryd.laysTrim_ren := {
  mixed := by kernel_rfl
  f6 := Tryd.func78.trans (congrArg some (by kernel_rfl))
  f9 := Tryd.func96.trans (congrArg some (by kernel_rfl))
  f10 := Tryd.func97.trans (congrArg some (by kernel_rfl))
  f11 := Tryd.func98.trans (congrArg some (by kernel_rfl))
  f12 := Tryd.func99.trans (congrArg some (by kernel_rfl))
  f13 := Tryd.func100.trans (congrArg some (by kernel_rfl))
  f14 := Tryd.func101.trans (congrArg some (by kernel_rfl))
  f15 := Tryd.func102.trans (congrArg some (by kernel_rfl))
  f16 := Tryd.func112.trans (congrArg some (by kernel_rfl))
  f17 := Tryd.func113.trans (congrArg some (by kernel_rfl))
  f18 := Tryd.func114.trans (congrArg some (by kernel_rfl))
  f19 := Tryd.func115.trans (congrArg some (by kernel_rfl))
  f20 := Tryd.func124.trans (congrArg some (by kernel_rfl))
  f21 := Tryd.func125.trans (congrArg some (by kernel_rfl))
  t0 := Tryd.underlying0
  a0 := Tryd.isAgg0
  z0 := Tryd.sizeOf0
  v0 := Tryd.zeroValue0
  t3 := Tryd.underlying3
  a3 := Tryd.isAgg3
  z3 := Tryd.sizeOf3
  v3 := Tryd.zeroValue3
  t4 := Tryd.underlying4
  a4 := Tryd.isAgg4
  z4 := Tryd.sizeOf4
  v4 := Tryd.zeroValue4
  t5 := Tryd.underlying5
  a5 := Tryd.isAgg5
  z5 := Tryd.sizeOf5
  v5 := Tryd.zeroValue5
  t9 := Tryd.underlying9
  a9 := Tryd.isAgg9
  z9 := Tryd.sizeOf9
  v9 := Tryd.zeroValue9
  t21 := Tryd.underlying21
  a21 := Tryd.isAgg21
  z21 := Tryd.sizeOf21
  v21 := Tryd.zeroValue21
  t22 := Tryd.underlying64
  a22 := Tryd.isAgg64
  z22 := Tryd.sizeOf64
  v22 := Tryd.zeroValue64
  t27 := Tryd.underlying130
  a27 := Tryd.isAgg130
  z27 := Tryd.sizeOf130
  t28 := Tryd.underlying131
  a28 := Tryd.isAgg131
  z28 := Tryd.sizeOf131
  v28 := Tryd.zeroValue131
  t31 := Tryd.underlying134
  a31 := Tryd.isAgg134
  z31 := Tryd.sizeOf134
  v31 := Tryd.zeroValue134
  t33 := Tryd.underlying146
  a33 := Tryd.isAgg146
  z33 := Tryd.sizeOf146
  v33 := Tryd.zeroValue146
  t36 := Tryd.underlying166
  a36 := Tryd.isAgg166
  z36 := Tryd.sizeOf166
  t37 := Tryd.underlying138
  a37 := Tryd.isAgg138
  z37 := Tryd.sizeOf138
  v37 := Tryd.zeroValue138
  t39 := Tryd.underlying168
  a39 := Tryd.isAgg168
  z39 := Tryd.sizeOf168
  v39 := Tryd.zeroValue168
  t40 := Tryd.underlying169
  a40 := Tryd.isAgg169
  z40 := Tryd.sizeOf169
  v40 := Tryd.zeroValue169 }
end Go.Proofs
