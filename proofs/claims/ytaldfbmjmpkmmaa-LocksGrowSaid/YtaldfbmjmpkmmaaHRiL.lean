/-
  DERIVED: THE SHELF's CONTRACTS AT THIS DUMP, IN PLAIN WORDS (tools/lay-plain.mjs out of 'YtaldfbmjmpkmmaaHRiL.lean', which tools/lay-shelf.mjs wrote): THE SAME DECLARATIONS UNDER THE SAME NAMES: 'import', 'namespace', 'open', 'def', 'theorem' AND NOTHING ELSE: no command of the shelf's: FOR A HAND-IN. Each laying: the table of numbers ('.._ren') and one theorem, a field a fact of the dump's own or the kernel's comparison; each contract: ONE APPLICATION.
-/
import Derived.Shelf.SlGeneric
import Derived.Sort.KeysCollected
import Derived.Sort.Walk0
import Derived.Shelf.SlIter.Nil
import Derived.Shelf.SortM.Plain
import Derived.Shelf.SortM.SortNone
import Derived.Ground.GgzProg
import Derived.Ground.SlgmProg
import Derived.Test.YtaldfbmjmpkmmaaProg
namespace Go.Proofs
open Go.Shelf
def Try.keysZ_ren : Go.Shelf.Ren := ⟨fun | 7 => 104 | 10 => 134 | n => n, fun | 23 => 112 | 26 => 9 | 3 => 153 | 28 => 156 | 0 => 0 | 27 => 155 | 33 => 132 | 4 => 4 | n => n, fun | n => n⟩
theorem Try.keysZ : Go.Proofs.SlLaysZ.n7 Try.prog Try.keysZ_ren := {
 mixed := by kernel_rfl
 f7 := ⟨Try.f104.name, by decide, Try.func104.trans (congrArg some (by kernel_rfl))⟩
 f10 := ⟨Try.f134.name, by decide, Try.func134.trans (congrArg some (by kernel_rfl))⟩
 t0 := Try.underlying0
 a0 := Try.isAgg0
 z0 := Try.sizeOf0
 v0 := Try.zeroValue0
 t4 := Try.underlying4
 a4 := Try.isAgg4
 z4 := Try.sizeOf4
 v4 := Try.zeroValue4
 t23 := Try.underlying112
 a23 := Try.isAgg112
 z23 := Try.sizeOf112
 v23 := Try.zeroValue112
 t26 := Try.underlying9
 a26 := Try.isAgg9
 z26 := Try.sizeOf9
 v26 := Try.zeroValue9
 t27 := Try.underlying155
 a27 := Try.isAgg155
 z27 := Try.sizeOf155
 v27 := Try.zeroValue155
 t28 := Try.underlying156
 a28 := Try.isAgg156
 z28 := Try.sizeOf156
 v28 := Try.zeroValue156
 t33 := Try.underlying132
 a33 := Try.isAgg132
 z33 := Try.sizeOf132
 v33 := Try.zeroValue132 }
def Try.sortedZ_ren : Go.Shelf.Ren := ⟨fun | 6 => 103 | 8 => 132 | 9 => 133 | 11 => 140 | 13 => 137 | 12 => 141 | 23 => 151 | 24 => 152 | 14 => 153 | 15 => 154 | 16 => 155 | 17 => 156 | 18 => 157 | 19 => 158 | 20 => 159 | 21 => 160 | 22 => 161 | 25 => 168 | 26 => 163 | 27 => 164 | 28 => 169 | 29 => 170 | 30 => 171 | 31 => 173 | n => n, fun | 26 => 9 | 28 => 156 | 24 => 32 | 0 => 0 | 3 => 3 | 37 => 179 | 48 => 192 | 50 => 194 | 4 => 4 | 40 => 185 | 39 => 184 | 45 => 168 | 5 => 5 | 9 => 9 | 51 => 201 | 55 => 205 | 57 => 209 | 58 => 72 | 33 => 132 | n => n, fun | n => n⟩
theorem Try.sortedZ : Go.Proofs.SlLaysZ.n6 Try.prog Try.sortedZ_ren := {
 mixed := by kernel_rfl
 f6 := ⟨Try.f103.name, by decide, Try.func103.trans (congrArg some (by kernel_rfl))⟩
 f8 := ⟨Try.f132.name, by decide, Try.func132.trans (congrArg some (by kernel_rfl))⟩
 f11 := ⟨Try.f140.name, by decide, Try.func140.trans (congrArg some (by kernel_rfl))⟩
 t0 := Try.underlying0
 a0 := Try.isAgg0
 z0 := Try.sizeOf0
 v0 := Try.zeroValue0
 t24 := Try.underlying32
 a24 := Try.isAgg32
 z24 := Try.sizeOf32
 v24 := Try.zeroValue32
 t26 := Try.underlying9
 a26 := Try.isAgg9
 z26 := Try.sizeOf9
 v26 := Try.zeroValue9
 t28 := Try.underlying156
 a28 := Try.isAgg156
 z28 := Try.sizeOf156
 v28 := Try.zeroValue156
 i26 := by kernel_rfl }
def Try.sortZ_ren : Go.Shelf.Ren := ⟨fun | 6 => 133 | 8 => 137 | 9 => 141 | 19 => 151 | 20 => 152 | 21 => 153 | 22 => 154 | 23 => 155 | 24 => 156 | 25 => 157 | 26 => 158 | 27 => 159 | 28 => 160 | 29 => 161 | 36 => 168 | 31 => 163 | 32 => 164 | 37 => 169 | 38 => 170 | 39 => 171 | 41 => 173 | n => n, fun | 27 => 32 | 29 => 9 | 3 => 3 | 32 => 179 | 26 => 32 | 0 => 0 | 44 => 192 | 46 => 194 | 4 => 4 | 36 => 185 | 35 => 184 | 41 => 168 | 5 => 5 | 9 => 9 | 53 => 201 | 57 => 205 | 63 => 209 | 64 => 72 | n => n, fun | n => n⟩
theorem Try.sortZ : Go.Proofs.SlLaysM.n6 Try.prog Try.sortZ_ren := {
 mixed := by kernel_rfl
 f6 := ⟨Try.f133.name, by decide, Try.func133.trans (congrArg some (by kernel_rfl))⟩
 f8 := Try.func137.trans (congrArg some (by kernel_rfl))
 f9 := ⟨Try.f141.name, by decide, Try.func141.trans (congrArg some (by kernel_rfl))⟩
 f19 := Try.func151.trans (congrArg some (by kernel_rfl))
 f20 := Try.func152.trans (congrArg some (by kernel_rfl))
 f21 := ⟨Try.f153.name, by decide, Try.func153.trans (congrArg some (by kernel_rfl))⟩
 f22 := ⟨Try.f154.name, by decide, Try.func154.trans (congrArg some (by kernel_rfl))⟩
 f23 := ⟨Try.f155.name, by decide, Try.func155.trans (congrArg some (by kernel_rfl))⟩
 f24 := ⟨Try.f156.name, by decide, Try.func156.trans (congrArg some (by kernel_rfl))⟩
 f25 := ⟨Try.f157.name, by decide, Try.func157.trans (congrArg some (by kernel_rfl))⟩
 f26 := ⟨Try.f158.name, by decide, Try.func158.trans (congrArg some (by kernel_rfl))⟩
 f27 := ⟨Try.f159.name, by decide, Try.func159.trans (congrArg some (by kernel_rfl))⟩
 f28 := ⟨Try.f160.name, by decide, Try.func160.trans (congrArg some (by kernel_rfl))⟩
 f29 := ⟨Try.f161.name, by decide, Try.func161.trans (congrArg some (by kernel_rfl))⟩
 f31 := Try.func163.trans (congrArg some (by kernel_rfl))
 f32 := Try.func164.trans (congrArg some (by kernel_rfl))
 f36 := ⟨Try.f168.name, by decide, Try.func168.trans (congrArg some (by kernel_rfl))⟩
 f37 := ⟨Try.f169.name, by decide, Try.func169.trans (congrArg some (by kernel_rfl))⟩
 f38 := ⟨Try.f170.name, by decide, Try.func170.trans (congrArg some (by kernel_rfl))⟩
 f39 := ⟨Try.f171.name, by decide, Try.func171.trans (congrArg some (by kernel_rfl))⟩
 f41 := ⟨Try.f173.name, by decide, Try.func173.trans (congrArg some (by kernel_rfl))⟩
 t0 := Try.underlying0
 a0 := Try.isAgg0
 z0 := Try.sizeOf0
 v0 := Try.zeroValue0
 t3 := Try.underlying3
 a3 := Try.isAgg3
 z3 := Try.sizeOf3
 v3 := Try.zeroValue3
 t4 := Try.underlying4
 a4 := Try.isAgg4
 z4 := Try.sizeOf4
 v4 := Try.zeroValue4
 t5 := Try.underlying5
 a5 := Try.isAgg5
 z5 := Try.sizeOf5
 v5 := Try.zeroValue5
 t9 := Try.underlying9
 a9 := Try.isAgg9
 z9 := Try.sizeOf9
 v9 := Try.zeroValue9
 t26 := Try.underlying32
 a26 := Try.isAgg32
 z26 := Try.sizeOf32
 v26 := Try.zeroValue32
 t27 := Try.underlying32
 a27 := Try.isAgg32
 z27 := Try.sizeOf32
 v27 := Try.zeroValue32
 t29 := Try.underlying9
 a29 := Try.isAgg9
 z29 := Try.sizeOf9
 v29 := Try.zeroValue9
 t32 := Try.underlying179
 a32 := Try.isAgg179
 z32 := Try.sizeOf179
 v32 := Try.zeroValue179
 t35 := Try.underlying184
 a35 := Try.isAgg184
 z35 := Try.sizeOf184
 v35 := Try.zeroValue184
 t36 := Try.underlying185
 a36 := Try.isAgg185
 z36 := Try.sizeOf185
 v36 := Try.zeroValue185
 t41 := Try.underlying168
 a41 := Try.isAgg168
 z41 := Try.sizeOf168
 v41 := Try.zeroValue168
 t44 := Try.underlying192
 a44 := Try.isAgg192
 z44 := Try.sizeOf192
 v44 := Try.zeroValue192
 t46 := Try.underlying194
 a46 := Try.isAgg194
 z46 := Try.sizeOf194
 v46 := Try.zeroValue194
 t53 := Try.underlying201
 a53 := Try.isAgg201
 z53 := Try.sizeOf201
 v53 := Try.zeroValue201
 t57 := Try.underlying205
 a57 := Try.isAgg205
 z57 := Try.sizeOf205
 v57 := Try.zeroValue205
 t63 := Try.underlying209
 a63 := Try.isAgg209
 z63 := Try.sizeOf209
 v63 := Try.zeroValue209
 t64 := Try.underlying72
 a64 := Try.isAgg72
 z64 := Try.sizeOf72
 v64 := Try.zeroValue72 }
end Go.Proofs
