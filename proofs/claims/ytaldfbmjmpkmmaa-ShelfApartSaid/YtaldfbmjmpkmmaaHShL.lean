/-
  DERIVED: THE SHELF's CONTRACTS AT THIS DUMP, IN PLAIN WORDS (tools/lay-plain.mjs out of 'YtaldfbmjmpkmmaaHShL.lean', which tools/lay-shelf.mjs wrote): THE SAME DECLARATIONS UNDER THE SAME NAMES: 'import', 'namespace', 'open', 'def', 'theorem' AND NOTHING ELSE: no command of the shelf's: FOR A HAND-IN. Each laying: the table of numbers ('.._ren') and one theorem, a field a fact of the dump's own or the kernel's comparison; each contract: ONE APPLICATION.
-/
import Derived.Shelf.SlGeneric
import Derived.Shelf.SlSorted.Search
import Derived.Shelf.SlMaps.Clone
import Derived.Shelf.SlMaps.DeleteFunc
import Derived.Ground.SlsoProg
import Derived.Shelf.Spec.SlicesGrow
import Derived.Ground.Names8Prog
import Derived.Ground.SlmcProg
import Derived.Ground.SlmdProg
import Derived.Test.YtaldfbmjmpkmmaaProg
namespace Go.Proofs
open Go.Shelf
def Try.search_ren : Go.Shelf.Ren := ⟨fun | 16 => 110 | n => n, fun | 3 => 3 | 35 => 110 | 4 => 4 | 38 => 179 | n => n, fun | n => n⟩
theorem Try.search : Go.Proofs.SlLaysO.n16 Try.prog Try.search_ren := {
  mixed := by kernel_rfl
  f16 := Try.func110.trans (congrArg some (by kernel_rfl))
  t3 := Try.underlying3
  a3 := Try.isAgg3
  z3 := Try.sizeOf3
  v3 := Try.zeroValue3
  t4 := Try.underlying4
  a4 := Try.isAgg4
  z4 := Try.sizeOf4
  v4 := Try.zeroValue4
  t35 := Try.underlying110
  a35 := Try.isAgg110
  z35 := Try.sizeOf110
  v35 := Try.zeroValue110
  t38 := Try.underlying179
  a38 := Try.isAgg179
  z38 := Try.sizeOf179
  v38 := Try.zeroValue179 }
def Try.cloneK_ren : Go.Shelf.Ren := ⟨fun | 5 => 44 | 7 => 92 | n => n, fun | 23 => 74 | 25 => 9 | 3 => 81 | 4 => 4 | 20 => 20 | n => n, fun | n => n⟩
theorem Try.cloneK : Go.Proofs.SlLaysW.n5 Try.prog Try.cloneK_ren := {
  mixed := by kernel_rfl
  f5 := ⟨Try.f44.name, by decide, Try.func44.trans (congrArg some (by kernel_rfl))⟩
  f7 := Try.func92.trans (congrArg some (by kernel_rfl))
  t4 := Try.underlying4
  a4 := Try.isAgg4
  z4 := Try.sizeOf4
  v4 := Try.zeroValue4
  t20 := Try.underlying20
  a20 := Try.isAgg20
  z20 := Try.sizeOf20
  v20 := Try.zeroValue20
  t23 := Try.underlying74
  a23 := Try.isAgg74
  z23 := Try.sizeOf74
  v23 := Try.zeroValue74 }
def Try.cloneP_ren : Go.Shelf.Ren := ⟨fun | 5 => 45 | 7 => 92 | n => n, fun | 23 => 75 | 25 => 3 | 3 => 35 | 4 => 4 | 20 => 20 | n => n, fun | n => n⟩
theorem Try.cloneP : Go.Proofs.SlLaysW.n5 Try.prog Try.cloneP_ren := {
  mixed := by kernel_rfl
  f5 := ⟨Try.f45.name, by decide, Try.func45.trans (congrArg some (by kernel_rfl))⟩
  f7 := Try.func92.trans (congrArg some (by kernel_rfl))
  t4 := Try.underlying4
  a4 := Try.isAgg4
  z4 := Try.sizeOf4
  v4 := Try.zeroValue4
  t20 := Try.underlying20
  a20 := Try.isAgg20
  z20 := Try.sizeOf20
  v20 := Try.zeroValue20
  t23 := Try.underlying75
  a23 := Try.isAgg75
  z23 := Try.sizeOf75
  v23 := Try.zeroValue75 }
def Try.delK_ren : Go.Shelf.Ren := ⟨fun | 5 => 81 | n => n, fun | 23 => 74 | 26 => 9 | 24 => 81 | 27 => 139 | 0 => 0 | 4 => 4 | n => n, fun | n => n⟩
theorem Try.delK : Go.Proofs.SlLaysDf.n5 Try.prog Try.delK_ren := {
  mixed := by kernel_rfl
  f5 := ⟨Try.f81.name, by decide, Try.func81.trans (congrArg some (by kernel_rfl))⟩
  t0 := Try.underlying0
  a0 := Try.isAgg0
  z0 := Try.sizeOf0
  v0 := Try.zeroValue0
  t4 := Try.underlying4
  a4 := Try.isAgg4
  z4 := Try.sizeOf4
  v4 := Try.zeroValue4
  t23 := Try.underlying74
  a23 := Try.isAgg74
  z23 := Try.sizeOf74
  v23 := Try.zeroValue74
  a24 := Try.isAgg81
  z24 := Try.sizeOf81
  a26 := Try.isAgg9
  z26 := Try.sizeOf9
  t27 := Try.underlying139
  a27 := Try.isAgg139
  z27 := Try.sizeOf139
  v27 := Try.zeroValue139 }
def Try.growV_ren : Go.Shelf.Ren := ⟨fun | 4 => 138 | n => n, fun | 22 => 81 | 25 => 29 | 3 => 3 | 4 => 4 | 9 => 9 | 20 => 20 | 0 => 0 | n => n, fun | n => n⟩
theorem Try.growV : Go.Proofs.Lays8.n4 Try.prog Try.growV_ren := {
  mixed := by kernel_rfl
  f4 := ⟨Try.f138.name, by decide, Try.func138.trans (congrArg some (by kernel_rfl))⟩
  t0 := Try.underlying0
  a0 := Try.isAgg0
  z0 := Try.sizeOf0
  v0 := Try.zeroValue0
  t3 := Try.underlying3
  a3 := Try.isAgg3
  z3 := Try.sizeOf3
  v3 := Try.zeroValue3
  t4 := Try.underlying4
  a4 := Try.isAgg4
  z4 := Try.sizeOf4
  v4 := Try.zeroValue4
  t9 := Try.underlying9
  a9 := Try.isAgg9
  z9 := Try.sizeOf9
  v9 := Try.zeroValue9
  t20 := Try.underlying20
  a20 := Try.isAgg20
  z20 := Try.sizeOf20
  v20 := Try.zeroValue20
  t22 := Try.underlying81
  a22 := Try.isAgg81
  z22 := Try.sizeOf81
  v22 := Try.zeroValue81 }
end Go.Proofs
