/- Texts of this proof, one behind the other (merged by a program of this session). -/
import Derived.Shelf.SlGeneric
import Derived.Sort.KeysCollected
import Derived.Sort.Walk0
import Derived.Shelf.SlIter.Nil
import Derived.Shelf.SlIterI.Nil
import Derived.Shelf.SortM.Plain
import Derived.Shelf.SortM.SortNone
import Derived.Ground.GgzProg
import Derived.Ground.SlgmProg
import Derived.Test.YtaldfbmjmpkmmaaProg
import Derived.Test.YtaldfbmjmpkmmaaMbf983a
namespace Go.Proofs
open Go.Shelf
def Try.keysP_ren : Go.Shelf.Ren := ⟨fun | 7 => 66 | 10 => 107 | n => n, fun | 23 => 75 | 26 => 3 | 3 => 35 | 28 => 119 | 0 => 0 | 27 => 118 | 33 => 110 | 4 => 4 | n => n, fun | n => n⟩

def Try.sortedI_ren : Go.Shelf.Ren := ⟨fun | 6 => 65 | 8 => 105 | 9 => 106 | 11 => 135 | 13 => 137 | 12 => 136 | 23 => 151 | 24 => 152 | 14 => 142 | 15 => 143 | 16 => 144 | 17 => 145 | 18 => 146 | 19 => 147 | 20 => 148 | 21 => 149 | 22 => 150 | 25 => 162 | 26 => 163 | 27 => 164 | 28 => 165 | 29 => 166 | 30 => 167 | 31 => 172 | n => n, fun | 26 => 3 | 28 => 119 | 24 => 59 | 0 => 0 | 3 => 3 | 37 => 179 | 48 => 192 | 50 => 194 | 4 => 4 | 40 => 185 | 39 => 184 | 45 => 168 | 5 => 5 | 9 => 9 | 51 => 201 | 55 => 205 | 57 => 209 | 58 => 72 | 33 => 110 | n => n, fun | n => n⟩

def Try.sortI_ren : Go.Shelf.Ren := ⟨fun | 5 => 106 | 8 => 137 | 7 => 136 | 19 => 151 | 20 => 152 | 10 => 142 | 11 => 143 | 12 => 144 | 13 => 145 | 14 => 146 | 15 => 147 | 16 => 148 | 17 => 149 | 18 => 150 | 30 => 162 | 31 => 163 | 32 => 164 | 33 => 165 | 34 => 166 | 35 => 167 | 40 => 172 | n => n, fun | 23 => 59 | 25 => 3 | 3 => 3 | 32 => 179 | 22 => 59 | 0 => 0 | 44 => 192 | 46 => 194 | 4 => 4 | 36 => 185 | 35 => 184 | 41 => 168 | 5 => 5 | 9 => 9 | 53 => 201 | 57 => 205 | 63 => 209 | 64 => 72 | n => n, fun | n => n⟩
end Go.Proofs
namespace Go.Proofs
open Go.RowKit Go.Maps Go.Sort Go.Shelf


end Go.Proofs
namespace Go.Proofs.Ytaldfbmjmpkmmaa.PL
open Go.RowKit Go.Proofs.YtaldfbmjmpkmmaaW.PrintWords Go.Proofs.YtaldfbmjmpkmmaaW.PrintLast Go.Proofs.YtaldfbmjmpkmmaaW.PrintMore Go.Sort Go.Shelf Go.Maps Go.WideMaps Go.Proofs.Ytaldfbmjmpkmmaa.Mk
set_option linter.unusedVariables false
set_option linter.unusedSimpArgs false
set_option linter.unusedSectionVars false




def openV (s : Sh) : List Int := s.P.map (·.f1)

def prepOf (s : Sh) (t : Int) : Option Rec := s.P.find? (fun r => decide (r.f1 = t))
def zRec : Rec := ⟨0, 0, 0, 0, ⟨#[]⟩, ⟨#[]⟩, false, [], []⟩

end Go.Proofs.Ytaldfbmjmpkmmaa.PL
