/- Short names. -/
import Derived.Test.YtnckdmogdehnoaaGreatDoorProg
import Derived.Test.YtnckdmogdehnoaaGreatDoorSxA
namespace Go.Proofs.YtnckdmogdehnoaaGreatDoor
abbrev Cq := Calls Tryz.prog
theorem yy3 : Tryz.prog.underlying 3 = some (TypeDesc.int IntKind.i64) := Tryz.underlying3
theorem yy9 : Tryz.prog.underlying 9 = some TypeDesc.string := Tryz.underlying9
theorem yy26 : Tryz.prog.underlying 26 = some (TypeDesc.slice 167) := Tryz.underlying26
theorem yy27 : Tryz.prog.underlying 27 = some (TypeDesc.slice 114) := Tryz.underlying27
theorem yy31 : Tryz.prog.underlying 31 = some (TypeDesc.slice 5) := Tryz.underlying31
theorem yy37 : Tryz.prog.underlying 37 = some (TypeDesc.interface #[("Error", 40)]) := Tryz.underlying37
theorem yy41 : Tryz.prog.underlying 41 = some (TypeDesc.slice 3) := Tryz.underlying41
theorem yy42 : Tryz.prog.underlying 42 = some (TypeDesc.slice 9) := Tryz.underlying42
theorem yy49 : Tryz.prog.underlying 49 = some (TypeDesc.int IntKind.i64) := Tryz.underlying49
theorem yy91 : Tryz.prog.underlying 91 = some (TypeDesc.slice 4) := Tryz.underlying91
theorem yy94 : Tryz.prog.underlying 94 = some (TypeDesc.slice 106) := Tryz.underlying94
theorem yy150 : Tryz.prog.underlying 150 = some (TypeDesc.slice 91) := Tryz.underlying150
theorem yy157 : Tryz.prog.underlying 157 = some (TypeDesc.slice 91) := Tryz.underlying157
theorem yy171 : Tryz.prog.underlying 171 = some (TypeDesc.map 3 3) := Tryz.underlying171
theorem yy217 : Tryz.prog.underlying 217 = some (TypeDesc.map 219 3) := Tryz.underlying217
theorem yy222 : Tryz.prog.underlying 222 = some (TypeDesc.map 9 271) := Tryz.underlying222
theorem yy245 : Tryz.prog.underlying 245 = some (TypeDesc.slice 41) := Tryz.underlying245
end Go.Proofs.YtnckdmogdehnoaaGreatDoor
