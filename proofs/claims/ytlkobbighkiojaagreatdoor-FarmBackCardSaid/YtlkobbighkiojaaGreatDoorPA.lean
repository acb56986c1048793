/- Short names. -/
import Derived.Test.YtlkobbighkiojaaGreatDoorProg
import Derived.Test.YtlkobbighkiojaaGreatDoorSxA
namespace Go.Proofs.YtlkobbighkiojaaGreatDoor
abbrev Cq := Calls Tryz.prog
theorem yy3 : Tryz.prog.underlying 3 = some (TypeDesc.int IntKind.i64) := Tryz.underlying3
theorem yy4 : Tryz.prog.underlying 4 = some TypeDesc.bool := Tryz.underlying4
theorem yy5 : Tryz.prog.underlying 5 = some (TypeDesc.int IntKind.u8) := Tryz.underlying5
theorem yy9 : Tryz.prog.underlying 9 = some TypeDesc.string := Tryz.underlying9
theorem yy26 : Tryz.prog.underlying 26 = some (TypeDesc.slice 3) := Tryz.underlying26
theorem yy28 : Tryz.prog.underlying 28 = some (TypeDesc.slice 70) := Tryz.underlying28
theorem yy34 : Tryz.prog.underlying 34 = some (TypeDesc.interface #[("Error", 138)]) := Tryz.underlying34
theorem yy45 : Tryz.prog.underlying 45 = some (TypeDesc.int IntKind.i64) := Tryz.underlying45
theorem yy46 : Tryz.prog.underlying 46 = some (TypeDesc.pointer 93) := Tryz.underlying46
theorem yy62 : Tryz.prog.underlying 62 = some (TypeDesc.slice 120) := Tryz.underlying62
theorem yy72 : Tryz.prog.underlying 72 = some (TypeDesc.slice 9) := Tryz.underlying72
theorem yy85 : Tryz.prog.underlying 85 = some (TypeDesc.slice 238) := Tryz.underlying85
theorem yy86 : Tryz.prog.underlying 86 = some (TypeDesc.slice 194) := Tryz.underlying86
theorem yy88 : Tryz.prog.underlying 88 = some (TypeDesc.slice 113) := Tryz.underlying88
theorem yy100 : Tryz.prog.underlying 100 = some (TypeDesc.slice 167) := Tryz.underlying100
theorem yy112 : Tryz.prog.underlying 112 = some (TypeDesc.map 3 3) := Tryz.underlying112
theorem yy113 : Tryz.prog.underlying 113 = some (TypeDesc.slice 4) := Tryz.underlying113
theorem yy133 : Tryz.prog.underlying 133 = some (TypeDesc.slice 5) := Tryz.underlying133
theorem yy156 : Tryz.prog.underlying 156 = some (TypeDesc.array 256 5) := Tryz.underlying156
theorem yy177 : Tryz.prog.underlying 177 = some (TypeDesc.slice 50) := Tryz.underlying177
theorem yy185 : Tryz.prog.underlying 185 = some (TypeDesc.int IntKind.u64) := Tryz.underlying185
theorem yy208 : Tryz.prog.underlying 208 = some (TypeDesc.map 9 139) := Tryz.underlying208
theorem yy257 : Tryz.prog.underlying 257 = some (TypeDesc.slice 216) := Tryz.underlying257
theorem yy286 : Tryz.prog.underlying 286 = some (TypeDesc.array 256 133) := Tryz.underlying286
theorem yy346 : Tryz.prog.underlying 346 = some (TypeDesc.pointer 349) := Tryz.underlying346
theorem yy347 : Tryz.prog.underlying 347 = some (TypeDesc.slice 346) := Tryz.underlying347
end Go.Proofs.YtlkobbighkiojaaGreatDoor
