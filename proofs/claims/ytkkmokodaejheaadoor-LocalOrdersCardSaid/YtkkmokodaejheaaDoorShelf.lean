/- Texts of the proof, merged: Shelf. -/
import Derived.Test.YtkkmokodaejheaaDoorProg
import Derived.Ground.Names2Prog
import Derived.Shelf.Slices.SearchI
import Derived.Shelf.Slices.Delete
import Derived.Shelf.Slices.Empties
import Derived.Shelf.Slices.Cells
import Derived.Shelf.Spec.SlicesInsert
import Derived.Shelf.Spec.SlicesInsertGrow
set_option linter.unusedVariables false
set_option linter.unusedSimpArgs false
set_option linter.unusedSectionVars false
set_option linter.unusedVariables false
set_option linter.unusedSimpArgs false
set_option linter.unusedSectionVars false
set_option linter.unusedVariables false
set_option linter.unusedSimpArgs false
set_option linter.unusedSectionVars false
namespace Go.Proofs
open Go.Shelf
def Tryd.lays2_25_ren : Go.Shelf.Ren := ⟨fun | 25 => 61 | 31 => 65 | 32 => 66 | 37 => 70 | n => n, fun | 22 => 24 | 3 => 3 | 4 => 4 | 40 => 45 | 0 => 0 | n => n, fun | n => n⟩
theorem Tryd.lays2_25 : Go.Proofs.Lays2.n25 Tryd.prog Tryd.lays2_25_ren := {
mixed := by kernel_rfl
f25 := Tryd.func61.trans (congrArg some (by kernel_rfl))
f31 := Tryd.func65.trans (congrArg some (by kernel_rfl))
f32 := Tryd.func66.trans (congrArg some (by kernel_rfl))
f37 := Tryd.func70.trans (congrArg some (by kernel_rfl))
t0 := Tryd.underlying0
a0 := Tryd.isAgg0
z0 := Tryd.sizeOf0
v0 := Tryd.zeroValue0
t3 := Tryd.underlying3
a3 := Tryd.isAgg3
z3 := Tryd.sizeOf3
v3 := Tryd.zeroValue3
t4 := Tryd.underlying4
a4 := Tryd.isAgg4
z4 := Tryd.sizeOf4
v4 := Tryd.zeroValue4
t22 := Tryd.underlying24
a22 := Tryd.isAgg24
z22 := Tryd.sizeOf24
v22 := Tryd.zeroValue24
t40 := Tryd.underlying45
a40 := Tryd.isAgg45
z40 := Tryd.sizeOf45
v40 := Tryd.zeroValue45 }
def Tryd.lays2_23_ren : Go.Shelf.Ren := ⟨fun | 23 => 63 | n => n, fun | 22 => 24 | 3 => 3 | 4 => 4 | 0 => 0 | n => n, fun | n => n⟩
theorem Tryd.lays2_23 : Go.Proofs.Lays2.n23 Tryd.prog Tryd.lays2_23_ren := {
mixed := by kernel_rfl
f23 := Tryd.func63.trans (congrArg some (by kernel_rfl))
t0 := Tryd.underlying0
a0 := Tryd.isAgg0
z0 := Tryd.sizeOf0
v0 := Tryd.zeroValue0
t3 := Tryd.underlying3
a3 := Tryd.isAgg3
z3 := Tryd.sizeOf3
v3 := Tryd.zeroValue3
t4 := Tryd.underlying4
a4 := Tryd.isAgg4
z4 := Tryd.sizeOf4
v4 := Tryd.zeroValue4
t22 := Tryd.underlying24
a22 := Tryd.isAgg24
z22 := Tryd.sizeOf24
v22 := Tryd.zeroValue24
i3 := by kernel_rfl }
def Tryd.lays2_21_ren : Go.Shelf.Ren := ⟨fun | 21 => 62 | 27 => 67 | 28 => 68 | 35 => 71 | 39 => 76 | n => n, fun | 22 => 24 | 3 => 3 | 4 => 4 | 0 => 0 | n => n, fun | n => n⟩
theorem Tryd.lays2_21 : Go.Proofs.Lays2.n21 Tryd.prog Tryd.lays2_21_ren := {
mixed := by kernel_rfl
f21 := Tryd.func62.trans (congrArg some (by kernel_rfl))
f27 := Tryd.func67.trans (congrArg some (by kernel_rfl))
f28 := Tryd.func68.trans (congrArg some (by kernel_rfl))
f35 := Tryd.func71.trans (congrArg some (by kernel_rfl))
f39 := Tryd.func76.trans (congrArg some (by kernel_rfl))
t0 := Tryd.underlying0
a0 := Tryd.isAgg0
z0 := Tryd.sizeOf0
v0 := Tryd.zeroValue0
t3 := Tryd.underlying3
a3 := Tryd.isAgg3
z3 := Tryd.sizeOf3
v3 := Tryd.zeroValue3
t4 := Tryd.underlying4
a4 := Tryd.isAgg4
z4 := Tryd.sizeOf4
v4 := Tryd.zeroValue4
t22 := Tryd.underlying24
a22 := Tryd.isAgg24
z22 := Tryd.sizeOf24
v22 := Tryd.zeroValue24
i3 := by kernel_rfl }
end Go.Proofs
