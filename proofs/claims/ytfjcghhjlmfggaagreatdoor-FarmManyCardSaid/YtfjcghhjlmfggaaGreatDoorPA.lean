/- FarmMany: lemmas. -/
import Derived.Test.YtfjcghhjlmfggaaGreatDoorProg
import Derived.Test.YtfjcghhjlmfggaaGreatDoorSxA
namespace Go.Proofs.YtfjcghhjlmfggaaGreatDoor
abbrev Cq:=Calls Tryz.prog
theorem sM:Tryz.prog.underlying 3=some (TypeDesc.int IntKind.i64):=Tryz.underlying3
theorem E6:Tryz.prog.underlying 4=some TypeDesc.bool:=Tryz.underlying4
theorem nS:Tryz.prog.underlying 9=some TypeDesc.string:=Tryz.underlying9
theorem rC:Tryz.prog.underlying 22=some (TypeDesc.slice 29):=Tryz.underlying22
theorem E5:Tryz.prog.underlying 23=some (TypeDesc.slice 25):=Tryz.underlying23
theorem nz:Tryz.prog.underlying 25=some (TypeDesc.slice 3):=Tryz.underlying25
theorem zU:Tryz.prog.underlying 30=some (TypeDesc.slice 42):=Tryz.underlying30
theorem mY:Tryz.prog.underlying 32=some (TypeDesc.interface #[("Error",192)]):=Tryz.underlying32
theorem pd:Tryz.prog.underlying 36=some (TypeDesc.int IntKind.i64):=Tryz.underlying36
theorem sN:Tryz.prog.underlying 38=some (TypeDesc.slice 66):=Tryz.underlying38
theorem Cj:Tryz.prog.underlying 56=some (TypeDesc.int IntKind.u64):=Tryz.underlying56
theorem Du:Tryz.prog.underlying 69=some (TypeDesc.pointer 135):=Tryz.underlying69
theorem pY:Tryz.prog.underlying 85=some (TypeDesc.slice 162):=Tryz.underlying85
theorem y9:Tryz.prog.underlying 105=some (TypeDesc.slice 9):=Tryz.underlying105
theorem xG:Tryz.prog.underlying 127=some (TypeDesc.slice 246):=Tryz.underlying127
theorem Ci:Tryz.prog.underlying 128=some (TypeDesc.slice 218):=Tryz.underlying128
theorem rf:Tryz.prog.underlying 130=some (TypeDesc.slice 155):=Tryz.underlying130
theorem se:Tryz.prog.underlying 142=some (TypeDesc.slice 190):=Tryz.underlying142
theorem Dt:Tryz.prog.underlying 154=some (TypeDesc.map 3 3):=Tryz.underlying154
theorem oZ:Tryz.prog.underlying 155=some (TypeDesc.slice 4):=Tryz.underlying155
theorem AQ:Tryz.prog.underlying 202=some (TypeDesc.slice 73):=Tryz.underlying202
theorem GG:Tryz.prog.underlying 232=some (TypeDesc.map 9 52):=Tryz.underlying232
theorem zT:Tryz.prog.underlying 271=some (TypeDesc.slice 5):=Tryz.underlying271
end Go.Proofs.YtfjcghhjlmfggaaGreatDoor
