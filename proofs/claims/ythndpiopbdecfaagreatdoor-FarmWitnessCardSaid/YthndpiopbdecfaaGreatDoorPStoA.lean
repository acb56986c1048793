/- Texts of the proof, merged: Shelf, MaxV, SxB, SxD, SxW, StrL, FarE, SxX, GenLaw, GenLaw2, Gen6, TxtLaw, FarF, RecLaw, StoLaw, StoA. -/
import Derived.Test.YthndpiopbdecfaaGreatDoorProg
import Derived.Ground.Names2Prog
import Derived.Ground.NamesProg
import Derived.Shelf.Slices.SearchI
import Derived.Shelf.Slices.Delete
import Derived.Shelf.Slices.Empties
import Derived.Shelf.Slices.Cells
import Derived.Shelf.Spec.SlicesInsert
import Derived.Shelf.Spec.SlicesInsertGrow
import Derived.Shelf.Strconv.AtoiAll
import Derived.Shelf.Strconv.ErrVarAll
import Derived.Shelf.Strconv.Itoa3
import Derived.Shelf.Strings.SplitShaped
import Derived.Shelf.Strings.Shaped
import Derived.Test.YthndpiopbdecfaaGreatDoorSxA
import Derived.Scope
import Derived.Deep.Upon
import Derived.Laws.IdiomStrings
import Derived.Lib.Split
import Derived.Test.YthndpiopbdecfaaGreatDoorPReg
import Derived.Lib.AtoiAll
import Derived.Lib.ItoaNum
import Derived.Lib.Join
import Derived.Lib.FieldsP
import Derived.Lib.IndexBytes
import Derived.Laws.RangeString
namespace Go.Proofs
open Go.Shelf
def Tryz.lays2_25_ren : Go.Shelf.Ren := ⟨fun | 25 => 112 | 31 => 129 | 32 => 130 | 37 => 143 | n => n, fun | 22 => 26 | 3 => 3 | 4 => 4 | 40 => 232 | 0 => 0 | n => n, fun | n => n⟩
theorem Tryz.lays2_25 : Go.Proofs.Lays2.n25 Tryz.prog Tryz.lays2_25_ren := {
 mixed := by kernel_rfl
 f25 := Tryz.func112.trans (congrArg some (by kernel_rfl))
 f31 := Tryz.func129.trans (congrArg some (by kernel_rfl))
 f32 := Tryz.func130.trans (congrArg some (by kernel_rfl))
 f37 := Tryz.func143.trans (congrArg some (by kernel_rfl))
 t0 := Tryz.underlying0
 a0 := Tryz.isAgg0
 z0 := Tryz.sizeOf0
 v0 := Tryz.zeroValue0
 t3 := Tryz.underlying3
 a3 := Tryz.isAgg3
 z3 := Tryz.sizeOf3
 v3 := Tryz.zeroValue3
 t4 := Tryz.underlying4
 a4 := Tryz.isAgg4
 z4 := Tryz.sizeOf4
 v4 := Tryz.zeroValue4
 t22 := Tryz.underlying26
 a22 := Tryz.isAgg26
 z22 := Tryz.sizeOf26
 v22 := Tryz.zeroValue26
 t40 := Tryz.underlying232
 a40 := Tryz.isAgg232
 z40 := Tryz.sizeOf232
 v40 := Tryz.zeroValue232 }
def Tryz.lays2_23_ren : Go.Shelf.Ren := ⟨fun | 23 => 114 | n => n, fun | 22 => 26 | 3 => 3 | 4 => 4 | 0 => 0 | n => n, fun | n => n⟩
theorem Tryz.lays2_23 : Go.Proofs.Lays2.n23 Tryz.prog Tryz.lays2_23_ren := {
 mixed := by kernel_rfl
 f23 := Tryz.func114.trans (congrArg some (by kernel_rfl))
 t0 := Tryz.underlying0
 a0 := Tryz.isAgg0
 z0 := Tryz.sizeOf0
 v0 := Tryz.zeroValue0
 t3 := Tryz.underlying3
 a3 := Tryz.isAgg3
 z3 := Tryz.sizeOf3
 v3 := Tryz.zeroValue3
 t4 := Tryz.underlying4
 a4 := Tryz.isAgg4
 z4 := Tryz.sizeOf4
 v4 := Tryz.zeroValue4
 t22 := Tryz.underlying26
 a22 := Tryz.isAgg26
 z22 := Tryz.sizeOf26
 v22 := Tryz.zeroValue26
 i3 := by kernel_rfl }
def Tryz.lays2_21_ren : Go.Shelf.Ren := ⟨fun | 21 => 113 | 27 => 131 | 28 => 132 | 35 => 144 | 39 => 153 | n => n, fun | 22 => 26 | 3 => 3 | 4 => 4 | 0 => 0 | n => n, fun | n => n⟩
theorem Tryz.lays2_21 : Go.Proofs.Lays2.n21 Tryz.prog Tryz.lays2_21_ren := {
 mixed := by kernel_rfl
 f21 := Tryz.func113.trans (congrArg some (by kernel_rfl))
 f27 := Tryz.func131.trans (congrArg some (by kernel_rfl))
 f28 := Tryz.func132.trans (congrArg some (by kernel_rfl))
 f35 := Tryz.func144.trans (congrArg some (by kernel_rfl))
 f39 := Tryz.func153.trans (congrArg some (by kernel_rfl))
 t0 := Tryz.underlying0
 a0 := Tryz.isAgg0
 z0 := Tryz.sizeOf0
 v0 := Tryz.zeroValue0
 t3 := Tryz.underlying3
 a3 := Tryz.isAgg3
 z3 := Tryz.sizeOf3
 v3 := Tryz.zeroValue3
 t4 := Tryz.underlying4
 a4 := Tryz.isAgg4
 z4 := Tryz.sizeOf4
 v4 := Tryz.zeroValue4
 t22 := Tryz.underlying26
 a22 := Tryz.isAgg26
 z22 := Tryz.sizeOf26
 v22 := Tryz.zeroValue26
 i3 := by kernel_rfl }
def Tryz.laysC172_ren : Go.Shelf.Ren := ⟨fun | 172 => 87 | 244 => 122 | 245 => 123 | 247 => 136 | 279 => 137 | 280 => 138 | 281 => 139 | 282 => 140 | 287 => 145 | 316 => 146 | 171 => 88 | 205 => 147 | 321 => 154 | 322 => 155 | 243 => 124 | 246 => 141 | 283 => 148 | 284 => 149 | 285 => 150 | 286 => 151 | 129 => 157 | 317 => 156 | 318 => 158 | 319 => 159 | 320 => 160 | 337 => 161 | 338 => 162 | n => n, fun | 9 => 9 | 3 => 3 | 75 => 29 | 76 => 141 | 4 => 4 | 5 => 5 | 167 => 255 | 37 => 248 | 0 => 0 | 85 => 256 | 2 => 2 | 168 => 258 | 53 => 158 | 175 => 266 | 46 => 232 | 210 => 270 | 127 => 280 | 145 => 283 | 143 => 281 | 21 => 21 | 171 => 271 | 173 => 274 | 212 => 284 | 51 => 252 | 20 => 20 | 213 => 285 | 232 => 288 | 233 => 289 | 80 => 140 | n => n, fun | 15 => 5 | 16 => 6 | 17 => 7 | 18 => 8 | 19 => 9 | n => n⟩
theorem Tryz.laysC172 : Go.Proofs.LaysC.n172 Tryz.prog Tryz.laysC172_ren := {
 mixed := by kernel_rfl
 f129 := Tryz.func157.trans (congrArg some (by kernel_rfl))
 f171 := Tryz.func88.trans (congrArg some (by kernel_rfl))
 f172 := Tryz.func87.trans (congrArg some (by kernel_rfl))
 f205 := Tryz.func147.trans (congrArg some (by kernel_rfl))
 f243 := Tryz.func124.trans (congrArg some (by kernel_rfl))
 f244 := Tryz.func122.trans (congrArg some (by kernel_rfl))
 f245 := Tryz.func123.trans (congrArg some (by kernel_rfl))
 f246 := Tryz.func141.trans (congrArg some (by kernel_rfl))
 f247 := Tryz.func136.trans (congrArg some (by kernel_rfl))
 f279 := Tryz.func137.trans (congrArg some (by kernel_rfl))
 f280 := Tryz.func138.trans (congrArg some (by kernel_rfl))
 f281 := Tryz.func139.trans (congrArg some (by kernel_rfl))
 f282 := Tryz.func140.trans (congrArg some (by kernel_rfl))
 f283 := Tryz.func148.trans (congrArg some (by kernel_rfl))
 f284 := Tryz.func149.trans (congrArg some (by kernel_rfl))
 f285 := Tryz.func150.trans (congrArg some (by kernel_rfl))
 f286 := Tryz.func151.trans (congrArg some (by kernel_rfl))
 f287 := Tryz.func145.trans (congrArg some (by kernel_rfl))
 f316 := Tryz.func146.trans (congrArg some (by kernel_rfl))
 f317 := Tryz.func156.trans (congrArg some (by kernel_rfl))
 f318 := Tryz.func158.trans (congrArg some (by kernel_rfl))
 f319 := Tryz.func159.trans (congrArg some (by kernel_rfl))
 f320 := Tryz.func160.trans (congrArg some (by kernel_rfl))
 f321 := Tryz.func154.trans (congrArg some (by kernel_rfl))
 f322 := Tryz.func155.trans (congrArg some (by kernel_rfl))
 f337 := Tryz.func161.trans (congrArg some (by kernel_rfl))
 f338 := Tryz.func162.trans (congrArg some (by kernel_rfl))
 t0 := Tryz.underlying0
 a0 := Tryz.isAgg0
 z0 := Tryz.sizeOf0
 v0 := Tryz.zeroValue0
 t2 := Tryz.underlying2
 a2 := Tryz.isAgg2
 z2 := Tryz.sizeOf2
 v2 := Tryz.zeroValue2
 t3 := Tryz.underlying3
 a3 := Tryz.isAgg3
 z3 := Tryz.sizeOf3
 v3 := Tryz.zeroValue3
 t4 := Tryz.underlying4
 a4 := Tryz.isAgg4
 z4 := Tryz.sizeOf4
 v4 := Tryz.zeroValue4
 t5 := Tryz.underlying5
 a5 := Tryz.isAgg5
 z5 := Tryz.sizeOf5
 v5 := Tryz.zeroValue5
 t9 := Tryz.underlying9
 a9 := Tryz.isAgg9
 z9 := Tryz.sizeOf9
 v9 := Tryz.zeroValue9
 t20 := Tryz.underlying20
 a20 := Tryz.isAgg20
 z20 := Tryz.sizeOf20
 v20 := Tryz.zeroValue20
 t21 := Tryz.underlying21
 a21 := Tryz.isAgg21
 z21 := Tryz.sizeOf21
 v21 := Tryz.zeroValue21
 t37 := Tryz.underlying248
 a37 := Tryz.isAgg248
 z37 := Tryz.sizeOf248
 v37 := Tryz.zeroValue248
 t46 := Tryz.underlying232
 a46 := Tryz.isAgg232
 z46 := Tryz.sizeOf232
 v46 := Tryz.zeroValue232
 t51 := Tryz.underlying252
 a51 := Tryz.isAgg252
 z51 := Tryz.sizeOf252
 v51 := Tryz.zeroValue252
 t53 := Tryz.underlying158
 a53 := Tryz.isAgg158
 z53 := Tryz.sizeOf158
 v53 := Tryz.zeroValue158
 t75 := Tryz.underlying29
 a75 := Tryz.isAgg29
 z75 := Tryz.sizeOf29
 v75 := Tryz.zeroValue29
 t76 := Tryz.underlying141
 a76 := Tryz.isAgg141
 z76 := Tryz.sizeOf141
 v76 := Tryz.zeroValue141
 t85 := Tryz.underlying256
 a85 := Tryz.isAgg256
 z85 := Tryz.sizeOf256
 v85 := Tryz.zeroValue256
 t127 := Tryz.underlying280
 a127 := Tryz.isAgg280
 z127 := Tryz.sizeOf280
 v127 := Tryz.zeroValue280
 t143 := Tryz.underlying281
 a143 := Tryz.isAgg281
 z143 := Tryz.sizeOf281
 v143 := Tryz.zeroValue281
 t145 := Tryz.underlying283
 a145 := Tryz.isAgg283
 z145 := Tryz.sizeOf283
 v145 := Tryz.zeroValue283
 t167 := Tryz.underlying255
 a167 := Tryz.isAgg255
 z167 := Tryz.sizeOf255
 v167 := Tryz.zeroValue255
 t168 := Tryz.underlying258
 a168 := Tryz.isAgg258
 z168 := Tryz.sizeOf258
 v168 := Tryz.zeroValue258
 t171 := Tryz.underlying271
 a171 := Tryz.isAgg271
 z171 := Tryz.sizeOf271
 v171 := Tryz.zeroValue271
 t173 := Tryz.underlying274
 a173 := Tryz.isAgg274
 z173 := Tryz.sizeOf274
 v173 := Tryz.zeroValue274
 t175 := Tryz.underlying266
 a175 := Tryz.isAgg266
 z175 := Tryz.sizeOf266
 v175 := Tryz.zeroValue266
 t210 := Tryz.underlying270
 a210 := Tryz.isAgg270
 z210 := Tryz.sizeOf270
 v210 := Tryz.zeroValue270
 t212 := Tryz.underlying284
 a212 := Tryz.isAgg284
 z212 := Tryz.sizeOf284
 v212 := Tryz.zeroValue284
 t213 := Tryz.underlying285
 a213 := Tryz.isAgg285
 z213 := Tryz.sizeOf285
 t232 := Tryz.underlying288
 a232 := Tryz.isAgg288
 z232 := Tryz.sizeOf288
 v232 := Tryz.zeroValue288
 t233 := Tryz.underlying289
 a233 := Tryz.isAgg289
 z233 := Tryz.sizeOf289
 v233 := Tryz.zeroValue289
 g15 := by kernel_rfl
 g16 := by kernel_rfl
 g17 := by kernel_rfl
 g18 := by kernel_rfl
 g19 := by kernel_rfl
 t80 := Tryz.underlying140
 a80 := Tryz.isAgg140
 z80 := Tryz.sizeOf140
 v80 := Tryz.zeroValue140
 i0 := by kernel_rfl
 i2 := by kernel_rfl
 i3 := by kernel_rfl
 i4 := by kernel_rfl
 i5 := by kernel_rfl
 i9 := by kernel_rfl
 i20 := by kernel_rfl
 i21 := by kernel_rfl
 i37 := by kernel_rfl
 i46 := by kernel_rfl
 i51 := by kernel_rfl
 i53 := by kernel_rfl
 i75 := by kernel_rfl
 i76 := by kernel_rfl
 i80 := by kernel_rfl
 i85 := by kernel_rfl
 i127 := by kernel_rfl
 i143 := by kernel_rfl
 i145 := by kernel_rfl
 i167 := by kernel_rfl
 i168 := by kernel_rfl
 i171 := by kernel_rfl
 i173 := by kernel_rfl
 i175 := by kernel_rfl
 i210 := by kernel_rfl
 i212 := by kernel_rfl
 i232 := by kernel_rfl
 i233 := by kernel_rfl
 m15 := by kernel_rfl
 m16 := by kernel_rfl
 m17 := by kernel_rfl
 m18 := by kernel_rfl
 m19 := by kernel_rfl
 c0 := by kernel_rfl
 c2 := by kernel_rfl
 c3 := by kernel_rfl
 c4 := by kernel_rfl
 c5 := by kernel_rfl
 c9 := by kernel_rfl
 c20 := by kernel_rfl
 c21 := by kernel_rfl
 c37 := by kernel_rfl
 c46 := by kernel_rfl
 c51 := by kernel_rfl
 c53 := by kernel_rfl
 c75 := by kernel_rfl
 c76 := by kernel_rfl
 c80 := by kernel_rfl
 c85 := by kernel_rfl
 c127 := by kernel_rfl
 c143 := by kernel_rfl
 c145 := by kernel_rfl
 c167 := by kernel_rfl
 c168 := by kernel_rfl
 c171 := by kernel_rfl
 c173 := by kernel_rfl
 c175 := by kernel_rfl
 c210 := by kernel_rfl
 c212 := by kernel_rfl
 c213 := by kernel_rfl
 c232 := by kernel_rfl
 c233 := by kernel_rfl }
def Tryz.laysM171_ren : Go.Shelf.Ren := ⟨fun | 171 => 88 | 243 => 124 | 246 => 141 | 283 => 148 | 284 => 149 | 285 => 150 | 286 => 151 | 129 => 157 | 317 => 156 | 318 => 158 | 319 => 159 | 320 => 160 | 337 => 161 | 338 => 162 | n => n, fun | 3 => 3 | 9 => 9 | 2 => 2 | 4 => 4 | 171 => 271 | 0 => 0 | 53 => 158 | 37 => 248 | 5 => 5 | 173 => 274 | 212 => 284 | 51 => 252 | 20 => 20 | 213 => 285 | 46 => 232 | 232 => 288 | 233 => 289 | n => n, fun | 17 => 7 | 18 => 8 | 19 => 9 | n => n⟩
theorem Tryz.laysM171 : Go.Proofs.LaysM.n171 Tryz.prog Tryz.laysM171_ren := {
 mixed := by kernel_rfl
 f129 := Tryz.func157.trans (congrArg some (by kernel_rfl))
 f171 := Tryz.func88.trans (congrArg some (by kernel_rfl))
 f243 := Tryz.func124.trans (congrArg some (by kernel_rfl))
 f246 := Tryz.func141.trans (congrArg some (by kernel_rfl))
 f283 := Tryz.func148.trans (congrArg some (by kernel_rfl))
 f284 := Tryz.func149.trans (congrArg some (by kernel_rfl))
 f285 := Tryz.func150.trans (congrArg some (by kernel_rfl))
 f286 := Tryz.func151.trans (congrArg some (by kernel_rfl))
 f317 := Tryz.func156.trans (congrArg some (by kernel_rfl))
 f318 := Tryz.func158.trans (congrArg some (by kernel_rfl))
 f319 := Tryz.func159.trans (congrArg some (by kernel_rfl))
 f320 := Tryz.func160.trans (congrArg some (by kernel_rfl))
 f337 := Tryz.func161.trans (congrArg some (by kernel_rfl))
 f338 := Tryz.func162.trans (congrArg some (by kernel_rfl))
 t0 := Tryz.underlying0
 a0 := Tryz.isAgg0
 z0 := Tryz.sizeOf0
 v0 := Tryz.zeroValue0
 t2 := Tryz.underlying2
 a2 := Tryz.isAgg2
 z2 := Tryz.sizeOf2
 v2 := Tryz.zeroValue2
 t3 := Tryz.underlying3
 a3 := Tryz.isAgg3
 z3 := Tryz.sizeOf3
 v3 := Tryz.zeroValue3
 t4 := Tryz.underlying4
 a4 := Tryz.isAgg4
 z4 := Tryz.sizeOf4
 v4 := Tryz.zeroValue4
 t5 := Tryz.underlying5
 a5 := Tryz.isAgg5
 z5 := Tryz.sizeOf5
 v5 := Tryz.zeroValue5
 t9 := Tryz.underlying9
 a9 := Tryz.isAgg9
 z9 := Tryz.sizeOf9
 v9 := Tryz.zeroValue9
 t20 := Tryz.underlying20
 a20 := Tryz.isAgg20
 z20 := Tryz.sizeOf20
 v20 := Tryz.zeroValue20
 t37 := Tryz.underlying248
 a37 := Tryz.isAgg248
 z37 := Tryz.sizeOf248
 v37 := Tryz.zeroValue248
 t46 := Tryz.underlying232
 a46 := Tryz.isAgg232
 z46 := Tryz.sizeOf232
 v46 := Tryz.zeroValue232
 t51 := Tryz.underlying252
 a51 := Tryz.isAgg252
 z51 := Tryz.sizeOf252
 v51 := Tryz.zeroValue252
 t53 := Tryz.underlying158
 a53 := Tryz.isAgg158
 z53 := Tryz.sizeOf158
 v53 := Tryz.zeroValue158
 t171 := Tryz.underlying271
 a171 := Tryz.isAgg271
 z171 := Tryz.sizeOf271
 v171 := Tryz.zeroValue271
 t173 := Tryz.underlying274
 a173 := Tryz.isAgg274
 z173 := Tryz.sizeOf274
 v173 := Tryz.zeroValue274
 t212 := Tryz.underlying284
 a212 := Tryz.isAgg284
 z212 := Tryz.sizeOf284
 v212 := Tryz.zeroValue284
 t213 := Tryz.underlying285
 a213 := Tryz.isAgg285
 z213 := Tryz.sizeOf285
 t232 := Tryz.underlying288
 a232 := Tryz.isAgg288
 z232 := Tryz.sizeOf288
 v232 := Tryz.zeroValue288
 t233 := Tryz.underlying289
 a233 := Tryz.isAgg289
 z233 := Tryz.sizeOf289
 v233 := Tryz.zeroValue289
 g17 := by kernel_rfl
 g18 := by kernel_rfl
 g19 := by kernel_rfl
 i0 := by kernel_rfl
 i2 := by kernel_rfl
 i3 := by kernel_rfl
 i4 := by kernel_rfl
 i5 := by kernel_rfl
 i9 := by kernel_rfl
 i20 := by kernel_rfl
 i37 := by kernel_rfl
 i46 := by kernel_rfl
 i51 := by kernel_rfl
 i53 := by kernel_rfl
 i171 := by kernel_rfl
 i173 := by kernel_rfl
 i212 := by kernel_rfl
 i232 := by kernel_rfl
 i233 := by kernel_rfl
 m17 := by kernel_rfl
 m18 := by kernel_rfl
 m19 := by kernel_rfl }
def Tryz.laysM146_ren : Go.Shelf.Ren := ⟨fun | 146 => 27 | 221 => 51 | 268 => 83 | 138 => 84 | 143 => 85 | 195 => 115 | 197 => 116 | 218 => 117 | 219 => 86 | 260 => 133 | 217 => 118 | 225 => 119 | 224 => 120 | 267 => 121 | 266 => 134 | 314 => 135 | n => n, fun | 9 => 9 | 31 => 81 | 3 => 3 | 4 => 4 | 0 => 0 | 105 => 229 | 21 => 21 | 5 => 5 | 46 => 232 | 119 => 262 | 139 => 265 | 138 => 264 | 146 => 253 | 51 => 252 | n => n, fun | 1 => 2 | 3 => 3 | 4 => 4 | n => n⟩
theorem Tryz.laysM146 : Go.Proofs.LaysM.n146 Tryz.prog Tryz.laysM146_ren := {
 mixed := by kernel_rfl
 f138 := Tryz.func84.trans (congrArg some (by kernel_rfl))
 f143 := Tryz.func85.trans (congrArg some (by kernel_rfl))
 f146 := Tryz.func27.trans (congrArg some (by kernel_rfl))
 f195 := Tryz.func115.trans (congrArg some (by kernel_rfl))
 f197 := Tryz.func116.trans (congrArg some (by kernel_rfl))
 f217 := Tryz.func118.trans (congrArg some (by kernel_rfl))
 f218 := Tryz.func117.trans (congrArg some (by kernel_rfl))
 f219 := Tryz.func86.trans (congrArg some (by kernel_rfl))
 f221 := Tryz.func51.trans (congrArg some (by kernel_rfl))
 f224 := Tryz.func120.trans (congrArg some (by kernel_rfl))
 f225 := Tryz.func119.trans (congrArg some (by kernel_rfl))
 f260 := Tryz.func133.trans (congrArg some (by kernel_rfl))
 f266 := Tryz.func134.trans (congrArg some (by kernel_rfl))
 f267 := Tryz.func121.trans (congrArg some (by kernel_rfl))
 f268 := Tryz.func83.trans (congrArg some (by kernel_rfl))
 f314 := Tryz.func135.trans (congrArg some (by kernel_rfl))
 t0 := Tryz.underlying0
 a0 := Tryz.isAgg0
 z0 := Tryz.sizeOf0
 v0 := Tryz.zeroValue0
 t3 := Tryz.underlying3
 a3 := Tryz.isAgg3
 z3 := Tryz.sizeOf3
 v3 := Tryz.zeroValue3
 t4 := Tryz.underlying4
 a4 := Tryz.isAgg4
 z4 := Tryz.sizeOf4
 v4 := Tryz.zeroValue4
 t5 := Tryz.underlying5
 a5 := Tryz.isAgg5
 z5 := Tryz.sizeOf5
 v5 := Tryz.zeroValue5
 t9 := Tryz.underlying9
 a9 := Tryz.isAgg9
 z9 := Tryz.sizeOf9
 v9 := Tryz.zeroValue9
 t21 := Tryz.underlying21
 a21 := Tryz.isAgg21
 z21 := Tryz.sizeOf21
 v21 := Tryz.zeroValue21
 t31 := Tryz.underlying81
 a31 := Tryz.isAgg81
 z31 := Tryz.sizeOf81
 v31 := Tryz.zeroValue81
 t46 := Tryz.underlying232
 a46 := Tryz.isAgg232
 z46 := Tryz.sizeOf232
 v46 := Tryz.zeroValue232
 t51 := Tryz.underlying252
 a51 := Tryz.isAgg252
 z51 := Tryz.sizeOf252
 v51 := Tryz.zeroValue252
 t105 := Tryz.underlying229
 a105 := Tryz.isAgg229
 z105 := Tryz.sizeOf229
 v105 := Tryz.zeroValue229
 t119 := Tryz.underlying262
 a119 := Tryz.isAgg262
 z119 := Tryz.sizeOf262
 t138 := Tryz.underlying264
 a138 := Tryz.isAgg264
 z138 := Tryz.sizeOf264
 v138 := Tryz.zeroValue264
 t139 := Tryz.underlying265
 a139 := Tryz.isAgg265
 z139 := Tryz.sizeOf265
 v139 := Tryz.zeroValue265
 t146 := Tryz.underlying253
 a146 := Tryz.isAgg253
 z146 := Tryz.sizeOf253
 v146 := Tryz.zeroValue253
 g1 := by kernel_rfl
 g3 := by kernel_rfl
 g4 := by kernel_rfl
 i0 := by kernel_rfl
 i3 := by kernel_rfl
 i4 := by kernel_rfl
 i5 := by kernel_rfl
 i9 := by kernel_rfl
 i21 := by kernel_rfl
 i31 := by kernel_rfl
 i46 := by kernel_rfl
 i51 := by kernel_rfl
 i105 := by kernel_rfl
 i138 := by kernel_rfl
 i139 := by kernel_rfl
 i146 := by kernel_rfl
 m1 := by kernel_rfl
 s1_3 := fun w h => Go.Proofs.cell_of_shapedOpen_int (zero := #[.int .i64 0]) (t := 3) h (of_decide_eq_true (by kernel_rfl)) (by kernel_rfl) rfl (by kernel_rfl) (by kernel_rfl) Tryz.underlying3
 m3 := by kernel_rfl
 m4 := by kernel_rfl }
def Tryz.laysM145_ren : Go.Shelf.Ren := ⟨fun | 145 => 28 | 220 => 52 | 219 => 86 | 217 => 118 | 225 => 119 | 224 => 120 | 267 => 121 | 266 => 134 | 314 => 135 | n => n, fun | 9 => 9 | 4 => 4 | 59 => 83 | 3 => 3 | 5 => 5 | 46 => 232 | 146 => 253 | 51 => 252 | n => n, fun | 1 => 2 | n => n⟩
theorem Tryz.laysM145 : Go.Proofs.LaysM.n145 Tryz.prog Tryz.laysM145_ren := {
 mixed := by kernel_rfl
 f145 := Tryz.func28.trans (congrArg some (by kernel_rfl))
 f217 := Tryz.func118.trans (congrArg some (by kernel_rfl))
 f219 := Tryz.func86.trans (congrArg some (by kernel_rfl))
 f220 := Tryz.func52.trans (congrArg some (by kernel_rfl))
 f224 := Tryz.func120.trans (congrArg some (by kernel_rfl))
 f225 := Tryz.func119.trans (congrArg some (by kernel_rfl))
 f266 := Tryz.func134.trans (congrArg some (by kernel_rfl))
 f267 := Tryz.func121.trans (congrArg some (by kernel_rfl))
 f314 := Tryz.func135.trans (congrArg some (by kernel_rfl))
 t3 := Tryz.underlying3
 a3 := Tryz.isAgg3
 z3 := Tryz.sizeOf3
 v3 := Tryz.zeroValue3
 t4 := Tryz.underlying4
 a4 := Tryz.isAgg4
 z4 := Tryz.sizeOf4
 v4 := Tryz.zeroValue4
 t5 := Tryz.underlying5
 a5 := Tryz.isAgg5
 z5 := Tryz.sizeOf5
 v5 := Tryz.zeroValue5
 t9 := Tryz.underlying9
 a9 := Tryz.isAgg9
 z9 := Tryz.sizeOf9
 v9 := Tryz.zeroValue9
 t46 := Tryz.underlying232
 a46 := Tryz.isAgg232
 z46 := Tryz.sizeOf232
 v46 := Tryz.zeroValue232
 t51 := Tryz.underlying252
 a51 := Tryz.isAgg252
 z51 := Tryz.sizeOf252
 v51 := Tryz.zeroValue252
 t59 := Tryz.underlying83
 a59 := Tryz.isAgg83
 z59 := Tryz.sizeOf83
 v59 := Tryz.zeroValue83
 t146 := Tryz.underlying253
 a146 := Tryz.isAgg253
 z146 := Tryz.sizeOf253
 v146 := Tryz.zeroValue253
 g1 := by kernel_rfl
 i3 := by kernel_rfl
 i4 := by kernel_rfl
 i5 := by kernel_rfl
 i9 := by kernel_rfl
 i46 := by kernel_rfl
 i51 := by kernel_rfl
 i59 := by kernel_rfl
 i146 := by kernel_rfl
 m1 := by kernel_rfl
 s1_3 := fun w h => Go.Proofs.cell_of_shapedOpen_int (zero := #[.int .i64 0]) (t := 3) h (of_decide_eq_true (by kernel_rfl)) (by kernel_rfl) rfl (by kernel_rfl) (by kernel_rfl) Tryz.underlying3 }
end Go.Proofs
namespace Go.Proofs.YthndpiopbdecfaaGreatDoor
open Go.RowKit
def MaxOk (w : World) : Prop := ∃ m : Int, w.cell? ⟨2, 0, none⟩ = some (.int .i64 m)
theorem MaxOk.of {w : World} (h : w.ShapedOpen Tryz.prog) : MaxOk w := Tryz.laysM146.s1_3 w h
theorem MaxOk.pure {w w' : World} (h : MaxOk w) (hp : Pure w w') : MaxOk w' := by
 obtain ⟨m, h⟩ := h
 exact ⟨m, ((Inv.start (fun _ => False) w).pure hp).oldp h⟩
end Go.Proofs.YthndpiopbdecfaaGreatDoor
/-! Sxq: Sx: maps whose keys are ints: made, read, written, deleted from. Nothing of the program. -/
namespace Go.Proofs.YthndpiopbdecfaaGreatDoor
open Go
set_option linter.unusedVariables false
set_option linter.unusedSimpArgs false
theorem run_getM {P : Program} {w : World} {r c : Nat} {es : Array MapEntry} (h : w.heap[r]? = some (.map es c)) : (getObj r).run P w = .ok (.map es c) w := by simp [getObj, Sem.run, h]
def setB (w : World) (r : Nat) (o : Obj) : World := { w with heap := w.heap.setIfInBounds r o }
theorem run_setM {P : Program} {w : World} {r c : Nat} {es : Array MapEntry} (o : Obj) (h : w.heap[r]? = some (.map es c)) : (setObj r o).run P w = .ok () (setB w r o) := by simp [setObj, Sem.run, h, setB]
/-- The entries, as pairs. -/
def EsIs (es : List MapEntry) (m : List (Int × Value)) : Prop := es.map (fun e => (e.key, e.val)) = m.map (fun p => (Value.int .i64 p.1, p.2))
theorem EsIs.len {es : List MapEntry} {m : List (Int × Value)} (h : EsIs es m) : es.length = m.length := by
 have := congrArg List.length h
 simpa using this
theorem findNow_int {q : IntKind} {a : Int} : ∀ (es : List MapEntry) (m : List (Int × Value)) (i : Nat), EsIs es m →
  ((∀ p ∈ m, p.1 ≠ a) ∧ Instr.findNow (.int q) (.int .i64 a) es i = some none) ∨ ∃ j v, m[j]? = some (a, v) ∧ Instr.findNow (.int q) (.int .i64 a) es i = some (some (i + j, v))
 | [], [], i, _ => .inl ⟨by simp, rfl⟩
 | [], _ :: _, i, h => by simp [EsIs] at h
 | _ :: _, [], i, h => by simp [EsIs] at h
 | e :: es, p :: m, i, h => by
  simp only [EsIs, List.map_cons, List.cons.injEq, Prod.mk.injEq] at h
  obtain ⟨⟨h1, h2⟩, h3⟩ := h
  by_cases hp : p.1 = a
  ·refine .inr ⟨0, p.2, by rw [← hp]; rfl, ?_⟩
   simp [Instr.findNow, h1, Instr.sameNow, hp, h2]
  ·have hne : (a == p.1) = false := by simpa using fun e => hp e.symm
   rcases findNow_int es m (i + 1) h3 with ⟨g1, g2⟩ | ⟨j, v, g1, g2⟩
   ·refine .inl ⟨fun x hx => ?_, ?_⟩
    ·rcases List.mem_cons.1 hx with rfl | hx
     ·exact hp
     ·exact g1 x hx
    ·simp only [Instr.findNow, h1, Instr.sameNow, if_true, hne]
     exact g2
   ·refine .inr ⟨j + 1, v, by simpa using g1, ?_⟩
    simp only [Instr.findNow, h1, Instr.sameNow, if_true, hne]
    rw [g2, show i + 1 + j = i + (j + 1) by omega]
/-- A map of ints: what it holds at each. -/
structure MapIs (w : World) (b : Nat) (g : Int → Option Value) : Prop where
 ex : ∃ (es : Array MapEntry) (clk : Nat) (m : List (Int × Value)), w.heap[b]? = some (.map es clk) ∧ EsIs es.toList m ∧ (m.map (·.1)).Nodup ∧ ∀ a v, (a, v) ∈ m ↔ g a = some v
def MapE (b : Nat) (g : Int → Option Value) : Ent := ⟨fun k => k = b, fun w => MapIs w b g⟩
theorem MapE.ok {w : World} {b : Nat} {g : Int → Option Value} (h : MapIs w b g) : (MapE b g).ok w := by
 refine Ent.mk_ok h (fun k hk => ?_) (fun S w1 w2 hc hS h1 => ?_)
 ·obtain ⟨es, clk, m, h1, _⟩ := h.ex
  have : k = b := hk
  subst this
  rcases Nat.lt_or_ge k w.heap.size with h2 | h2
  ·exact h2
  ·simp [Array.getElem?_eq_none h2] at h1
 ·obtain ⟨es, clk, m, h2, h3⟩ := h1.ex
  have hlt : b < w1.heap.size := by
   rcases Nat.lt_or_ge b w1.heap.size with h4 | h4
   ·exact h4
   ·simp [Array.getElem?_eq_none h4] at h2
  exact ⟨es, clk, m, (hc.block b hlt (hS b rfl)).trans h2, h3⟩
theorem key_inj {m : List (Int × Value)} (hn : (m.map (·.1)).Nodup) {i j : Nat} {a : Int} {u v : Value} (hi : m[i]? = some (a, u)) (hj : m[j]? = some (a, v)) : i = j := by
 have h1 : (m.map (·.1))[i]? = some a := by simp [hi]
 have h2 : (m.map (·.1))[j]? = some a := by simp [hj]
 exact (List.getElem?_inj (List.getElem?_eq_some_iff.1 h1).1 hn).1 (h1.trans h2.symm)
theorem heap_setB {w : World} {b : Nat} {o : Obj} (h : b < w.heap.size) : (setB w b o).heap[b]? = some o := by simp [setB, h]
theorem chg_setB (w : World) (b : Nat) (o : Obj) : Chg (fun k => k = b) w (setB w b o) :=
 ⟨rfl, rfl, rfl, by simp [setB], fun k hk hs => by
  have : b ≠ k := fun e => hs e.symm
  simp [setB, Array.getElem?_setIfInBounds, this]⟩
section
variable {P : Program} {N : Nat} {ops : Array Oper} {Q : XPost} {rest : List Oper} {ρ : Env} {o : Oper} {w0 w w' : World} {S : Nat → Prop} {H : List Ent} {d t kt et b : Nat} {q : IntKind} {g : Int → Option Value} {x y z : Operand} {a : Int} {v zv : Value}
theorem WL_mkMap (hI : Inv S w0 w H) (hw : wantedR ops ρ o = true) (hd : o.dst = some d) (hN : Nat.blt d N = true) (ho : o.op = .makeMap t none)
  (h : ∀ b w', Inv S w0 w' (MapE b (fun _ => none) :: H) → WL P N ops Q rest (upd ρ d (.map (some b))) w') : WL P N ops Q (o :: rest) ρ w :=
 WL_eff hw hd hN (v := .map (some w.heap.size)) (w' := w.alloc (.map #[] 0)) (by simp [execOp, ho, Instr.makeMap])
  (h _ _ (hI.fresh ((Pure.refl w).alloc _) (MapE.ok ⟨#[], 0, [], by show (w.heap.push _)[w.heap.size]? = _; simp, rfl, by simp, by simp⟩) (fun k hk => by have : k = w.heap.size := hk; omega)))
theorem check_int {em : Bool} (hk : P.underlying kt = some (.int q)) : (Instr.checkKey em 10000 kt (.int .i64 a)).run P w = .ok () w := by
 show (Instr.checkKey em (Nat.succ 9999) kt (.int .i64 a)).run P w = .ok () w
 rw [Instr.checkKey]
 simp [run_underlying hk]
/-- m[k] where it is there (ok: with the second result). -/
theorem rLook (ho : o.op = .lookup t x y true) (ht : P.underlying t = some (.map kt et)) (hk : P.underlying kt = some (.int q)) (hz : (P.info? et).bind (·.zero) = some zv) (hx : ev ρ x = .map (some b)) (hy : ev ρ y = .int .i64 a) (hM : MapIs w b g) :
  Runs P ρ o w (.tuple #[(g a).getD zv, .bool (g a).isSome]) := by
 obtain ⟨es, clk, m, h1, h2, h3, h4⟩ := hM.ex
 have hzv : (zeroValue et).run P w = .ok zv w := by
  cases hi : P.info? et with
  | none => simp [hi] at hz
  | some i => simp only [hi, Option.bind_some] at hz; simp [zeroValue, typeInfo, hi, hz]
 have hc := check_int (P := P) (w := w) (a := a) (em := es.isEmpty) hk
 rcases findNow_int (q := q) (a := a) es.toList m 0 h2 with ⟨g1, g2⟩ | ⟨j, u, g1, g2⟩
 ·have hg : g a = none := by
   cases hga : g a with
   | none => rfl
   | some u => exact absurd rfl (g1 _ ((h4 a u).2 hga))
  simp [Runs, execOp, ho, hx, hy, Instr.lookup, run_underlying ht, run_getM h1, hc, Instr.findKey, run_underlying hk, g2, hzv, hg]
 ·have hg : g a = some u := (h4 a u).1 (List.mem_of_getElem? g1)
  simp [Runs, execOp, ho, hx, hy, Instr.lookup, run_underlying ht, run_getM h1, hc, Instr.findKey, run_underlying hk, g2, hg]
theorem run_mapSet (ho : o.op = .mapUpdate t x y z) (ht : P.underlying t = some (.map kt et)) (hk : P.underlying kt = some (.int q)) (hx : ev ρ x = .map (some b)) (hy : ev ρ y = .int .i64 a) (hz : ev ρ z = v) (hM : MapIs w b g) :
  ∃ o', (execOp (ev ρ) o).run P w = .ok .skip (setB w b o') ∧ MapIs (setB w b o') b (fun i => if i = a then some v else g i) := by
 obtain ⟨es, clk, m, h1, h2, h3, h4⟩ := hM.ex
 have hlt : b < w.heap.size := by
  rcases Nat.lt_or_ge b w.heap.size with h5 | h5
  ·exact h5
  ·simp [Array.getElem?_eq_none h5] at h1
 have hc := check_int (P := P) (w := w) (a := a) (em := false) hk
 rcases findNow_int (q := q) (a := a) es.toList m 0 h2 with ⟨g1, g2⟩ | ⟨j, u, g1, g2⟩
 ·refine ⟨.map (es.push { key := .int .i64 a, val := v, born := clk }) (clk + 1), ?_, ?_⟩
  ·simp [execOp, ho, hx, hy, hz, Instr.mapUpdate, run_underlying ht, run_getM h1, hc, Instr.findKey, run_underlying hk, g2, run_setM _ h1]
  ·refine ⟨_, _, m ++ [(a, v)], heap_setB hlt, ?_, ?_, fun i u => ?_⟩
   ·unfold EsIs at h2 ⊢
    simp [h2]
   ·rw [List.map_append, List.nodup_append]
    refine ⟨h3, by simp, fun i hi j hj => ?_⟩
    simp only [List.map_cons, List.map_nil, List.mem_singleton] at hj
    obtain ⟨p, hp, rfl⟩ := List.mem_map.1 hi
    rw [hj]
    exact g1 p hp
   ·rw [List.mem_append, List.mem_singleton]
    by_cases hia : i = a
    ·subst hia
     rw [if_pos rfl]
     constructor
     ·rintro (hh | hh)
      ·exact absurd rfl (g1 _ hh)
      ·injection hh with _ hh; rw [hh]
     ·intro hh; injection hh with hh; exact .inr (by rw [hh])
    ·rw [if_neg hia, ← h4]
     constructor
     ·rintro (hh | hh)
      ·exact hh
      ·injection hh with hh _; exact absurd hh hia
     ·exact .inl
 ·have hjl := (List.getElem?_eq_some_iff.1 g1).1
  have hlen := h2.len
  have hej : ∃ e, es[j]? = some e ∧ e.key = .int .i64 a := by
   have hj' : j < es.toList.length := by omega
   refine ⟨es.toList[j], by simp, ?_⟩
   have := congrArg (fun l => l[j]?) h2
   simp only [List.getElem?_map, g1, List.getElem?_eq_getElem hj', Option.map_some, Option.some.injEq, Prod.mk.injEq] at this
   exact this.1
  obtain ⟨e, he, hek⟩ := hej
  refine ⟨.map (es.modify j fun e => { e with key := .int .i64 a, val := v }) clk, ?_, ?_⟩
  ·have hst : (Instr.keyThatStays (.int .i64 a) (.int .i64 a)).run P w = .ok (.int .i64 a) w := by simp [Instr.keyThatStays, Instr.sameBits]
   simp [execOp, ho, hx, hy, hz, Instr.mapUpdate, run_underlying ht, run_getM h1, hc, Instr.findKey, run_underlying hk, g2, he, hek, hst, run_setM _ h1]
  ·refine ⟨_, _, m.set j (a, v), heap_setB hlt, ?_, ?_, fun i u' => ?_⟩
   ·unfold EsIs at h2 ⊢
    refine List.ext_getElem? fun i => ?_
    have hi := congrArg (fun l => l[i]?) h2
    simp only [List.getElem?_map, Array.getElem?_toList, Array.getElem?_modify, List.getElem?_set] at hi ⊢
    by_cases hij : j = i
    ·subst hij
     simp [he, hjl]
    ·simp only [hij, if_false]
     exact hi
   ·rw [List.map_set]
    have : (m.map (·.1)).set j a = m.map (·.1) := by
     refine List.ext_getElem? fun i => ?_
     rw [List.getElem?_set]
     by_cases hij : j = i
     ·subst hij
      have hmj := (List.getElem?_eq_some_iff.1 g1).2
      simp [hjl, hmj]
     ·simp [hij]
    simpa [this] using h3
   ·have key : (i, u') ∈ m.set j (a, v) ↔ (i = a ∧ u' = v) ∨ (i ≠ a ∧ (i, u') ∈ m) := by
     constructor
     ·intro hm
      obtain ⟨k, hk'⟩ := List.getElem?_of_mem hm
      rw [List.getElem?_set] at hk'
      by_cases hjk : j = k
      ·rw [if_pos hjk, if_pos hjl] at hk'
       injection hk' with hk'
       injection hk' with e1 e2
       exact .inl ⟨e1.symm, e2.symm⟩
      ·rw [if_neg hjk] at hk'
       refine .inr ⟨fun e1 => hjk ?_, List.mem_of_getElem? hk'⟩
       subst e1
       exact key_inj h3 g1 hk'
     ·rintro (⟨rfl, rfl⟩ | ⟨hne, hm⟩)
      ·exact List.mem_of_getElem? (i := j) (by rw [List.getElem?_set, if_pos rfl, if_pos hjl])
      ·obtain ⟨k, hk'⟩ := List.getElem?_of_mem hm
       have hjk : j ≠ k := fun e1 => by subst e1; rw [g1] at hk'; injection hk' with hk'; injection hk' with e1 _; exact hne e1.symm
       exact List.mem_of_getElem? (i := k) (by rw [List.getElem?_set, if_neg hjk]; exact hk')
    rw [key]
    by_cases hia : i = a
    ·rw [if_pos hia]
     simp [hia, eq_comm]
    ·rw [if_neg hia, ← h4]
     simp [hia]
theorem WL_mapSet (i : Nat) (hi : H[i]? = some (MapE b g)) (hI : Inv S w0 w H) (hw : wantedR ops ρ o = true) (hd : o.dst = none) (ho : o.op = .mapUpdate t x y z) (ht : P.underlying t = some (.map kt et)) (hk : P.underlying kt = some (.int q)) (hx : ev ρ x = .map (some b)) (hy : ev ρ y = .int .i64 a) (hz : ev ρ z = v)
  (h : ∀ w', Inv S w0 w' (H.set i (MapE b (fun j => if j = a then some v else g j))) → WL P N ops Q rest ρ w') : WL P N ops Q (o :: rest) ρ w := by
 have hM : MapIs w b g := (hI.ok _ (List.mem_of_getElem? hi)).1
 obtain ⟨o', h1, h2⟩ := run_mapSet (P := P) ho ht hk hx hy hz hM
 exact WL_store hw hd h1 (h _ (hI.upd i hi (chg_setB w b o') (MapE.ok h2) (fun _ hk => .inl hk)))
theorem run_mapDel (ho : o.op = .call { callee := .builtin .delete, args := #[x, y], argTypes := #[t, kt] }) (ht : P.underlying t = some (.map kt et)) (hk : P.underlying kt = some (.int q)) (hx : ev ρ x = .map (some b)) (hy : ev ρ y = .int .i64 a) (hM : MapIs w b g) :
  ∃ o', (execOp (ev ρ) o).run P w = .ok (.value (.tuple #[])) (setB w b o') ∧ MapIs (setB w b o') b (fun i => if i = a then none else g i) := by
 obtain ⟨es, clk, m, h1, h2, h3, h4⟩ := hM.ex
 have hlt : b < w.heap.size := by
  rcases Nat.lt_or_ge b w.heap.size with h5 | h5
  ·exact h5
  ·simp [Array.getElem?_eq_none h5] at h1
 have hc := check_int (P := P) (w := w) (a := a) (em := es.isEmpty) hk
 rcases findNow_int (q := q) (a := a) es.toList m 0 h2 with ⟨g1, g2⟩ | ⟨j, u, g1, g2⟩
 ·refine ⟨.map es clk, ?_, _, _, m, heap_setB hlt, h2, h3, fun i u => ?_⟩
  ·simp [execOp, ho, resolve, invoke, builtin, hx, hy, Builtin.delete_, run_underlying ht, run_getM h1, hc, Instr.findKey, run_underlying hk, g2, run_setM _ h1]
  ·by_cases hia : i = a
   ·rw [if_pos hia]
    constructor
    ·intro hh; exact absurd hia (g1 _ hh)
    ·intro hh; cases hh
   ·rw [if_neg hia]; exact h4 i u
 ·have hjl := (List.getElem?_eq_some_iff.1 g1).1
  have hlen := h2.len
  have hje : j < es.size := by
   have : es.size = m.length := by simpa using hlen
   omega
  refine ⟨.map (es.eraseIdxIfInBounds j) clk, ?_, _, _, m.eraseIdx j, heap_setB hlt, ?_, ?_, fun i u' => ?_⟩
  ·simp [execOp, ho, resolve, invoke, builtin, hx, hy, Builtin.delete_, run_underlying ht, run_getM h1, hc, Instr.findKey, run_underlying hk, g2, run_setM _ h1]
  ·unfold EsIs at h2 ⊢
   have : (es.eraseIdxIfInBounds j).toList = es.toList.eraseIdx j := by simp [Array.eraseIdxIfInBounds, hje]
   rw [this]
   simp only [List.eraseIdx_eq_take_drop_succ, List.map_append, List.map_take, List.map_drop, h2]
  ·exact (List.Sublist.map _ (List.eraseIdx_sublist ..)).nodup h3
  ·rw [List.mem_eraseIdx_iff_getElem?]
   by_cases hia : i = a
   ·rw [if_pos hia]
    constructor
    ·rintro ⟨k, hkj, hk'⟩
     subst hia
     exact absurd (key_inj h3 g1 hk') (fun e1 => hkj e1.symm)
    ·intro hh; cases hh
   ·rw [if_neg hia, ← h4]
    constructor
    ·rintro ⟨k, _, hk'⟩; exact List.mem_of_getElem? hk'
    ·intro hm
     obtain ⟨k, hk'⟩ := List.getElem?_of_mem hm
     exact ⟨k, fun e1 => by subst e1; rw [g1] at hk'; injection hk' with hk'; injection hk' with e1 _; exact hia e1.symm, hk'⟩
theorem WL_mapDel (i : Nat) (hi : H[i]? = some (MapE b g)) (hI : Inv S w0 w H) (hw : wantedR ops ρ o = true) (hd : o.dst = none) (ho : o.op = .call { callee := .builtin .delete, args := #[x, y], argTypes := #[t, kt] }) (ht : P.underlying t = some (.map kt et)) (hk : P.underlying kt = some (.int q)) (hx : ev ρ x = .map (some b)) (hy : ev ρ y = .int .i64 a)
  (h : ∀ w', Inv S w0 w' (H.set i (MapE b (fun j => if j = a then none else g j))) → WL P N ops Q rest ρ w') : WL P N ops Q (o :: rest) ρ w := by
 have hM : MapIs w b g := (hI.ok _ (List.mem_of_getElem? hi)).1
 obtain ⟨o', h1, h2⟩ := run_mapDel (P := P) ho ht hk hx hy hM
 exact WL_eff0 hw hd h1 (h _ (hI.upd i hi (chg_setB w b o') (MapE.ok h2) (fun _ hk => .inl hk)))
end
end Go.Proofs.YthndpiopbdecfaaGreatDoor
/-! Sxr: Sx: arrays of ints as values: an element, ==, a cell. Nothing of the program. -/
namespace Go.Proofs.YthndpiopbdecfaaGreatDoor
open Go
set_option linter.unusedVariables false
set_option linter.unusedSimpArgs false
section
variable {P : Program} {ρ : Env} {o : Oper} {w : World} {x y z : Operand} {v : Value} {t t' : TypeId}
end
end Go.Proofs.YthndpiopbdecfaaGreatDoor
/-! Sxs: Sx: rows of structs: make([]T, n), T of more than one cell; a struct stored at an offset; grids of cells. Nothing of the program. -/
namespace Go.Proofs.YthndpiopbdecfaaGreatDoor
open Go
set_option linter.unusedVariables false
section
variable {P : Program} {N : Nat} {ops : Array Oper} {Q : XPost} {rest : List Oper} {ρ : Env} {o : Oper} {w0 w w' : World} {S : Nat → Prop} {H : List Ent} {d g t tt : Nat} {cs : Array Value} {v : Value}
/-- A struct stored inside a block. -/
theorem WL_stA {x y : Operand} {j n : Nat} {u : Value} {vs cs' : Array Value} (i : Nat) (hi : H[i]? = some (B g t cs)) (hI : Inv S w0 w H) (hw : wantedR ops ρ o = true) (hd : o.dst = none) (ho : o.op = .store tt x y) (hx : ev ρ x = .pointer (some ⟨g, j, none⟩)) (hy : ev ρ y = u) (hu : u.cells = vs)
  (hs : szB P tt n = true) (hn : vs.size = n) (hj : j + n ≤ cs.size) (h1 : vs.toList.all (·.oneCell') = true) (hc : splice cs j vs.toList = cs') (h : ∀ w', Inv S w0 w' (H.set i (B g t cs')) → WL P N ops Q rest ρ w') : WL P N ops Q (o :: rest) ρ w := by
 have hB : Blk w g t cs := (hI.ok _ (List.mem_of_getElem? hi)).1
 subst hc
 refine WL_store hw hd (run_store ho hx hy hu hs hn hB hj h1) (h _ ?_)
 exact hI.upd i hi (Chg.setCells (S := (B g t cs).D) (b := g) (.inl rfl) _ _ (Chg.refl (B g t cs).D w)) (B.ok (hB.setCells _ _)) (fun _ hk => .inl hk)
end
/-! ### Grids: n rows of m cells -/
end Go.Proofs.YthndpiopbdecfaaGreatDoor
/-! Sxt: Sx: many parts as one (rows of rows); parts brought to the front. Nothing of the program. -/
namespace Go.Proofs.YthndpiopbdecfaaGreatDoor
open Go
set_option linter.unusedVariables false
def Ent.nil : Ent := ⟨fun _ => False, fun _ => True⟩
theorem Ent.nil_ok (w : World) : Ent.nil.ok w := ⟨trivial, fun _ h => h.elim, fun _ _ _ _ _ _ => trivial⟩
def apartN (n : Nat) (es : Nat → Ent) : Prop := ∀ i j, i < n → j < n → i ≠ j → ∀ k, (es i).D k → ¬ (es j).D k
/-- n parts that lie apart. -/
def Many (n : Nat) (es : Nat → Ent) : Ent := ⟨fun k => ∃ i, i < n ∧ (es i).D k, fun w => (∀ i, i < n → (es i).ok w) ∧ apartN n es⟩
theorem Many.ok {w : World} {n : Nat} {es : Nat → Ent} (h : ∀ i, i < n → (es i).ok w) (ha : apartN n es) : (Many n es).ok w :=
 ⟨⟨h, ha⟩, fun k ⟨i, hi, hk⟩ => (h i hi).2.1 k hk, fun S w1 w2 hc hS h1 => ⟨fun i hi => (h1.1 i hi).chg hc (fun k hk => hS k ⟨i, hi, hk⟩), ha⟩⟩
section
variable {S : Nat → Prop} {w0 w : World} {H : List Ent} {e : Ent} {n i : Nat} {es : Nat → Ent}
theorem Inv.many_nil (h : Inv S w0 w H) (es : Nat → Ent) : Inv S w0 w (Many 0 es :: H) :=
 h.fresh (Pure.refl w) (Many.ok (fun i hi => absurd hi (Nat.not_lt_zero i)) (fun i j hi => absurd hi (Nat.not_lt_zero i))) (fun k hk => by obtain ⟨i, hi, _⟩ := hk; exact absurd hi (Nat.not_lt_zero i))
theorem Inv.many_out (h : Inv S w0 w (Many n es :: H)) (hi : i < n) : Inv S w0 w (es i :: Many n (fun j => if j = i then Ent.nil else es j) :: H) := by
 have hm := h.ok (Many n es) (by simp)
 have hp := List.pairwise_cons.1 h.apart
 have hD : ∀ k, (Many n (fun j => if j = i then Ent.nil else es j)).D k → (Many n es).D k ∧ ¬ (es i).D k := by
  rintro k ⟨j, hj, hk⟩
  by_cases hji : j = i
  ·simp only [if_pos hji] at hk; exact hk.elim
  ·simp only [if_neg hji] at hk; exact ⟨⟨j, hj, hk⟩, hm.1.2 j i hj hi hji k hk⟩
 refine ⟨h.chg, fun x hx => ?_, fun x hx k hk => ?_, List.pairwise_cons.2 ⟨fun x hx k hk hxk => ?_, List.pairwise_cons.2 ⟨fun x hx k hk => hp.1 x hx k (hD k hk).1, hp.2⟩⟩⟩
 ·rcases List.mem_cons.1 hx with rfl | hx
  ·exact hm.1.1 i hi
  rcases List.mem_cons.1 hx with rfl | hx
  ·refine Many.ok (fun j hj => ?_) (fun a b ha hb hab k h1 h2 => ?_)
   ·by_cases hji : j = i
    ·simp only [if_pos hji]; exact Ent.nil_ok w
    ·simp only [if_neg hji]; exact hm.1.1 j hj
   ·by_cases hai : a = i
    ·simp only [if_pos hai] at h1; exact h1.elim
    ·by_cases hbi : b = i
     ·simp only [if_pos hbi] at h2; exact h2.elim
     ·simp only [if_neg hai] at h1; simp only [if_neg hbi] at h2; exact hm.1.2 a b ha hb hab k h1 h2
  ·exact h.ok x (by simp [hx])
 ·rcases List.mem_cons.1 hx with rfl | hx
  ·exact h.own (Many n es) (by simp) k ⟨i, hi, hk⟩
  rcases List.mem_cons.1 hx with rfl | hx
  ·exact h.own (Many n es) (by simp) k (hD k hk).1
  ·exact h.own x (by simp [hx]) k hk
 ·rcases List.mem_cons.1 hx with rfl | hx
  ·exact (hD k hxk).2 hk
  ·exact hp.1 x hx k ⟨i, hi, hk⟩ hxk
theorem Inv.many_in (h : Inv S w0 w (e :: Many n es :: H)) (hi : i < n) (hn : es i = Ent.nil) : Inv S w0 w (Many n (fun j => if j = i then e else es j) :: H) := by
 have hm := h.ok (Many n es) (by simp)
 have he := h.ok e (by simp)
 have hp := List.pairwise_cons.1 h.apart
 have hp2 := List.pairwise_cons.1 hp.2
 have hD : ∀ k, (Many n (fun j => if j = i then e else es j)).D k → e.D k ∨ (Many n es).D k := by
  rintro k ⟨j, hj, hk⟩
  by_cases hji : j = i
  ·simp only [if_pos hji] at hk; exact .inl hk
  ·simp only [if_neg hji] at hk; exact .inr ⟨j, hj, hk⟩
 have hap : apartN n (fun j => if j = i then e else es j) := by
  intro a b ha hb hab k h1 h2
  by_cases hai : a = i
  ·by_cases hbi : b = i
   ·exact hab (hai.trans hbi.symm)
   ·simp only [if_pos hai] at h1; simp only [if_neg hbi] at h2
    exact hp.1 (Many n es) (by simp) k h1 ⟨b, hb, h2⟩
  ·by_cases hbi : b = i
   ·simp only [if_neg hai] at h1; simp only [if_pos hbi] at h2
    exact hp.1 (Many n es) (by simp) k h2 ⟨a, ha, h1⟩
   ·simp only [if_neg hai] at h1; simp only [if_neg hbi] at h2; exact hm.1.2 a b ha hb hab k h1 h2
 refine ⟨h.chg, fun x hx => ?_, fun x hx k hk => ?_, List.pairwise_cons.2 ⟨fun x hx k hk => ?_, hp2.2⟩⟩
 ·rcases List.mem_cons.1 hx with rfl | hx
  ·refine Many.ok (fun j hj => ?_) hap
   by_cases hji : j = i
   ·simp only [if_pos hji]; exact he
   ·simp only [if_neg hji]; exact hm.1.1 j hj
  ·exact h.ok x (by simp [hx])
 ·rcases List.mem_cons.1 hx with rfl | hx
  ·rcases hD k hk with hk | hk
   ·exact h.own e (by simp) k hk
   ·exact h.own (Many n es) (by simp) k hk
  ·exact h.own x (by simp [hx]) k hk
 ·rcases hD k hk with hk | hk
  ·exact hp.1 x (by simp [hx]) k hk
  ·exact hp2.1 x hx k hk
theorem Inv.many_more (h : Inv S w0 w (Many n es :: H)) : Inv S w0 w (Many (n + 1) (fun j => if j = n then Ent.nil else es j) :: H) := by
 have hm := h.ok (Many n es) (by simp)
 have hp := List.pairwise_cons.1 h.apart
 have hD : ∀ k, (Many (n + 1) (fun j => if j = n then Ent.nil else es j)).D k → (Many n es).D k := by
  rintro k ⟨j, hj, hk⟩
  by_cases hji : j = n
  ·simp only [if_pos hji] at hk; exact hk.elim
  ·simp only [if_neg hji] at hk; exact ⟨j, by omega, hk⟩
 refine ⟨h.chg, fun x hx => ?_, fun x hx k hk => ?_, List.pairwise_cons.2 ⟨fun x hx k hk => hp.1 x hx k (hD k hk), hp.2⟩⟩
 ·rcases List.mem_cons.1 hx with rfl | hx
  ·refine Many.ok (fun j hj => ?_) (fun a b ha hb hab k h1 h2 => ?_)
   ·by_cases hji : j = n
    ·simp only [if_pos hji]; exact Ent.nil_ok w
    ·simp only [if_neg hji]; exact hm.1.1 j (by omega)
   ·by_cases hai : a = n
    ·simp only [if_pos hai] at h1; exact h1.elim
    ·by_cases hbi : b = n
     ·simp only [if_pos hbi] at h2; exact h2.elim
     ·simp only [if_neg hai] at h1; simp only [if_neg hbi] at h2; exact hm.1.2 a b (by omega) (by omega) hab k h1 h2
  ·exact h.ok x (by simp [hx])
 ·rcases List.mem_cons.1 hx with rfl | hx
  ·exact h.own (Many n es) (by simp) k (hD k hk)
  ·exact h.own x (by simp [hx]) k hk
theorem Inv.many_congr {es' : Nat → Ent} (h : Inv S w0 w (Many n es :: H)) (he : ∀ i, i < n → es i = es' i) : Inv S w0 w (Many n es' :: H) := by
 have hm := h.ok (Many n es) (by simp)
 have hp := List.pairwise_cons.1 h.apart
 have hD : ∀ k, (Many n es').D k → (Many n es).D k := fun k ⟨j, hj, hk⟩ => ⟨j, hj, by rw [he j hj]; exact hk⟩
 refine ⟨h.chg, fun x hx => ?_, fun x hx k hk => ?_, List.pairwise_cons.2 ⟨fun x hx k hk => hp.1 x hx k (hD k hk), hp.2⟩⟩
 ·rcases List.mem_cons.1 hx with rfl | hx
  ·exact Many.ok (fun j hj => by rw [← he j hj]; exact hm.1.1 j hj) (fun a b ha hb hab k h1 h2 => hm.1.2 a b ha hb hab k (by rw [he a ha]; exact h1) (by rw [he b hb]; exact h2))
  ·exact h.ok x (by simp [hx])
 ·rcases List.mem_cons.1 hx with rfl | hx
  ·exact h.own (Many n es) (by simp) k (hD k hk)
  ·exact h.own x (by simp [hx]) k hk
theorem Inv.many_push (h : Inv S w0 w (e :: Many n es :: H)) : Inv S w0 w (Many (n + 1) (fun j => if j = n then e else es j) :: H) := by
 have h1 := (h.sw0.many_more).sw0.many_in (i := n) (by omega) (by simp)
 refine h1.many_congr fun i hi => ?_
 by_cases hin : i = n
 ·simp [hin]
 ·simp [hin]
theorem Inv.many_at (h : Inv S w0 w (Many n es :: H)) (hi : i < n) : (es i).Φ w := ((h.ok (Many n es) (by simp)).1.1 i hi).1
theorem Inv.lit0 {g t : Nat} {news : List Value} (hI : Inv S w0 w (B g t news.toArray :: H)) : ∀ (k : Nat) (u : Value), news[k]? = some u → w.cell? ⟨g, 0 + k, none⟩ = some u := fun k u hk => by
 rw [Nat.zero_add]
 exact hI.cell 0 rfl (by simpa using hk)
/-- Behind a call that made parts of its own. -/
theorem Inv.app {w' : World} {H' : List Ent} (h : Inv S w0 w H) (h' : Inv (fun _ => False) w w' H') : Inv S w0 w' (H' ++ H) := by
 have hp := h.pure h'.pu
 have hge : ∀ e ∈ H', ∀ k, e.D k → w.heap.size ≤ k := fun e he k hk => (h'.own e he k hk).resolve_left (fun h => h)
 refine ⟨hp.chg, fun e he => ?_, fun e he k hk => ?_, List.pairwise_append.2 ⟨h'.apart, h.apart, fun a ha b hb k h1 h2 => ?_⟩⟩
 ·rcases List.mem_append.1 he with he | he
  ·exact h'.ok e he
  ·exact hp.ok e he
 ·rcases List.mem_append.1 he with he | he
  ·exact .inr (Nat.le_trans h.chg.size (hge e he k hk))
  ·exact h.own e he k hk
 ·have e1 := hge a ha k h1
  have e2 := (h.ok b hb).2.1 k h2
  omega
/-- A part is given up. -/
theorem Inv.app1 {w' : World} {a : Ent} (h : Inv S w0 w H) (h' : Inv (fun _ => False) w w' [a]) : Inv S w0 w' (a :: H) := h.app h'
theorem Inv.app2 {w' : World} {a b : Ent} (h : Inv S w0 w H) (h' : Inv (fun _ => False) w w' [a, b]) : Inv S w0 w' (a :: b :: H) := h.app h'
end
end Go.Proofs.YthndpiopbdecfaaGreatDoor
/-! Sxu: Sx: scopes without jumps, labels, min. Nothing of the program. -/
namespace Go.Proofs.YthndpiopbdecfaaGreatDoor
open Go
set_option linter.unusedVariables false
section
variable {P : Program} {N : Nat} {Q : XPost} {ρ : Env} {w : World} {o : Oper} {x y : Operand} {t t' : TypeId}
theorem rMin {a b : Int} (ho : o.op = .call { callee := .builtin .min, args := #[x, y], argTypes := #[t, t'] }) (hx : ev ρ x = .int .i64 a) (hy : ev ρ y = .int .i64 b) : Runs P ρ o w (.int .i64 (min a b)) := by
 have e : min a b = if b < a then b else a := by rw [Int.min_def]; split <;> split <;> omega
 rw [e]
 simp [Runs, execOp, ho, resolve, invoke, builtin, hx, hy, Builtin.min_, Builtin.min2]
theorem rDecN {a b : Nat} (ho : o.op = .binOp .sub t x y t') (hx : ev ρ x = .int .i64 (a : Int)) (hy : ev ρ y = .int .i64 (b : Int)) (hb : b ≤ a) (h : a ≤ 9223372036854775807) : Runs P ρ o w (.int .i64 ((a - b : Nat) : Int)) := by
 have := rSub (P := P) (w := w) ho hx hy (by omega)
 rwa [show (a : Int) - (b : Int) = ((a - b : Nat) : Int) by omega] at this
theorem min_ex {p : Nat → Prop} (h : ∃ n, p n) : ∃ n, p n ∧ ∀ m, m < n → ¬ p m := by
 obtain ⟨n, hn⟩ := h
 induction n using Nat.strongRecOn with
 | ind n ih =>
  by_cases hm : ∃ m, m < n ∧ p m
  ·obtain ⟨m, h1, h2⟩ := hm; exact ih m h1 h2
  ·exact ⟨n, hn, fun m h1 h2 => hm ⟨m, h1, h2⟩⟩
/-- A loop whose measure is told by the invariant. -/
theorem W_loopN {c : Code} (I : Nat → Env → World → Prop) (n0 : Nat) (h0 : I n0 ρ w)
  (h : ∀ n ρ w, I n ρ w → W P N c (thenQ (fun ρ' w' => ∃ m, m < n ∧ I m ρ' w') Q) ρ w) : W P N (.loop c) Q ρ w := by
 classical
 let μ : Env → World → Nat := fun ρ w => if hx : ∃ n, I n ρ w then Classical.choose (min_ex hx) else 0
 have hμ : ∀ ρ w, (∃ n, I n ρ w) → I (μ ρ w) ρ w ∧ ∀ m, I m ρ w → μ ρ w ≤ m := fun ρ w hx => by
  have hs := Classical.choose_spec (min_ex hx)
  have he : μ ρ w = Classical.choose (min_ex hx) := dif_pos hx
  rw [he]
  refine ⟨hs.1, fun m hm => ?_⟩
  rcases Nat.lt_or_ge m (Classical.choose (min_ex hx)) with h1 | h1
  ·exact absurd hm (hs.2 m h1)
  ·exact h1
 refine W_loop (fun ρ w => ∃ n, I n ρ w) μ ⟨n0, h0⟩ fun ρ w hI => ?_
 refine W_mono (h _ ρ w (hμ ρ w hI).1) fun e ρ' w' q => ?_
 cases e <;> first | exact q | (obtain ⟨m, h1, h2⟩ := q; exact ⟨⟨m, h2⟩, Nat.lt_of_le_of_lt ((hμ ρ' w' ⟨m, h2⟩).2 m h2) h1⟩)
end
theorem flatN {α : Type} {s : Nat} {f : α → List Value} (hf : ∀ a, (f a).length = s) : ∀ (xs : List α) (m : Nat) (a : α), xs[m]? = some a → ∀ j, j < s → (xs.flatMap f)[m * s + j]? = (f a)[j]?
 | [], m, a, h, _, _ => by simp at h
 | x :: xs, 0, a, h, j, hj => by
  simp at h; subst h
  rw [List.flatMap_cons, List.getElem?_append_left (by rw [hf]; omega), Nat.zero_mul, Nat.zero_add]
 | x :: xs, m + 1, a, h, j, hj => by
  rw [List.flatMap_cons, List.getElem?_append_right (by rw [hf, Nat.add_mul, Nat.one_mul]; omega), hf, show (m + 1) * s + j - s = m * s + j by rw [Nat.add_mul, Nat.one_mul]; omega]
  exact flatN hf xs m a (by simpa using h) j hj
theorem row_cellS {w : World} {base e n c b o i s : Nat} {xs : List Value} {u : Value} (h : w.ownsRow base e s (.slice (some ⟨b, o, none⟩) n c) n xs) (hi : xs[i]? = some u) (hn : 0 < n) : w.cell? ⟨b, o + i, none⟩ = some u := by
 obtain ⟨b', o', h1, _, _, h2⟩ := (Rd.of_own (D := fun _ => True) h (fun _ _ _ => trivial)).get hi hn
 injection h1 with h1
 injection h1 with h1 h3
 subst h1 h3
 exact h2
theorem row_addrS {w : World} {base e n c s : Nat} {A : Option Addr} {xs : List Value} (h : w.ownsRow base e s (.slice A n c) n xs) (hn : 0 < n) (hs : 0 < s) : ∃ b o, A = some ⟨b, o, none⟩ := by
 have hx : xs.length = n * s := h.1
 have : 0 < n * s := Nat.mul_pos hn hs
 obtain ⟨b', o', h1, _⟩ := (Rd.of_own (D := fun _ => True) h (fun _ _ _ => trivial)).get (List.getElem?_eq_getElem (show 0 < xs.length by omega)) hn
 exact ⟨b', o', h1⟩
end Go.Proofs.YthndpiopbdecfaaGreatDoor
/-! Sxw: Sx: a cell of a growing row stored; rows of structs. Nothing of the program. -/
namespace Go.Proofs.YthndpiopbdecfaaGreatDoor
open Go
set_option linter.unusedVariables false
set_option linter.unusedSimpArgs false
theorem row_openB {w : World} {base e n c s : Nat} {A : Option Addr} {xs : List Value} (h : w.ownsRow base e s (.slice A n c) n xs) (hn : 0 < n) : ∃ g cur, A = some ⟨g, 0, none⟩ ∧ base ≤ g ∧ Blk w g e cur ∧ n ≤ c ∧ c ≤ 9223372036854775807 ∧ cur.size = c * s ∧ cur.toList.take (n * s) = xs := by
 obtain ⟨hl, ⟨hv, hn0⟩ | ⟨g, cap, cur, hv, hg, hb, h1, h2, h3, h4⟩⟩ := h
 ·omega
 ·injection hv with e1 e2 e3
  subst e1 e3
  exact ⟨g, cur, rfl, hg, hb, h1, by simpa [maxLen] using h2, h3, h4⟩
theorem row_closeB {w : World} {base e g n c s : Nat} {cur : Array Value} {xs : List Value} (hg : base ≤ g) (hb : Blk w g e cur) (h1 : n ≤ c) (h2 : c ≤ 9223372036854775807) (h3 : cur.size = c * s) (h4 : cur.toList.take (n * s) = xs) : (Row base e s (some ⟨g, 0, none⟩) n c xs).ok w :=
 Row.ok ⟨by rw [← h4, List.length_take, Array.length_toList, h3]; exact Nat.min_eq_left (Nat.mul_le_mul_right s h1), .inr ⟨g, c, cur, rfl, hg, hb, h1, by simpa [maxLen] using h2, h3, h4⟩⟩
section
variable {P : Program} {N : Nat} {ops : Array Oper} {Q : XPost} {rest : List Oper} {ρ : Env} {o : Oper} {w0 w : World} {S : Nat → Prop} {H : List Ent} {d t g : Nat}
theorem WL_stRow {x y : Operand} {base e s n c b b0 j tt : Nat} {xs : List Value} {u : Value} (i : Nat) (hi : H[i]? = some (Row base e s (some ⟨b, b0, none⟩) n c xs)) (hI : Inv S w0 w H) (hw : wantedR ops ρ o = true) (hd : o.dst = none) (ho : o.op = .store tt x y) (hx : ev ρ x = .pointer (some ⟨b, j, none⟩)) (hy : ev ρ y = u) (hu : u.cells = #[u])
  (hs : szB P tt 1 = true) (h1 : u.oneCell' = true) (hj : j < xs.length) (h : ∀ w', Inv S w0 w' (H.set i (Row base e s (some ⟨b, b0, none⟩) n c (xs.set j u))) → WL P N ops Q rest ρ w') : WL P N ops Q (o :: rest) ρ w := by
 have hown : w.ownsRow base e s (.slice (some ⟨b, b0, none⟩) n c) n xs := (hI.ok _ (List.mem_of_getElem? hi)).1
 have hlen : xs.length = n * s := hown.1
 have hn : 0 < n := by
  rcases Nat.eq_zero_or_pos n with h0 | h0
  ·subst h0; omega
  ·exact h0
 obtain ⟨g, cur, hA, hg, hB, hnc, hcm, hsz, htk⟩ := row_openB hown hn
 injection hA with hA
 injection hA with e1 e2
 subst e1 e2
 have hjc : j < cur.size := by
  have : n * s ≤ c * s := Nat.mul_le_mul_right s hnc
  omega
 refine WL_store (w' := w.setCell ⟨b, j, none⟩ u) hw hd (run_store ho hx hy hu hs rfl hB hjc (by simp [h1])) (h _ (hI.upd i hi ((Chg.refl (Row base e s (some ⟨b, 0, none⟩) n c xs).D w).setCell (p := ⟨b, j, none⟩) (.inl rfl) u) (row_closeB hg (hB.set_ j u) hnc hcm (by simp [hsz]) (by rw [Array.toList_setIfInBounds, List.take_set, htk])) (fun k hk => .inl hk)))
end
section
variable {α : Type} {f : α → List Value} {s : Nat}
theorem flat_setG (hf : ∀ a, (f a).length = s) {a a' : α} {j : Nat} {v : Value} (hj : j < s) (ha : f a' = (f a).set j v) : ∀ {l : List α} {k : Nat}, l[k]? = some a → (l.set k a').flatMap f = (l.flatMap f).set (k * s + j) v
 | [], k, h => by simp at h
 | q :: r, 0, h => by
  simp at h; subst h
  rw [List.set_cons_zero, List.flatMap_cons, List.flatMap_cons, ha, Nat.zero_mul, Nat.zero_add, List.set_append_left _ _ (by rw [hf]; exact hj)]
 | q :: r, k + 1, h => by
  have ih := flat_setG hf hj ha (l := r) (k := k) (by simpa using h)
  rw [List.set_cons_succ, List.flatMap_cons, List.flatMap_cons, ih, List.set_append_right _ _ (by rw [hf, Nat.add_mul, Nat.one_mul]; omega)]
  congr 2
  rw [hf, Nat.add_mul, Nat.one_mul]; omega
theorem flat_lenG (hf : ∀ a, (f a).length = s) (l : List α) : (l.flatMap f).length = l.length * s := by
 induction l with
 | nil => simp
 | cons q r ih => rw [List.flatMap_cons, List.length_append, ih, hf, List.length_cons, Nat.add_mul, Nat.one_mul]; omega
end
end Go.Proofs.YthndpiopbdecfaaGreatDoor
namespace Go.Proofs.YthndpiopbdecfaaGreatDoor
open Go
set_option linter.unusedVariables false
set_option linter.unusedSimpArgs false
/-! ### Parts handed over together -/
def DL (l : List Ent) : Nat → Prop := fun k => ∃ e ∈ l, e.D k
section
variable {S : Nat → Prop} {w0 w w' : World} {H H' l : List Ent}
/-- From a world on, some parts alone. -/
theorem Inv.from (h : Inv S w0 w (l ++ H)) : Inv (DL l) w w l :=
 ⟨Chg.refl _ w, fun e he => h.ok e (by simp [he]), fun e he k hk => .inl ⟨e, he, hk⟩, (List.pairwise_append.1 h.apart).1⟩
/-- Behind a call that was handed them. -/
theorem Inv.turnL (h : Inv S w0 w (l ++ H)) (h' : Inv (DL l) w w' H') : Inv S w0 w' (H' ++ H) := by
 obtain ⟨p1, p2, p3⟩ := List.pairwise_append.1 h.apart
 refine ⟨h.chg.trans' h'.chg fun k hk1 hk2 => ?_, fun x hx => ?_, fun x hx k hk => ?_, List.pairwise_append.2 ⟨h'.apart, p2, fun a ha b hb k h1 h2 => ?_⟩⟩
 ·obtain ⟨e, he, hk2⟩ := hk2
  rcases h.own e (by simp [he]) k hk2 with h1 | h1
  ·exact h1
  ·omega
 ·rcases List.mem_append.1 hx with hx | hx
  ·exact h'.ok x hx
  ·exact (h.ok x (by simp [hx])).chg h'.chg (fun k hk hk2 => by obtain ⟨e, he, hk2⟩ := hk2; exact p3 e he x hx k hk2 hk)
 ·rcases List.mem_append.1 hx with hx | hx
  ·rcases h'.own x hx k hk with ⟨e, he, h1⟩ | h1
   ·exact h.own e (by simp [he]) k h1
   ·exact .inr (Nat.le_trans h.chg.size h1)
  ·exact h.own x (by simp [hx]) k hk
 ·rcases h'.own a ha k h1 with ⟨e, he, h3⟩ | h3
  ·exact p3 e he b hb k h3 h2
  ·have := (h.ok b (by simp [hb])).2.1 k h2
   omega
end
end Go.Proofs.YthndpiopbdecfaaGreatDoor
namespace Go.Proofs.YthndpiopbdecfaaGreatDoor
open Go Go.RowKit
set_option linter.unusedVariables false
set_option linter.unusedSectionVars false
def WinΦ (e size : Nat) (A : Option Addr) (n c : Nat) (xs : List Value) (w : World) : Prop :=
 xs.length = n * size ∧ n ≤ c ∧ c ≤ 9223372036854775807 ∧ ((A = none ∧ c = 0) ∨ ∃ (g o : Nat) (cur : Array Value), A = some ⟨g, o, none⟩ ∧ Blk w g e cur ∧ o + c * size ≤ cur.size ∧ ∀ j u, xs[j]? = some u → cur[o + j]? = some u)
def Win (e size : Nat) (A : Option Addr) (n c : Nat) (xs : List Value) : Ent := ⟨fun k => A.map (·.block) = some k, WinΦ e size A n c xs⟩
theorem Win.ok {e size n c : Nat} {A : Option Addr} {xs : List Value} {w : World} (h : WinΦ e size A n c xs w) : (Win e size A n c xs).ok w := by
 refine Ent.mk_ok h (fun k hk => ?_) (fun S w1 w2 hc hS h1 => ?_)
 ·rcases h.2.2.2 with ⟨rfl, _⟩ | ⟨g, o, cur, rfl, hb, _⟩
  ·simp at hk
  ·simp at hk; subst hk; exact Blk.lt hb
 ·refine ⟨h1.1, h1.2.1, h1.2.2.1, ?_⟩
  rcases h1.2.2.2 with h2 | ⟨g, o, cur, rfl, hb, h3⟩
  ·exact .inl h2
  ·exact .inr ⟨g, o, cur, rfl, Blk.chg hb hc (hS g rfl), h3⟩
section
variable {P : Program} {N : Nat} {ops : Array Oper} {Q : XPost} {rest : List Oper} {ρ : Env} {o : Oper} {w0 w : World} {S : Nat → Prop} {H : List Ent} {d t : Nat}
theorem Inv.winOf {base e size n c : Nat} {A : Option Addr} {xs : List Value} (hI : Inv S w0 w (Row base e size A n c xs :: H)) : Inv S w0 w (Win e size A n c xs :: H) := by
 have h1 : w.ownsRow base e size (.slice A n c) n xs := (hI.ok _ (List.mem_cons_self ..)).1
 refine hI.u0 (e' := Win e size A n c xs) (Chg.refl _ _) (Win.ok ?_) (fun k hk => .inl hk)
 rcases h1.2 with ⟨hv, h0⟩ | ⟨g, cap, cur, hv, hb, hh, hnc, hcm, hcs, htake⟩
 ·injection hv with q1 q2 q3
  subst q1 q2 q3
  exact ⟨h1.1, Nat.le_refl _, by omega, .inl ⟨rfl, rfl⟩⟩
 ·injection hv with q1 q2 q3
  subst q1 q3
  refine ⟨h1.1, hnc, hcm, .inr ⟨g, 0, cur, rfl, hh, by omega, fun j u hj => ?_⟩⟩
  rw [← htake] at hj
  have := (List.getElem?_eq_some_iff.1 hj)
  obtain ⟨hl, he⟩ := this
  rw [List.getElem_take] at he
  rw [Nat.zero_add]
  rw [List.length_take] at hl
  rw [Array.getElem?_eq_getElem (by have : j < cur.toList.length := by omega
                                    simpa using this)]
  rw [← he]; simp
theorem Inv.winGet {e n c : Nat} {A : Option Addr} {xs : List Value} {j : Nat} {u : Value} (hI : Inv S w0 w (Win e 1 A n c xs :: H)) (hj : xs[j]? = some u) : ∃ g o, A = some ⟨g, o, none⟩ ∧ w.cell? ⟨g, o + j, none⟩ = some u := by
 obtain ⟨h1, h2, h3, h4⟩ := (hI.ok _ (List.mem_cons_self ..)).1
 have hl := (List.getElem?_eq_some_iff.1 hj).1
 rcases h4 with ⟨_, rfl⟩ | ⟨g, o, cur, rfl, hb, hc, hx⟩
 ·omega
 ·exact ⟨g, o, rfl, by rw [hb.cell]; exact hx j u hj⟩
theorem Inv.winTail {e n c : Nat} {A : Option Addr} {x : Value} {xs : List Value} (hI : Inv S w0 w (Win e 1 A (n + 1) c (x :: xs) :: H)) : Inv S w0 w (Win e 1 (if c = 1 then A else A.map (·.add (1 * 1))) n (c - 1) xs :: H) := by
 obtain ⟨h1, h2, h3, h4⟩ := (hI.ok _ (List.mem_cons_self ..)).1
 rcases h4 with ⟨_, rfl⟩ | ⟨g, o, cur, rfl, hb, hc, hx⟩
 ·omega
 ·refine hI.u0 (Chg.refl _ _) (Win.ok ⟨by simpa using h1, by omega, by omega, .inr ?_⟩) (fun k hk => .inl ?_)
  ·by_cases h : c = 1
   ·rw [if_pos h]
    refine ⟨g, o, cur, rfl, hb, by omega, fun j u hj => ?_⟩
    have := (List.getElem?_eq_some_iff.1 hj).1
    have : xs.length + 1 = (n + 1) * 1 := by simpa using h1
    omega
   ·rw [if_neg h]
    refine ⟨g, o + 1, cur, by simp [Addr.add_lit], hb, by omega, fun j u hj => ?_⟩
    have := hx (j + 1) u (by simpa using hj)
    rw [← this]; congr 1; omega
  ·have hk : ((if c = 1 then some (⟨g, o, none⟩ : Addr) else (some (⟨g, o, none⟩ : Addr)).map (·.add (1 * 1)))).map (·.block) = some k := hk
   show (some (⟨g, o, none⟩ : Addr)).map (·.block) = some k
   rw [← hk]
   split <;> simp [Addr.add_lit]
end
end Go.Proofs.YthndpiopbdecfaaGreatDoor
namespace Go.Proofs.YthndpiopbdecfaaGreatDoor
open Go Go.RowKit
set_option linter.unusedVariables false
/-- A string of these bytes. -/
abbrev strV (l : List UInt8) : Value := .string ⟨l.toArray⟩
theorem str_size (l : List UInt8) : (⟨l.toArray⟩ : ByteArray).size = l.length := by simp [ByteArray.size]
theorem str_list (l : List UInt8) : (⟨l.toArray⟩ : ByteArray).data.toList = l := rfl
theorem str_toList (l : List UInt8) : (⟨l.toArray⟩ : ByteArray).toList = l := by simp
section
variable {P : Program} {ρ : Env} {o : Oper} {w : World} {x y z : Operand} {t t' : TypeId} {k k' : IntKind} {l m : List UInt8}
theorem rStrAt {c : UInt8} {i : Nat} (ho : o.op = .index t x y) (ht : P.underlying t = some .string) (hx : ev ρ x = strV l) (hy : ev ρ y = .int k (i : Int)) (hi : l[i]? = some c) : Runs P ρ o w (.int .u8 (c.toNat : Int)) := by
 have hl := (List.getElem?_eq_some_iff.1 hi).1
 have h := run_index_string (P := P) w t ⟨l.toArray⟩ k (i : Int) ht
 rw [dif_pos ⟨by omega, by rw [str_size]; omega⟩] at h
 have e : (⟨l.toArray⟩ : ByteArray)[(i : Int).toNat]'(by rw [str_size]; omega) = c := by
  show l.toArray[(i : Int).toNat]'_ = c
  have := (List.getElem?_eq_some_iff.1 hi).2
  simpa using this
 rw [e] at h
 simp [Runs, execOp, ho, hx, hy, h]
theorem U9 {N_ : Nat} {ops_ : Array Oper} {Q_ : XPost} {rest_ : List Oper} {d_ : Nat} {c : UInt8} {i : Nat} (h0_ : @Eq _ (wantedR ops_ ρ o, o.dst, Nat.blt d_ N_, o.op) (true, some d_, true, .index t x y)) (ht : P.underlying t = some .string) (h1_ : @Eq _ (ev ρ x, ev ρ y) (strV l, .int k (i : Int))) (K_ : WL P N_ ops_ Q_ rest_ (upd ρ d_ (.int .u8 (c.toNat : Int))) w) (h2_ : l[i]? = some c := by assumption) : WL P N_ ops_ Q_ (o :: rest_) ρ w := WL_val (q1 h0_) (q1 (q2 h0_)) (q1 (q2 (q2 h0_))) (rStrAt (q2 (q2 (q2 h0_))) ht (q1 h1_) (q2 h1_) h2_) K_
theorem str_extract (a b : Nat) : (⟨l.toArray⟩ : ByteArray).extract a b = ⟨((l.drop a).take (b - a)).toArray⟩ := by
 apply ByteArray.ext
 rw [ByteArray.data_extract]
 simp [List.extract_eq_take_drop]
theorem rStrSl {a b : Nat} (ho : o.op = .slice t x (some y) (some z) none) (ht : P.underlying t = some .string) (hx : ev ρ x = strV l) (hy : ev ρ y = .int k (a : Int)) (hz : ev ρ z = .int k' (b : Int)) (hab : a ≤ b) (hb : b ≤ l.length) : Runs P ρ o w (strV ((l.drop a).take (b - a))) := by
 show Runs P ρ o w (Value.string ⟨((l.drop a).take (b - a)).toArray⟩)
 rw [← str_extract]
 have hs : b ≤ (⟨l.toArray⟩ : ByteArray).size := by rw [str_size]; exact hb
 simp [Runs, execOp, ho, hx, hy, hz, Instr.sliceAt, Instr.slice, Instr.sliceBounds, Instr.sliceBound, asIntOf, run_underlying ht, hab, hs]
theorem rStrLen (ho : o.op = .call { callee := .builtin .len, args := #[x], argTypes := #[t] }) (ht : P.underlying t = some .string) (hx : ev ρ x = strV l) : Runs P ρ o w (.int .i64 (l.length : Int)) := by
 have := rLenStr (P := P) (w := w) ho ht hx
 rwa [str_size] at this
theorem Tp {N_ : Nat} {ops_ : Array Oper} {Q_ : XPost} {rest_ : List Oper} {d_ : Nat} (h0_ : @Eq _ (wantedR ops_ ρ o, o.dst, Nat.blt d_ N_, o.op) (true, some d_, true, .call { callee := .builtin .len, args := #[x], argTypes := #[t] })) (ht : P.underlying t = some .string) (h1_ : ev ρ x = strV l) (K_ : WL P N_ ops_ Q_ rest_ (upd ρ d_ (.int .i64 (l.length : Int))) w) : WL P N_ ops_ Q_ (o :: rest_) ρ w := WL_val (q1 h0_) (q1 (q2 h0_)) (q1 (q2 (q2 h0_))) (rStrLen (q2 (q2 (q2 h0_))) ht h1_) K_
theorem rStrEq (ho : o.op = .binOp .eql t x y t') (hx : ev ρ x = strV l) (hy : ev ρ y = strV m) : Runs P ρ o w (.bool (decide (l = m))) := by
 have := rStrEql (P := P) (w := w) ho hx hy
 rw [str_toList, str_toList] at this
 rw [show decide (l = m) = (l == m) from by cases h : decide (l = m) <;> simp_all]
 exact this
theorem rStrEqT (ho : o.op = .binOp .eql t x y t') (hx : ev ρ x = strV l) (hy : ev ρ y = strV m) (h : l = m) : Runs P ρ o w (.bool true) := by
 have := rStrEq (P := P) (w := w) ho hx hy
 rwa [decide_eq_true h] at this
theorem Ui {N_ : Nat} {ops_ : Array Oper} {Q_ : XPost} {rest_ : List Oper} {d_ : Nat} (h0_ : @Eq _ (wantedR ops_ ρ o, o.dst, Nat.blt d_ N_, o.op, ev ρ x, ev ρ y) (true, some d_, true, .binOp .eql t x y t', strV l, strV m)) (K_ : WL P N_ ops_ Q_ rest_ (upd ρ d_ (.bool true)) w) (h1_ : l = m := by decide) : WL P N_ ops_ Q_ (o :: rest_) ρ w := WL_val (q1 h0_) (q1 (q2 h0_)) (q1 (q2 (q2 h0_))) (rStrEqT (q1 (q2 (q2 (q2 h0_)))) (q1 (q2 (q2 (q2 (q2 h0_))))) (q2 (q2 (q2 (q2 (q2 h0_))))) h1_) K_
theorem rStrEqF (ho : o.op = .binOp .eql t x y t') (hx : ev ρ x = strV l) (hy : ev ρ y = strV m) (h : l ≠ m) : Runs P ρ o w (.bool false) := by
 have := rStrEq (P := P) (w := w) ho hx hy
 rwa [decide_eq_false h] at this
theorem Tw {N_ : Nat} {ops_ : Array Oper} {Q_ : XPost} {rest_ : List Oper} {d_ : Nat} (h0_ : @Eq _ (wantedR ops_ ρ o, o.dst, Nat.blt d_ N_, o.op, ev ρ x, ev ρ y) (true, some d_, true, .binOp .eql t x y t', strV l, strV m)) (K_ : WL P N_ ops_ Q_ rest_ (upd ρ d_ (.bool false)) w) (h1_ : l ≠ m := by assumption) : WL P N_ ops_ Q_ (o :: rest_) ρ w := WL_val (q1 h0_) (q1 (q2 h0_)) (q1 (q2 (q2 h0_))) (rStrEqF (q1 (q2 (q2 (q2 h0_)))) (q1 (q2 (q2 (q2 (q2 h0_))))) (q2 (q2 (q2 (q2 (q2 h0_))))) h1_) K_
theorem Uc {N_ : Nat} {ops_ : Array Oper} {Q_ : XPost} {rest_ : List Oper} {d_ : Nat} (h0_ : @Eq _ (wantedR ops_ ρ o, o.dst, Nat.blt d_ N_, o.op, ev ρ x, ev ρ y) (true, some d_, true, .binOp .eql t x y t', strV l, strV m)) (K_ : WL P N_ ops_ Q_ rest_ (upd ρ d_ (.bool false)) w) (h1_ : l ≠ m := by decide) : WL P N_ ops_ Q_ (o :: rest_) ρ w := WL_val (q1 h0_) (q1 (q2 h0_)) (q1 (q2 (q2 h0_))) (rStrEqF (q1 (q2 (q2 (q2 h0_)))) (q1 (q2 (q2 (q2 (q2 h0_))))) (q2 (q2 (q2 (q2 (q2 h0_))))) h1_) K_
theorem rStrNe (ho : o.op = .binOp .neq t x y t') (hx : ev ρ x = strV l) (hy : ev ρ y = strV m) : Runs P ρ o w (.bool (!decide (l = m))) := by
 have e : decide (l = m) = (l == m) := by cases h : decide (l = m) <;> simp_all
 rw [e]
 simp [Runs, execOp, ho, hx, hy, eqGuard, binOp, Op.stringOp]
theorem rStrNeT (ho : o.op = .binOp .neq t x y t') (hx : ev ρ x = strV l) (hy : ev ρ y = strV m) (h : l ≠ m) : Runs P ρ o w (.bool true) := by
 have := rStrNe (P := P) (w := w) ho hx hy
 rwa [decide_eq_false h] at this
theorem rStrNeF (ho : o.op = .binOp .neq t x y t') (hx : ev ρ x = strV l) (hy : ev ρ y = strV m) (h : l = m) : Runs P ρ o w (.bool false) := by
 have := rStrNe (P := P) (w := w) ho hx hy
 rwa [decide_eq_true h] at this
end
end Go.Proofs.YthndpiopbdecfaaGreatDoor
namespace Go.Proofs.YthndpiopbdecfaaGreatDoor
open Go.RowKit
set_option linter.unusedVariables false
set_option linter.unusedSimpArgs false
abbrev byB (l : List UInt8) : ByteArray := ⟨l.toArray⟩
theorem splitS_any (l sep : List UInt8) (ws : List (List UInt8)) (hl : l.length ≤ 100000) (hs1 : 1 ≤ sep.length) (hc : Lib.countB (byB l) (byB sep) + 1 = ws.length) (hsp : Lib.splitB (byB sep) 0 (Lib.countB (byB l) (byB sep)) (byB l) = ws.map byB) (w : World) (hM : MaxOk w) :
  Calls Tryz.prog 27 #[strV l, strV sep] w fun e w' => ∃ g, e = .returned (.slice (some ⟨g, 0, none⟩) ws.length ws.length) ∧ Inv (fun _ => False) w w' [B g 9 (ws.map strV).toArray] := by
 obtain ⟨m, hm⟩ := hM
 have hz : (byB l).size = l.length := str_size _
 have hz2 : (byB sep).size = sep.length := str_size _
 refine (Any.strings_Split { Tryz.laysM146 with } Tryz.laysM146.i9 (byB l) (byB sep) m w (by omega) hm (by omega)).mono ?_
 rintro e w' ⟨rfl, rfl⟩
 rw [hsp, hc, List.map_map]
 exact ⟨_, rfl, (Inv.start (fun _ => False) w).box _ _⟩
theorem cutS_any (l sep a b : List UInt8) (f : Bool) (hl : l.length ≤ 100000) (hc : Lib.cut l sep = (a, b, f)) (w : World) (hM : MaxOk w) :
  Calls Tryz.prog 28 #[strV l, strV sep] w fun e w' => e = .returned (.tuple #[strV a, strV b, .bool f]) ∧ Pure w w' := by
 obtain ⟨m, hm⟩ := hM
 have hz : (byB l).size = l.length := str_size _
 refine (Any.strings_Cut { Tryz.laysM145 with } (byB l) (byB sep) m w (by omega) hm).mono ?_
 rintro e w' ⟨rfl, n, rfl⟩
 rw [str_list, str_list, hc]
 exact ⟨rfl, (Pure.refl w).drewN n⟩
set_option maxHeartbeats 1000000 in
theorem idxS_any (A : Option Addr) (c : Nat) (l : List (List UInt8)) (x : List UInt8) (D : Nat → Prop) (w0 : World) (h : Rd w0 D 1 (.slice A l.length c) l.length (l.map strV)) (hl : l.length ≤ 1000) :
  Calls Tryz.prog 54 #[.slice A l.length c, strV x] w0 fun en w' => ∃ z : Int, en = .returned (.int .i64 z) ∧ (0 ≤ z ↔ x ∈ l) ∧ Pure w0 w' := by
 have hI := Inv.start (fun _ => False) w0
 refine Vm Tryz.f54.ntmps Tryz.func54 rfl ?_
 refine W_seq (W_region (Va rfl (WL_nil (W_seq (W_seq (W_region (Ve rfl (Vs rfl Tryz.underlying81 rfl (V0 rfl (WL_nil (W_block ?_)))))))))))
 refine W_loopN (fun mu ρ w => ∃ k : Nat, mu = l.length - k ∧ k ≤ l.length ∧ (∀ j, j < k → l[j]? ≠ some x) ∧ Has ρ [(8, .int .i64 (k : Int)), (7, .int .i64 (l.length : Int)), (0, .slice A l.length c), (1, strV x)] ∧ Inv (fun _ => False) w0 w []) l.length
  ⟨0, rfl, by omega, fun j hj => by omega, ⟨rfl, rfl, rfl, rfl, trivial⟩, hI⟩ ?_
 clear hI
 rintro mu ρ w ⟨k, rfl, hk, hno, hH, hI⟩
 obtain ⟨σ, rfl⟩ := hH.open
 by_cases hkl : k < l.length
 rotate_left
 ·refine W_seq (W_region (Vn rfl (WL_nil (W_seq (W_cond false rfl ?_)))))
  refine W_exit ?_
  refine W_seq (W_region (Va rfl (WL_nil ?_)))
  refine W_ret ?_
  refine ret1 4 (.inr rfl) rfl ⟨-1, rfl, ⟨fun h => by omega, fun h => ?_⟩, hI.pu⟩
  obtain ⟨j, hj⟩ := List.getElem?_of_mem h
  exact absurd hj (hno j (by have := (List.getElem?_eq_some_iff.1 hj).1; omega))
 have hx : l[k]? = some l[k] := List.getElem?_eq_getElem hkl
 generalize l[k] = y at hx
 obtain ⟨b, o, rfl, _, _, hc⟩ := Rd.get h (k := k) (u := strV y) (by rw [List.getElem?_map, hx]; rfl) (by omega)
 refine W_seq (W_region (Vp rfl (WL_nil (W_seq (W_cond true rfl (W_skip (W_seq (W_block (W_seq (W_region (V0 rfl (Va rfl (WL_nil ?_)))))))))))))
 by_cases hxy : x = y
 ·refine W_seq (W_region (Vq rfl (Ve rfl (V0 rfl (Uf rfl Tryz.underlying81 rfl (V3 (.string _) rfl (hI.oldp hc) ?_))))))
  refine WL_val rfl rfl rfl (by exact rStrEqT rfl rfl rfl (by assumption)) ?_
  refine WL_nil (W_cond true rfl (W_seq (W_region (V0 rfl (Va rfl (WL_nil ?_))))))
  refine W_ret ?_
  exact ret1 4 (.inr rfl) rfl ⟨k, rfl, ⟨fun _ => by rw [hxy]; exact List.mem_of_getElem? hx, fun _ => by omega⟩, hI.pu⟩
 ·refine W_seq (W_region (Vq rfl (Ve rfl (V0 rfl (Uf rfl Tryz.underlying81 rfl (V3 (.string _) rfl (hI.oldp hc) (Tw rfl ?_)))))))
  refine WL_nil (W_cond false rfl (W_skip (W_region (Vu rfl (V0 rfl (WL_nil ?_))))))
  refine ⟨l.length - (k + 1), by omega, k + 1, rfl, by omega, fun j hj => ?_, ⟨rfl, rfl, rfl, rfl, trivial⟩, hI⟩
  by_cases hjk : j < k
  ·exact hno j hjk
  ·obtain rfl : j = k := by omega
   rw [hx]
   exact fun h => hxy (Option.some.inj h).symm
theorem conS_any (A : Option Addr) (c : Nat) (l : List (List UInt8)) (x : List UInt8) (D : Nat → Prop) (w0 : World) (h : Rd w0 D 1 (.slice A l.length c) l.length (l.map strV)) (hl : l.length ≤ 1000) (r : Bool) (hr : r = decide (x ∈ l)) :
  Calls Tryz.prog 30 #[.slice A l.length c, strV x] w0 fun en w' => en = .returned (.bool r) ∧ Pure w0 w' := by
 have hI := Inv.start (fun _ => False) w0
 refine Vm Tryz.f30.ntmps Tryz.func30 rfl ?_
 refine W_seq (W_region (V4 rfl (WL_nil (W_seq (W_region (Ve rfl (Vq rfl (V6 [.slice _ _ _, .string _] rfl Tryz.func54 rfl ?_))))))))
 refine (idxS_any A c l x D _ h hl).mono ?_
 rintro e w1 ⟨z, rfl, hz, hp⟩
 refine ⟨_, rfl, ?_⟩
 replace hI := hI.pure hp
 refine Ub rfl (V4 rfl (WL_nil ?_))
 refine W_ret ?_
 refine ret1 4 (.inr rfl) rfl ⟨?_, hI.pu⟩
 show Ending.returned (.bool (decide (0 ≤ z))) = _
 rw [hr]
 congr 2
 exact decide_eq_decide.2 hz
section
variable {S : Nat → Prop} {w0 w : World} {H : List Ent} {e : Ent}
theorem pull_perm : ∀ (H : List Ent) (i : Nat) (e : Ent), H[i]? = some e → H.Perm (e :: H.eraseIdx i)
 | [], i, e, h => by simp at h
 | a :: H, 0, e, h => by
  simp at h
  subst h
  exact .refl _
 | a :: H, i + 1, e, h => by
  have := pull_perm H i e (by simpa using h)
  rw [List.eraseIdx_cons_succ]
  exact (this.cons a).trans (.swap ..)
theorem Inv.pull (h : Inv S w0 w H) (i : Nat) (hi : H[i]? = some e) : Inv S w0 w (e :: H.eraseIdx i) := h.perm (pull_perm H i e hi)
def insA : Nat → List Ent → Ent → List Ent
 | 0, L, e => e :: L
 | _ + 1, [], e => [e]
 | i + 1, a :: L, e => a :: insA i L e
theorem insA_perm : ∀ (i : Nat) (L : List Ent) (e : Ent), (e :: L).Perm (insA i L e)
 | 0, L, e => .refl _
 | i + 1, [], e => .refl _
 | i + 1, a :: L, e => (List.Perm.swap ..).trans ((insA_perm i L e).cons a)
def insAt (L : List Ent) (i : Nat) (e : Ent) : List Ent := insA i L e
theorem insAt_perm (L : List Ent) (i : Nat) (e : Ent) : (e :: L).Perm (insAt L i e) := insA_perm i L e
theorem Inv.back (h : Inv S w0 w (e :: H)) (i : Nat) : Inv S w0 w (insAt H i e) := h.perm (insAt_perm H i e)
end
section
variable {P : Program} {ρ : Env} {w : World} {o : Oper} {x y : Operand} {t t' el : TypeId} {a : Addr}
theorem rPtrEq (ho : o.op = .binOp .eql t x y t') (ht : P.underlying t = some (.pointer el)) (hx : ev ρ x = .pointer (some a)) (hy : ev ρ y = .pointer none) : Runs P ρ o w (.bool false) := by
 have h := run_equal (P := P) (w := w) (t := t) (x := .pointer (some a)) (y := .pointer none) (r := false) (fun d => by simp [Op.equalIn, run_underlying ht])
 simp [Runs, execOp, ho, hx, hy, eqGuard, binOp, h]
theorem rPtrNe (ho : o.op = .binOp .neq t x y t') (ht : P.underlying t = some (.pointer el)) (hx : ev ρ x = .pointer (some a)) (hy : ev ρ y = .pointer none) : Runs P ρ o w (.bool true) := by
 have h := run_equal (P := P) (w := w) (t := t) (x := .pointer (some a)) (y := .pointer none) (r := false) (fun d => by simp [Op.equalIn, run_underlying ht])
 simp [Runs, execOp, ho, hx, hy, eqGuard, binOp, h]
end
section
variable {S : Nat → Prop} {w0 w w' : World} {H : List Ent}
def Ent.join (a b : Ent) : Ent := ⟨fun k => a.D k ∨ b.D k, fun w => a.Φ w ∧ b.Φ w⟩
theorem Inv.join {a b : Ent} (h : Inv S w0 w (a :: b :: H)) : Inv S w0 w (Ent.join a b :: H) := by
 have ha := h.ok a (by simp)
 have hb := h.ok b (by simp)
 have hp := List.pairwise_cons.1 h.apart
 have hp2 := List.pairwise_cons.1 hp.2
 refine ⟨h.chg, fun e he => ?_, fun e he k hk => ?_, List.pairwise_cons.2 ⟨fun e he k hk => ?_, hp2.2⟩⟩
 ·rcases List.mem_cons.1 he with rfl | he
  ·refine Ent.mk_ok ⟨ha.1, hb.1⟩ (fun k hk => hk.elim (ha.2.1 k) (hb.2.1 k)) (fun T w1 w2 hc hT h1 => ⟨ha.2.2 T w1 w2 hc (fun k hk => hT k (.inl hk)) h1.1, hb.2.2 T w1 w2 hc (fun k hk => hT k (.inr hk)) h1.2⟩)
  ·exact h.ok e (by simp [he])
 ·rcases List.mem_cons.1 he with rfl | he
  ·rcases hk with hk | hk
   ·exact h.own a (by simp) k hk
   ·exact h.own b (by simp) k hk
  ·exact h.own e (by simp [he]) k hk
 ·rcases hk with hk | hk
  ·exact hp.1 e (by simp [he]) k hk
  ·exact hp2.1 e he k hk
end
end Go.Proofs.YthndpiopbdecfaaGreatDoor
namespace Go.Proofs.YthndpiopbdecfaaGreatDoor
open Go
inductive Ge where
 | rd (k : Int)
 | wr (k l t : Int)
 | lim (n : Nat) (g : Ge)
 | mix (gs : List Ge)
 | thn (gs : List Ge)
mutual
def Ge.sz : Ge → Nat
 | .rd _ => 1
 | .wr _ _ _ => 1
 | .lim _ g => 1 + g.sz
 | .mix gs => 1 + szL gs
 | .thn gs => 1 + szL gs
def szL : List Ge → Nat
 | [] => 0
 | g :: gs => 1 + g.sz + szL gs
end
theorem szL_set : ∀ (gs : List Ge) (i : Nat) (g g' : Ge), gs[i]? = some g → szL (gs.set i g') + g.sz = szL gs + g'.sz
 | [], i, g, g', h => by simp at h
 | a :: gs, 0, g, g', h => by
  simp only [List.getElem?_cons_zero, Option.some.injEq] at h
  subst h
  simp only [List.set_cons_zero, szL]
  omega
 | a :: gs, i + 1, g, g', h => by
  simp only [List.getElem?_cons_succ] at h
  have := szL_set gs i g g' h
  simp only [List.set_cons_succ, szL]
  omega
theorem szL_erase : ∀ (gs : List Ge) (i : Nat) (g : Ge), gs[i]? = some g → szL (gs.eraseIdx i) + g.sz + 1 = szL gs
 | [], i, g, h => by simp at h
 | a :: gs, 0, g, h => by
  simp only [List.getElem?_cons_zero, Option.some.injEq] at h
  subst h
  simp only [List.eraseIdx_cons_zero, szL]
  omega
 | a :: gs, i + 1, g, h => by
  simp only [List.getElem?_cons_succ] at h
  have := szL_erase gs i g h
  simp only [List.eraseIdx_cons_succ, szL]
  omega
/-- A call: write, key, value. -/
abbrev Ca := Bool × Int × Int
/-- The tape's number u, modulo n. -/
def belF (nums : List Int) (u : Nat) (n : Int) : Int := IntKind.u64.wrap (nums.getD u 0) % n
inductive Nx (nums : List Int) : Ge → Nat → Option Ca → Ge → Nat → Prop
 | rd {k u} : Nx nums (.rd k) u (some (false, k, 0)) (.rd k) u
 | wr {k l t u} : Nx nums (.wr k l t) u (some (true, k, l + belF nums u (t - l + 1))) (.wr k l t) (u + 1)
 | lim0 {g u} : Nx nums (.lim 0 g) u none (.lim 0 g) u
 | lim {g u r g' u' n} : Nx nums g u r g' u' → Nx nums (.lim (n + 1) g) u r (.lim n g') u'
 | mix0 {u} : Nx nums (.mix []) u none (.mix []) u
 | mixS {gs g g' u u'} {c : Ca} {i : Nat} : gs[i]? = some g → (i : Int) = belF nums u gs.length → Nx nums g (u + 1) (some c) g' u' → Nx nums (.mix gs) u (some c) (.mix (gs.set i g')) u'
 | mixN {gs g g' u u' r g'' u''} {i : Nat} : gs[i]? = some g → (i : Int) = belF nums u gs.length → Nx nums g (u + 1) none g' u' → Nx nums (.mix (gs.eraseIdx i)) u' r g'' u'' → Nx nums (.mix gs) u r g'' u''
 | thn0 {u} : Nx nums (.thn []) u none (.thn []) u
 | thnS {gs g g' u u'} {c : Ca} : Nx nums g u (some c) g' u' → Nx nums (.thn (g :: gs)) u (some c) (.thn (g' :: gs)) u'
 | thnN {gs g g' u u' r g'' u''} : Nx nums g u none g' u' → Nx nums (.thn gs) u' r g'' u'' → Nx nums (.thn (g :: gs)) u r g'' u''
theorem Nx.det {nums : List Int} {g : Ge} {u : Nat} {r : Option Ca} {g1 : Ge} {u1 : Nat} (h : Nx nums g u r g1 u1) : ∀ {r2 g2 u2}, Nx nums g u r2 g2 u2 → r = r2 ∧ g1 = g2 ∧ u1 = u2 := by
 induction h with
 | rd => intro r2 g2 u2 h2; cases h2; exact ⟨rfl, rfl, rfl⟩
 | wr => intro r2 g2 u2 h2; cases h2; exact ⟨rfl, rfl, rfl⟩
 | lim0 => intro r2 g2 u2 h2; cases h2; exact ⟨rfl, rfl, rfl⟩
 | lim _ ih =>
  intro r2 g2 u2 h2
  cases h2 with
  | lim h => obtain ⟨rfl, rfl, rfl⟩ := ih h; exact ⟨rfl, rfl, rfl⟩
 | mix0 =>
  intro r2 g2 u2 h2
  cases h2 with
  | mix0 => exact ⟨rfl, rfl, rfl⟩
  | mixS h => simp at h
  | mixN h => simp at h
 | mixS h1 h2 _ ih =>
  intro r2 g2 u2 h
  cases h with
  | mix0 => simp at h1
  | mixS h1' h2' h' =>
   rw [← h2, Int.ofNat_inj] at h2'
   subst h2'
   rw [h1, Option.some.injEq] at h1'
   subst h1'
   obtain ⟨h3, rfl, rfl⟩ := ih h'
   exact ⟨h3, rfl, rfl⟩
  | mixN h1' h2' h' =>
   rw [← h2, Int.ofNat_inj] at h2'
   subst h2'
   rw [h1, Option.some.injEq] at h1'
   subst h1'
   cases (ih h').1
 | mixN h1 h2 _ _ ih ih2 =>
  intro r2 g2 u2 h
  cases h with
  | mix0 => simp at h1
  | mixS h1' h2' h' =>
   rw [← h2, Int.ofNat_inj] at h2'
   subst h2'
   rw [h1, Option.some.injEq] at h1'
   subst h1'
   cases (ih h').1
  | mixN h1' h2' h' h'' =>
   rw [← h2, Int.ofNat_inj] at h2'
   subst h2'
   rw [h1, Option.some.injEq] at h1'
   subst h1'
   obtain ⟨_, _, rfl⟩ := ih h'
   exact ih2 h''
 | thn0 => intro r2 g2 u2 h2; cases h2; exact ⟨rfl, rfl, rfl⟩
 | thnS _ ih =>
  intro r2 g2 u2 h
  cases h with
  | thnS h => obtain ⟨h3, rfl, rfl⟩ := ih h; exact ⟨h3, rfl, rfl⟩
  | thnN h => cases (ih h).1
 | thnN _ _ ih ih2 =>
  intro r2 g2 u2 h
  cases h with
  | thnS h => cases (ih h).1
  | thnN h h' => obtain ⟨_, _, rfl⟩ := ih h; exact ih2 h'
theorem Nx.sz {nums : List Int} {g : Ge} {u : Nat} {r : Option Ca} {g1 : Ge} {u1 : Nat} (h : Nx nums g u r g1 u1) : u ≤ u1 ∧ u1 ≤ u + g.sz ∧ g1.sz ≤ g.sz := by
 induction h with
 | rd => simp only [Ge.sz]; omega
 | wr => simp only [Ge.sz]; omega
 | lim0 => simp only [Ge.sz]; omega
 | lim _ ih => simp only [Ge.sz]; omega
 | mix0 => simp only [Ge.sz]; omega
 | @mixS gs g g' u u' c i h1 h2 _ ih => have := szL_set gs i g g' h1; have := szL_erase gs i g h1; simp only [Ge.sz]; omega
 | @mixN gs g g' u u' r g'' u'' i h1 h2 _ _ ih ih2 => have := szL_erase gs i g h1; simp only [Ge.sz] at ih2 ⊢; omega
 | thn0 => simp only [Ge.sz]; omega
 | thnS _ ih => simp only [Ge.sz, szL]; omega
 | thnN _ _ ih ih2 => simp only [Ge.sz, szL] at ih2 ⊢; omega
/-- What n calls give at most. -/
inductive Tk (nums : List Int) : Ge → Nat → Nat → List Ca → Ge → Nat → Prop
 | zero {g u} : Tk nums g u 0 [] g u
 | stop {g u g' u' n} : Nx nums g u none g' u' → Tk nums g u (n + 1) [] g' u'
 | step {g u g1 u1 g' u' n cs} {c : Ca} : Nx nums g u (some c) g1 u1 → Tk nums g1 u1 n cs g' u' → Tk nums g u (n + 1) (c :: cs) g' u'
theorem Tk.det {nums : List Int} {g : Ge} {u n : Nat} {cs : List Ca} {g1 : Ge} {u1 : Nat} (h : Tk nums g u n cs g1 u1) : ∀ {cs2 g2 u2}, Tk nums g u n cs2 g2 u2 → cs = cs2 ∧ g1 = g2 ∧ u1 = u2 := by
 induction h with
 | zero => intro cs2 g2 u2 h2; cases h2; exact ⟨rfl, rfl, rfl⟩
 | stop h =>
  intro cs2 g2 u2 h2
  cases h2 with
  | stop h' => obtain ⟨_, rfl, rfl⟩ := h.det h'; exact ⟨rfl, rfl, rfl⟩
  | step h' => cases (h.det h').1
 | step h _ ih =>
  intro cs2 g2 u2 h2
  cases h2 with
  | stop h' => cases (h.det h').1
  | step h' h'' =>
   obtain ⟨hc, rfl, rfl⟩ := h.det h'
   cases hc
   obtain ⟨rfl, rfl, rfl⟩ := ih h''
   exact ⟨rfl, rfl, rfl⟩
theorem Tk.sz {nums : List Int} {g : Ge} {u n : Nat} {cs : List Ca} {g1 : Ge} {u1 : Nat} (h : Tk nums g u n cs g1 u1) : u1 ≤ u + n * g.sz ∧ g1.sz ≤ g.sz ∧ cs.length ≤ n := by
 induction h with
 | zero => exact ⟨by simp, Nat.le_refl _, Nat.le_refl _⟩
 | @stop g u g' u' n h =>
  have := h.sz
  refine ⟨?_, this.2.2, Nat.zero_le _⟩
  rw [Nat.add_mul]
  omega
 | @step g u g1 u1 g' u' n cs c h _ ih =>
  have := h.sz
  have h2 : n * g1.sz ≤ n * g.sz := Nat.mul_le_mul_left _ this.2.2
  refine ⟨?_, Nat.le_trans ih.2.1 this.2.2, by have := ih.2.2; simp only [List.length_cons]; omega⟩
  rw [Nat.add_mul]
  omega
/-- One alone, behind none. -/
theorem Tk.one {nums : List Int} {N : Nat} : ∀ {g : Ge} {u : Nat} {bs az : List Ca} {g1 g2 : Ge} {u1 u2 : Nat}, Tk nums (.thn [g]) u N bs g1 u1 → Tk nums g u N az g2 u2 → bs = az := by
 induction N with
 | zero => intro g u bs az g1 g2 u1 u2 h h'; cases h; cases h'; rfl
 | succ N ih =>
  intro g u bs az g1 g2 u1 u2 h h'
  cases h with
  | stop h =>
   cases h with
   | thnN h _ =>
    cases h' with
    | stop h' => rfl
    | step h' => cases (h.det h').1
  | step h hr =>
   cases h with
   | thnS h =>
    cases h' with
    | stop h' => cases (h.det h').1
    | step h' hr' =>
     obtain ⟨hc, rfl, rfl⟩ := h.det h'
     cases hc
     rw [ih hr hr']
   | thnN h hx => cases hx
/-- In two parts. -/
theorem Tk.two {nums : List Int} {g : Ge} {u a : Nat} {x : List Ca} {g1 : Ge} {u1 : Nat} (h : Tk nums g u a x g1 u1) : ∀ {b y g2 u2}, Tk nums g1 u1 b y g2 u2 → ∃ g3 u3, Tk nums g u (a + b) (if x.length < a then x else x ++ y) g3 u3 := by
 induction h with
 | zero => intro b y g2 u2 h; exact ⟨g2, u2, by simpa using h⟩
 | @stop g u g' u' n h => intro b y g2 u2 _; exact ⟨_, _, by simpa [Nat.add_right_comm] using Tk.stop (n := n + b) h⟩
 | @step g u g1 u1 g' u' n cs c h _ ih =>
  intro b y g2 u2 h2
  obtain ⟨g3, u3, h3⟩ := ih h2
  refine ⟨g3, u3, ?_⟩
  have h4 := Tk.step h h3
  rw [show n + 1 + b = n + b + 1 by omega]
  by_cases hc : cs.length < n
  ·rw [if_pos hc] at h4
   rw [if_pos (by simp; omega)]
   exact h4
  ·rw [if_neg hc] at h4
   rw [if_neg (by simp; omega)]
   exact h4
/-! ### Reading -/
abbrev Tok := List UInt8
def tRead : Tok := [114, 101, 97, 100]
def tWrite : Tok := [119, 114, 105, 116, 101]
def tLimit : Tok := [108, 105, 109, 105, 116]
def tMix : Tok := [109, 105, 120]
def tThen : Tok := [116, 104, 101, 110]
def tOpen : Tok := [40]
def tShut : Tok := [41]
def tComma : Tok := [44]
def gnumF (t : Tok) (least most : Int) : Option Int := match Lib.atoiAll t with
 | .ok n => if Lib.itoa n = t ∧ least ≤ n ∧ n ≤ most then some n else none
 | _ => none
def numT (least most : Int) : List Tok → Option (Int × List Tok)
 | [] => none
 | t :: s => (gnumF t least most).map fun n => (n, s)
def pS (p : List Tok → Option (Ge × List Tok)) : Nat → List Tok → Option (List Ge × List Tok)
 | 0, _ => none
 | n + 1, s => match p s with
  | none => none
  | some (_, []) => none
  | some (g, t :: s') => if t = tShut then some ([g], s') else if t = tComma then (pS p n s').map fun r => (g :: r.1, r.2) else none
def pV (p : List Tok → Option (Ge × List Tok)) : List Tok → Option (List Ge × List Tok)
 | [] => none
 | t :: s => if t = tOpen then pS p s.length s else none
def pW (s : List Tok) : Option (Ge × List Tok) := match numT 0 7 s with
 | none => none
 | some (k, s) => match numT (-1000000) 1000000 s with
  | none => none
  | some (l, s) => match numT l 1000000 s with
   | none => none
   | some (t, s) => some (.wr k l t, s)
def pG : Nat → List Tok → Option (Ge × List Tok)
 | 0, _ => none
 | _ + 1, [] => none
 | k + 1, t :: s =>
  if t = tRead then (numT 0 7 s).map fun r => (.rd r.1, r.2)
  else if t = tWrite then pW s
  else if t = tLimit then match numT 0 1000 s with
   | none => none
   | some (n, s) => (pG k s).map fun r => (.lim n.toNat r.1, r.2)
  else if t = tMix then (pV (pG k) s).map fun r => (.mix r.1, r.2)
  else if t = tThen then (pV (pG k) s).map fun r => (.thn r.1, r.2)
  else none
end Go.Proofs.YthndpiopbdecfaaGreatDoor
namespace Go.Proofs.YthndpiopbdecfaaGreatDoor
open Go
set_option linter.unusedVariables false
def singleB (c : UInt8) : Bool := c == 40 || c == 41 || c == 44
def flushT (cur : Tok) : List Tok := if cur = [] then [] else [cur]
def tg : Tok → List UInt8 → List Tok
 | cur, [] => flushT cur
 | cur, c :: cs => if singleB c then flushT cur ++ [c] :: tg [] cs else if c = 32 then flushT cur ++ tg [] cs else tg (cur ++ [c]) cs
def toks (bs : List UInt8) : List Tok := tg [] bs
theorem flushT_ne (cur : Tok) : ∀ t ∈ flushT cur, t ≠ [] := by
 unfold flushT
 split
 ·simp
 ·intro t ht; rw [List.mem_singleton] at ht; subst ht; assumption
theorem tg_ne : ∀ (bs : List UInt8) (cur : Tok), ∀ t ∈ tg cur bs, t ≠ []
 | [], cur => flushT_ne cur
 | c :: cs, cur => by
  unfold tg
  split
  ·intro t ht
   rcases List.mem_append.1 ht with h | h
   ·exact flushT_ne _ t h
   ·rcases List.mem_cons.1 h with rfl | h
    ·simp; try omega
    ·exact tg_ne cs [] t h
  ·split
   ·intro t ht
    rcases List.mem_append.1 ht with h | h
    ·exact flushT_ne _ t h
    ·exact tg_ne cs [] t h
   ·exact tg_ne cs _
theorem tg_len : ∀ (bs : List UInt8) (cur : Tok), (tg cur bs).length ≤ bs.length + (flushT cur).length
 | [], cur => by simp [tg]
 | c :: cs, cur => by
  have h0 := tg_len cs []
  have h1 := tg_len cs (cur ++ [c])
  have e0 : (flushT []).length = 0 := rfl
  have e1 : (flushT (cur ++ [c])).length = 1 := by simp [flushT]
  have e2 : (flushT cur).length ≤ 1 := by unfold flushT; split <;> simp
  have e3 : (cur ++ [c]).length = cur.length + 1 := by simp
  unfold tg
  split
  ·simp only [List.length_append, List.length_cons]; omega
  ·split
   ·simp only [List.length_append, List.length_cons]; omega
   ·simp only [List.length_cons]
    by_cases hc : cur = []
    ·subst hc
     omega
    ·have : (flushT cur).length = 1 := by simp [flushT, hc]
     omega
theorem toks_len (bs : List UInt8) : (toks bs).length ≤ bs.length := tg_len bs []
theorem flushT_tok {cur t : Tok} (h : t ∈ flushT cur) : t = cur := by
 unfold flushT at h
 split at h
 ·cases h
 ·rwa [List.mem_singleton] at h
theorem tg_tok : ∀ (bs : List UInt8) (cur : Tok), ∀ t ∈ tg cur bs, t.length ≤ cur.length + bs.length
 | [], cur, t, h => by rw [flushT_tok h]; simp
 | c :: cs, cur, t, h => by
  unfold tg at h
  simp only [List.length_cons]
  split at h
  ·rcases List.mem_append.1 h with h | h
   ·rw [flushT_tok h]; omega
   ·rcases List.mem_cons.1 h with rfl | h
    ·simp; try omega
    ·have := tg_tok cs [] t h
     simp only [List.length_nil] at this
     omega
  ·split at h
   ·rcases List.mem_append.1 h with h | h
    ·rw [flushT_tok h]; omega
    ·have := tg_tok cs [] t h
     simp only [List.length_nil] at this
     omega
   ·have := tg_tok cs _ t h
    simp only [List.length_append, List.length_singleton] at this
    omega
theorem toks_tok (bs : List UInt8) : ∀ t ∈ toks bs, t.length ≤ bs.length := fun t h => by have := tg_tok bs [] t h; simpa using this
def headT : List Tok → Tok
 | [] => []
 | t :: _ => t
theorem numT_head (a b : Int) (l : List Tok) : numT a b l = (gnumF (headT l) a b).map fun n => (n, l.tail) := by
 cases l with
 | nil => rfl
 | cons t l => rfl
theorem numF_ok {t : Tok} {a b n : Int} : gnumF t a b = some n ↔ Lib.atoiAll t = .ok n ∧ Lib.itoa n = t ∧ a ≤ n ∧ n ≤ b := by
 unfold gnumF
 constructor
 ·intro h
  split at h
  ·rename_i m hm
   split at h
   ·rename_i hh; cases h; exact ⟨hm, hh⟩
   ·cases h
  ·cases h
 ·rintro ⟨h1, h2⟩
  rw [h1]
  simp only
  rw [if_pos h2]
/-! ### Prefixes, and more room -/
theorem numT_pre {a b : Int} {s r : List Tok} {n : Int} (h : numT a b s = some (n, r)) : a ≤ n ∧ n ≤ b ∧ r.length + 1 = s.length ∧ ∀ x, numT a b (s ++ x) = some (n, r ++ x) := by
 cases s with
 | nil => simp [numT] at h
 | cons t s =>
  simp only [numT, Option.map_eq_some_iff, Prod.mk.injEq] at h
  obtain ⟨m, hm, rfl, rfl⟩ := h
  have hb : a ≤ m ∧ m ≤ b := by
   unfold gnumF at hm
   split at hm
   ·split at hm
    ·rename_i hh; cases hm; exact hh.2
    ·cases hm
   ·cases hm
  refine ⟨hb.1, hb.2, by simp, fun x => ?_⟩
  simp [numT, hm]
def PreOk (p : List Tok → Option (Ge × List Tok)) : Prop := ∀ s g r, p s = some (g, r) → g.sz + r.length ≤ s.length ∧ ∀ x, p (s ++ x) = some (g, r ++ x)
theorem sz_pos (g : Ge) : 0 < g.sz := by cases g <;> simp only [Ge.sz] <;> omega
theorem pS_pre {p : List Tok → Option (Ge × List Tok)} (hp : PreOk p) : ∀ {n m : Nat} {s : List Tok} {l r}, n ≤ m → pS p n s = some (l, r) → szL l + r.length ≤ s.length ∧ ∀ x, pS p m (s ++ x) = some (l, r ++ x)
 | 0, _, _, _, _, _, h => by simp [pS] at h
 | n + 1, 0, _, _, _, h, _ => by omega
 | n + 1, m + 1, s, l, r, hnm, h => by
  simp only [pS] at h
  cases hs : p s with
  | none => rw [hs] at h; cases h
  | some q =>
   rw [hs] at h
   obtain ⟨g, s'⟩ := q
   obtain ⟨hl, hx⟩ := hp s g s' hs
   cases s' with
   | nil => cases h
   | cons t s' =>
    simp only at h
    simp only [List.length_cons] at hl
    by_cases h1 : t = tShut
    ·rw [if_pos h1] at h
     cases h
     refine ⟨by simp only [szL]; omega, fun x => ?_⟩
     simp only [pS, hx x, List.cons_append, if_pos h1]
    ·rw [if_neg h1] at h
     by_cases h2 : t = tComma
     ·rw [if_pos h2, Option.map_eq_some_iff] at h
      obtain ⟨q, hq, he⟩ := h
      cases he
      obtain ⟨hl2, hx2⟩ := pS_pre hp (m := m) (by omega) (show pS p n s' = some (q.1, q.2) from hq)
      refine ⟨by simp only [szL]; omega, fun x => ?_⟩
      simp only [pS, hx x, List.cons_append, if_neg h1, if_pos h2, hx2 x, Option.map_some]
     ·rw [if_neg h2] at h; cases h
theorem pV_pre {p : List Tok → Option (Ge × List Tok)} (hp : PreOk p) {s : List Tok} {l r} (h : pV p s = some (l, r)) : szL l + r.length + 1 ≤ s.length ∧ ∀ x, pV p (s ++ x) = some (l, r ++ x) := by
 cases s with
 | nil => simp [pV] at h
 | cons t s =>
  simp only [pV] at h
  by_cases h1 : t = tOpen
  ·rw [if_pos h1] at h
   have h2 := pS_pre hp (Nat.le_refl _) h
   refine ⟨by simp only [List.length_cons]; omega, fun x => ?_⟩
   have h3 := (pS_pre hp (m := (s ++ x).length) (by simp) h).2 x
   simp only [pV, List.cons_append, if_pos h1, h3]
  ·rw [if_neg h1] at h; cases h
theorem pW_pre {s : List Tok} {g : Ge} {r : List Tok} (h : pW s = some (g, r)) : (∃ k l t, g = .wr k l t ∧ 0 ≤ k ∧ k ≤ 7 ∧ -1000000 ≤ l ∧ l ≤ t ∧ t ≤ 1000000) ∧ g.sz + r.length ≤ s.length ∧ ∀ x, pW (s ++ x) = some (g, r ++ x) := by
 unfold pW at h ⊢
 cases h1 : numT 0 7 s with
 | none => rw [h1] at h; cases h
 | some q1 =>
  obtain ⟨k, s1⟩ := q1
  rw [h1] at h
  simp only at h
  cases h2 : numT (-1000000) 1000000 s1 with
  | none => rw [h2] at h; cases h
  | some q2 =>
   obtain ⟨l, s2⟩ := q2
   rw [h2] at h
   simp only at h
   cases h3 : numT l 1000000 s2 with
   | none => rw [h3] at h; cases h
   | some q3 =>
    obtain ⟨t, s3⟩ := q3
    rw [h3] at h
    cases h
    obtain ⟨a1, b1, c1, d1⟩ := numT_pre h1
    obtain ⟨a2, b2, c2, d2⟩ := numT_pre h2
    obtain ⟨a3, b3, c3, d3⟩ := numT_pre h3
    refine ⟨⟨k, l, t, rfl, a1, b1, a2, a3, b3⟩, by simp only [Ge.sz]; omega, fun x => ?_⟩
    rw [d1 x]; simp only
    rw [d2 x]; simp only
    rw [d3 x]
theorem pG_pre : ∀ (k : Nat), PreOk (pG k)
 | 0 => fun s g r h => by simp [pG] at h
 | k + 1 => fun s g r h => by
  have ih := pG_pre k
  cases s with
  | nil => simp [pG] at h
  | cons t s =>
   simp only [pG, List.cons_append, List.length_cons] at h ⊢
   by_cases h1 : t = tRead
   ·simp only [if_pos h1] at h ⊢
    rw [Option.map_eq_some_iff] at h
    obtain ⟨⟨n, s1⟩, hn, he⟩ := h
    cases he
    obtain ⟨_, _, c1, d1⟩ := numT_pre hn
    exact ⟨by simp only [Ge.sz]; omega, fun x => by rw [d1 x]; rfl⟩
   simp only [if_neg h1] at h ⊢
   by_cases h2 : t = tWrite
   ·simp only [if_pos h2] at h ⊢
    obtain ⟨_, b, c⟩ := pW_pre h
    exact ⟨by omega, c⟩
   simp only [if_neg h2] at h ⊢
   by_cases h3 : t = tLimit
   ·simp only [if_pos h3] at h ⊢
    cases hn : numT 0 1000 s with
    | none => rw [hn] at h; cases h
    | some q =>
     obtain ⟨n, s1⟩ := q
     rw [hn] at h
     simp only [Option.map_eq_some_iff] at h
     obtain ⟨⟨g1, s2⟩, hg, he⟩ := h
     cases he
     obtain ⟨_, _, c1, d1⟩ := numT_pre hn
     obtain ⟨hl, hx⟩ := ih _ _ _ hg
     refine ⟨by simp only [Ge.sz]; omega, fun x => ?_⟩
     rw [d1 x]
     simp only [hx x, Option.map_some]
   simp only [if_neg h3] at h ⊢
   by_cases h4 : t = tMix
   ·simp only [if_pos h4] at h ⊢
    rw [Option.map_eq_some_iff] at h
    obtain ⟨⟨l, s1⟩, hv, he⟩ := h
    cases he
    obtain ⟨hl, hx⟩ := pV_pre ih hv
    exact ⟨by simp only [Ge.sz]; omega, fun x => by rw [hx x]; rfl⟩
   simp only [if_neg h4] at h ⊢
   by_cases h5 : t = tThen
   ·simp only [if_pos h5] at h ⊢
    rw [Option.map_eq_some_iff] at h
    obtain ⟨⟨l, s1⟩, hv, he⟩ := h
    cases he
    obtain ⟨hl, hx⟩ := pV_pre ih hv
    exact ⟨by simp only [Ge.sz]; omega, fun x => by rw [hx x]; rfl⟩
   rw [if_neg h5] at h
   cases h
/-- What a text is. -/
def parsed (bs : List UInt8) : Option Ge := match pG 20 (toks bs) with
 | some (g, []) => some g
 | _ => none
theorem parsed_sz {bs : List UInt8} {g : Ge} (h : parsed bs = some g) : g.sz ≤ bs.length := by
 unfold parsed at h
 cases hx : pG 20 (toks bs) with
 | none => rw [hx] at h; cases h
 | some q =>
  obtain ⟨g1, r⟩ := q
  rw [hx] at h
  cases r with
  | cons => cases h
  | nil =>
   cases h
   have h1 := (pG_pre 20 _ _ _ hx).1
   have := toks_len bs
   omega
end Go.Proofs.YthndpiopbdecfaaGreatDoor
namespace Go.Proofs.YthndpiopbdecfaaGreatDoor
open Go.RowKit
set_option linter.unusedVariables false
set_option linter.unusedSimpArgs false
structure NumG (w : World) : Prop where
 syn : ∃ tp p, w.var? Tryz.prog "strconv.ErrSyntax" = some #[.iface tp p]
 rng : ∃ tp p, w.var? Tryz.prog "strconv.ErrRange" = some #[.iface tp p]
 tab : Lib.TabIs Tryz.prog w "internal/strconv.uint64pow10" .u64 Lib.pow10Tab
/-- What is written to is none of these variables. -/
def NoG (S : Nat → Prop) : Prop := ¬ S 5 ∧ ¬ S 6 ∧ ¬ S 7
theorem gsynN : Tryz.prog.globalNamed "strconv.ErrSyntax" = some 5 := by kernel_rfl
theorem grngN : Tryz.prog.globalNamed "strconv.ErrRange" = some 6 := by kernel_rfl
theorem gpowN : Tryz.prog.globalNamed "internal/strconv.uint64pow10" = some 7 := by kernel_rfl
theorem var_keep {S : Nat → Prop} {w w' : World} {name : String} {g : Nat} {cs : Array Value} (hg : Tryz.prog.globalNamed name = some g) (hc : Chg S w w') (hS : ¬ S g) (h : w.var? Tryz.prog name = some cs) : w'.var? Tryz.prog name = some cs := by
 unfold World.var? at h ⊢
 rw [hg, Option.bind_some] at h ⊢
 have hlt : g < w.heap.size := by
  refine Nat.lt_of_not_le fun hn => ?_
  rw [Array.getElem?_eq_none hn] at h
  cases h
 rw [hc.block g hlt hS]
 exact h
theorem NumG.chg {S : Nat → Prop} {w w' : World} (h : NumG w) (hc : Chg S w w') (hS : NoG S) : NumG w' := by
 obtain ⟨⟨t1, p1, h1⟩, ⟨t2, p2, h2⟩, h3⟩ := h
 exact ⟨⟨t1, p1, var_keep gsynN hc hS.1 h1⟩, ⟨t2, p2, var_keep grngN hc hS.2.1 h2⟩, var_keep gpowN hc hS.2.2 h3⟩
theorem NoG.none : NoG (fun _ => False) := ⟨id, id, id⟩
def atoiPost (t : Tok) (w : World) (e : Ending) (w' : World) : Prop := (match Lib.atoiAll t with
 | .ok n => e = .returned (.tuple #[.int .i64 n, .nilIface]) ∧ -9223372036854775808 ≤ n ∧ n ≤ 9223372036854775807
 | _ => ∃ n T u, e = .returned (.tuple #[.int .i64 n, .iface T u])) ∧ Pure w w'
theorem atoi_any (t : Tok) (ht : t.length ≤ 1000000) (w : World) (hG : NumG w) : Calls Tryz.prog 87 #[strV t] w (atoiPost t w) := by
 have hs : (⟨t.toArray⟩ : ByteArray).size = t.length := str_size t
 unfold atoiPost
 cases h : Lib.atoiAll t
 ·rename_i n
  refine (Any.strconv_Atoi_ok Tryz.laysC172 ⟨t.toArray⟩ (by omega) n h w).mono ?_
  rintro e w' ⟨rfl, hw⟩
  refine ⟨⟨rfl, by have := Lib.atoiAll_bounds h; omega⟩, ?_⟩
  rcases hw with rfl | ⟨x, rfl⟩
  ·exact Pure.refl _
  ·exact Lib.bytesWorld_below _ _ _
 ·obtain ⟨tp, p, hv⟩ := hG.syn
  refine (Any.strconv_Atoi_syntax_var Tryz.laysC172 ⟨t.toArray⟩ (by omega) h tp p w hv).mono ?_
  rintro e w' ⟨N, rfl, -, -, hb⟩
  exact ⟨⟨_, _, _, rfl⟩, hb⟩
 ·obtain ⟨tp, p, hv⟩ := hG.rng
  refine (Any.strconv_Atoi_range_var Tryz.laysC172 ⟨t.toArray⟩ (by omega) h tp p w hv).mono ?_
  rintro e w' ⟨N, rfl, -, -, hb⟩
  exact ⟨⟨_, _, _, rfl⟩, hb⟩
theorem itoa_any (n : Int) (h1 : -9223372036854775808 ≤ n) (h2 : n ≤ 9223372036854775807) (w : World) (hG : NumG w) : Calls Tryz.prog 88 #[.int .i64 n] w fun e w' => e = .returned (strV (Lib.itoa n)) ∧ Pure w w' := by
 refine (Any.strconv_Itoa Tryz.laysM171 n h1 h2 w hG.tab).mono ?_
 rintro e w' ⟨rfl, k, os, rfl⟩
 refine ⟨rfl, ⟨rfl, rfl, rfl, ?_, fun j hj => ?_⟩⟩
 ·show w.heap.size ≤ (w.heap ++ os).size
  rw [Array.size_append]; omega
 ·show (w.heap ++ os)[j]? = w.heap[j]?
  rw [Array.getElem?_append_left hj]
end Go.Proofs.YthndpiopbdecfaaGreatDoor
namespace Go.Proofs.YthndpiopbdecfaaGreatDoor
open Go
set_option linter.unusedVariables false
set_option linter.unusedSimpArgs false
/-! ### Numerals -/
theorem parse_snoc {c : UInt8} (hc : 48 ≤ c.toNat ∧ c.toNat ≤ 57) : ∀ (l : List UInt8) (a b : Nat), Lib.parseUint10 a l = .ok b → b < 1844674407370955161 → Lib.parseUint10 a (l ++ [c]) = .ok (b * 10 + (c.toNat - 48))
 | [], a, b, h, hb => by
  cases h
  simp only [List.nil_append, Lib.parseUint10]
  rw [if_pos hc, if_neg (by omega), if_neg (by omega)]
 | x :: l, a, b, h, hb => by
  simp only [List.cons_append, Lib.parseUint10] at h ⊢
  split at h
  ·rename_i hx
   rw [if_pos hx]
   split at h
   ·cases h
   ·rename_i h1
    rw [if_neg h1]
    split at h
    ·cases h
    ·rename_i h2
     rw [if_neg h2]
     exact parse_snoc hc l _ _ h hb
  ·cases h
theorem dig_toNat {d : Nat} (h : d < 10) : (UInt8.ofNat (48 + d)).toNat = 48 + d := by rw [UInt8.toNat_ofNat']; omega
theorem parse_dec : ∀ (k u : Nat), u < k → u < 10000000000000000000 → u < 1844674407370955161 → Lib.parseUint10 0 (Lib.decDigits u) = .ok u
 | 0, u, h, _, _ => by omega
 | k + 1, u, h, h1, h2 => by
  rw [Lib.decDigits]
  split
  ·rename_i h10
   simp only [Lib.parseUint10, dig_toNat h10]
   rw [if_pos (by omega), if_neg (by omega), if_neg (by omega)]
   congr 1; omega
  ·rename_i h10
   have hd := dig_toNat (show u % 10 < 10 by omega)
   rw [parse_snoc (by rw [hd]; omega) _ _ _ (parse_dec k (u / 10) (by omega) (by omega) (by omega)) (by omega), hd]
   congr 1; omega
theorem dec_ne (u : Nat) : Lib.decDigits u ≠ [] := by
 rw [Lib.decDigits]
 split <;> simp
theorem dec_digit : ∀ (k u : Nat), u < k → ∀ c ∈ Lib.decDigits u, 48 ≤ c.toNat ∧ c.toNat ≤ 57
 | 0, u, h => by omega
 | k + 1, u, h => by
  intro c hc
  rw [Lib.decDigits] at hc
  split at hc
  ·rename_i h10
   rw [List.mem_singleton.1 hc, dig_toNat h10]; omega
  ·rename_i h10
   rcases List.mem_append.1 hc with hc | hc
   ·exact dec_digit k (u / 10) (by omega) c hc
   ·rw [List.mem_singleton.1 hc, dig_toNat (by omega)]; omega
theorem atoi_itoa {n : Int} (h1 : -1000000000000000000 ≤ n) (h2 : n ≤ 1000000000000000000) : Lib.atoiAll (Lib.itoa n) = .ok n := by
 unfold Lib.itoa
 split
 ·rename_i hn
  have hp := parse_dec (n.natAbs + 1) n.natAbs (by omega) (by omega) (by omega)
  have hne := dec_ne n.natAbs
  simp only [Lib.atoiAll]
  have e : (45 : UInt8).toNat = 45 := rfl
  rw [if_pos (Or.inr e)]
  unfold Lib.parseMag
  rw [if_neg hne, hp]
  simp only [e, not_true, false_and, if_false, true_and]
  rw [if_neg (by omega)]
  (rw [if_pos trivial]; congr 1; omega)
 ·rename_i hn
  have hp := parse_dec (n.toNat + 1) n.toNat (by omega) (by omega) (by omega)
  have hdg := dec_digit (n.toNat + 1) n.toNat (by omega)
  cases hd : Lib.decDigits n.toNat with
  | nil => exact absurd hd (dec_ne _)
  | cons c r =>
   rw [hd] at hp hdg
   have hc := hdg c (by simp)
   simp only [Lib.atoiAll]
   rw [if_neg (by omega)]
   unfold Lib.parseMag
   rw [if_neg (by simp), hp]
   have hneg : ¬ c.toNat = 45 := by omega
   simp only [hneg, not_false_eq_true, true_and, false_and, if_false]
   rw [if_neg (by omega)]
   (congr 1; omega)
theorem dec_len : ∀ (k u : Nat), u < 10 ^ k → 0 < k → (Lib.decDigits u).length ≤ k
 | 0, u, h, h0 => by omega
 | k + 1, u, h, _ => by
  rw [Lib.decDigits]
  split
  ·simp
  ·rename_i h10
   have hk : 0 < k := by
    rcases Nat.eq_zero_or_pos k with h0 | h0
    ·subst h0; simp at h; omega
    ·exact h0
   have := dec_len k (u / 10) (by rw [Nat.pow_succ] at h; omega) hk
   simp only [List.length_append, List.length_singleton]; omega
theorem itoaT_len {n : Int} (h1 : -1000000 ≤ n) (h2 : n ≤ 1000000) : (Lib.itoa n).length ≤ 8 := by
 unfold Lib.itoa
 split
 ·have := dec_len 7 n.natAbs (by omega) (by omega)
  simp only [List.length_cons]; omega
 ·have := dec_len 7 n.toNat (by omega) (by omega)
  omega
/-! ### Lines -/
/-! ### Words -/
end Go.Proofs.YthndpiopbdecfaaGreatDoor
namespace Go.Proofs.YthndpiopbdecfaaGreatDoor
open Go.RowKit
set_option linter.unusedVariables false
set_option linter.unusedSimpArgs false
set_option maxHeartbeats 4000000 in
theorem numbers_any (w0 w : World) (H : List Ent) (b g T : Nat) (s : List UInt8) (ws : List (List UInt8)) (m : Nat) (off val : Nat → Nat) (stp : Nat → Array Value) (ptrs : Array Value)
  (hI : Inv (fun _ => False) w0 w (B g 133 ptrs :: B b T (stp 0) :: H)) (hp : ∀ k, k < m → ptrs[k]? = some (.pointer (some ⟨b, off k, none⟩))) (hst : ∀ k, k < m → Nat.blt (off k) (stp k).size = true ∧ (stp k).setIfInBounds (off k) (.int .i64 (val k : Int)) = stp (k + 1))
  (hw : ∀ k, k < m → ws[k]? = some (Lib.itoa (val k : Int)) ∧ val k ≤ 1000000) (hm : ws.length = m) (hm10 : m ≤ 10) (hl : s.length ≤ 1000) (hc : Lib.countB (byB s) (byB [32]) + 1 = ws.length) (hsp : Lib.splitB (byB [32]) 0 (Lib.countB (byB s) (byB [32])) (byB s) = ws.map byB) (hG : NumG w0) (hM : MaxOk w0) :
  Calls Tryz.prog 53 #[strV s, .slice (some ⟨g, 0, none⟩) m m] w fun e w' => e = .returned .nilIface ∧ Inv (fun _ => False) w0 w' (B b T (stp m) :: H) := by
 have hN := fun (w : World) (hp : Pure w0 w) => hG.chg (hp.chg (fun _ => False)) NoG.none
 refine Vm Tryz.f53.ntmps Tryz.func53 rfl ?_
 refine W_seq (W_region (Vf rfl (WL_nil (W_seq (W_region (Vq rfl (V6 [.string _, .string _] rfl Tryz.func27 rfl ?_)))))))
 refine (splitS_any s [32] ws (by omega) (by decide) hc hsp _ (hM.pure hI.pu)).mono ?_
 rintro e w1 ⟨gs, rfl, hT⟩
 refine ⟨_, rfl, ?_⟩
 replace hI := hI.app1 hT
 refine Vl rfl (WL_nil ?_)
 subst hm
 refine W_seq (W_seq (W_region (Ve rfl (Vs rfl Tryz.underlying81 rfl (Ve rfl (Vs rfl Tryz.underlying190 rfl (U5 rfl (WL_nil (W_cond false rfl (W_skip (W_seq (W_seq (W_region ?_)))))))))))))
 refine Ve rfl (Vs rfl Tryz.underlying190 rfl (V0 rfl (WL_nil (W_block ?_))))
 refine W_loopN (fun mu ρ w => ∃ k : Nat, mu = ws.length - k ∧ k ≤ ws.length ∧ Has ρ [(20, .int .i64 (k : Int)), (19, .int .i64 (ws.length : Int)), (18, .slice (some ⟨g, 0, none⟩) ws.length ws.length), (5, .slice (some ⟨gs, 0, none⟩) ws.length ws.length)] ∧ Inv (fun _ => False) w0 w (B gs 9 (ws.map strV).toArray :: B g 133 ptrs :: B b T (stp k) :: H)) ws.length
  ⟨0, rfl, by omega, ⟨rfl, rfl, rfl, rfl, trivial⟩, hI⟩ ?_
 clear hI
 rintro mu ρ w ⟨k, rfl, hk, hH, hI⟩
 obtain ⟨σ, rfl⟩ := hH.open
 by_cases hkl : k < ws.length
 rotate_left
 ·obtain rfl : k = ws.length := by omega
  refine W_seq (W_region (Vn rfl (WL_nil (W_seq (W_cond false rfl ?_)))))
  refine W_exit ?_
  refine W_seq (W_region (Vf rfl (WL_nil ?_)))
  refine W_ret ?_
  exact ret1 4 (.inr rfl) rfl ⟨rfl, hI.d0.d0⟩
 obtain ⟨hwk, hvk⟩ := hw k hkl
 obtain ⟨hs1, hs2⟩ := hst k hkl
 have hpk := hp k hkl
 have hck : (ws.map strV).toArray[k]? = some (strV (Lib.itoa (val k : Int))) := by rw [List.getElem?_toArray, List.getElem?_map, hwk]; rfl
 refine W_seq (W_region (Vp rfl (WL_nil (W_seq (W_cond true rfl (W_skip (W_seq (W_block (W_seq (W_region (V0 rfl (Tj rfl Tryz.underlying190 rfl (V3 (.pointer _) rfl (hI.c1 hpk) ?_)))))))))))))
 refine Va rfl (U4 rfl (WL_nil (W_seq (W_region (Ve rfl (V0 rfl (Tj rfl Tryz.underlying81 rfl (V3 (.string _) rfl (hI.c0 hck) (V6 [.string _] rfl Tryz.func87 rfl ?_)))))))))
 refine (atoi_any (Lib.itoa (val k : Int)) (by have := itoaT_len (n := (val k : Int)) (by omega) (by omega); omega) _ (hN _ hI.pu)).mono ?_
 unfold atoiPost
 rw [atoi_itoa (by omega) (by omega)]
 rintro e w1 ⟨⟨rfl, -⟩, hp1⟩
 refine ⟨_, rfl, ?_⟩
 replace hI := hI.pure hp1
 refine Vv rfl (Vg rfl (Vg rfl (Va rfl (Vf rfl (WL_nil (W_seq (W_block (W_seq (W_draw (by kernel_rfl) ?_)))))))))
 refine WA_inv (T := []) hI.drew ?_
 intro Sx hSx hXS
 replace hI := hI.drew
 refine WT_take 0 rfl rfl (by kernel_rfl) (hXS _ hI) rfl (fun W hW => have hI := hSx W hW; (by exact rMoveN rfl rfl)) ?_
 refine WT_take 1 rfl rfl (by kernel_rfl) (hXS _ hI) rfl (fun W hW => have hI := hSx W hW; (by exact rNilNe rfl Tryz.underlying29 rfl)) ?_
 refine T5 2 (hXS _ hI) rfl (Vw 3 (hXS _ hI) rfl (T9 5 (hXS _ hI) rfl (Vw 6 (hXS _ hI) rfl (U1 7 (hXS _ hI) rfl Tryz.underlying81 rfl (V9 8 (.string _) (hXS _ hI) rfl (fun W hW => (hSx W hW).c0 hck) (Vt 4 rfl ?_))))))
 refine V6 [.int .i64 _] rfl Tryz.func88 rfl ?_
 refine (itoa_any (val k : Int) (by omega) (by omega) _ (hN _ hI.pu)).mono ?_
 rintro e w1 ⟨rfl, hp1⟩
 refine ⟨_, rfl, ?_⟩
 replace hI := hI.pure hp1
 refine WL_nil ⟨hXS _ hI, ?_⟩
 refine WT_take 9 rfl rfl (by kernel_rfl) (hXS _ hI) rfl (fun W hW => have hI := hSx W hW; (rStrNeF rfl rfl rfl rfl)) ?_
 refine Tm 10 (hXS _ hI) rfl (U3 11 (hXS _ hI) rfl (WT_end (by kernel_rfl) (W_cond false rfl (W_seq (W_region (V0 rfl (Vn rfl (V2 rfl (V0 rfl (Td rfl (V8 rfl (V4 rfl (WL_nil ?_)))))))))))))
 refine W_cond false rfl (W_skip (W_region (V7 rfl (V0 rfl (Vb rfl ?_)))))
 refine WL_st2 (u := .int .i64 (val k : Int)) hI rfl rfl rfl rfl rfl rfl (by kernel_rfl) rfl hs1 hs2 ?_
 clear hI; rintro w hI
 refine WL_nil (W_region (Vu rfl (V0 rfl (WL_nil ?_))))
 exact ⟨ws.length - (k + 1), by omega, k + 1, rfl, by omega, ⟨rfl, rfl, rfl, rfl, trivial⟩, hI⟩
end Go.Proofs.YthndpiopbdecfaaGreatDoor
namespace Go.Proofs.YthndpiopbdecfaaGreatDoor
open Go
structure Ev where
 proc : Int
 ty : Int
 key : Int
 kind : Int
 a : Int
 b : Int
 res : Int
 deriving DecidableEq
def evL (e : Ev) : List Value := [.int .i64 e.proc, .int .i64 e.ty, .int .i64 e.key, .int .i64 e.kind, .int .i64 e.a, .int .i64 e.b, .int .i64 e.res]
def inB (n lo hi : Int) : Bool := decide (lo ≤ n) && decide (n ≤ hi)
def toldB (proc key : Int) (l : List Int) : Bool := (l.all fun n => inB n (-1000000) 1000000) && inB proc 0 7 && inB key 0 7
def evOkB (e : Ev) : Bool := toldB e.proc e.key [e.a, e.b, e.res] && inB e.ty 1 4 && inB e.kind 1 12 && !(!decide (e.res = 0) && !decide (e.ty = 2))
/-! ### Numbers -/
def zz (n : Int) : Nat := if 0 ≤ n then (2 * n).toNat else (-2 * n - 1).toNat
def varF : Nat → Nat → List Nat
 | 0, _ => []
 | f + 1, u => if u < 128 then [u] else (u % 128 + 128) :: varF f (u / 128)
def encN (n : Int) : List Nat := varF 10 (zz n)
/-! ### Events -/
def enc (e : Ev) : List Nat := [e.proc.toNat, e.ty.toNat, e.key.toNat, e.kind.toNat] ++ encN e.a ++ encN e.b ++ encN e.res
/-! ### Frames -/
end Go.Proofs.YthndpiopbdecfaaGreatDoor
namespace Go.Proofs.YthndpiopbdecfaaGreatDoor
set_option linter.unusedVariables false
set_option linter.unusedSimpArgs false
structure SEnt where
 t : Nat
 c : Int
 v : Int
def SEnt.less (a b : SEnt) : Prop := a.t < b.t ∨ (a.t = b.t ∧ a.c < b.c)
instance (a b : SEnt) : Decidable (a.less b) := inferInstanceAs (Decidable (_ ∨ _))
def SEnt.le (a b : SEnt) : Prop := a.t < b.t ∨ (a.t = b.t ∧ a.c ≤ b.c)
theorem SEnt.le_refl (a : SEnt) : a.le a := .inr ⟨rfl, Int.le_refl _⟩
theorem SEnt.le_trans {a b c : SEnt} (h : a.le b) (k : b.le c) : a.le c := by
 unfold SEnt.le at *
 omega
structure SMsg where
 what : Nat
 client : Nat
 round : Nat
 key : Nat
 e : SEnt
structure SMail where
 src : Nat
 dst : Nat
 m : SMsg
structure SCl where
 busy : Bool
 gone : Bool
 began : Ev
 telling : Bool
 round : Nat
 counted : List Bool
 best : SEnt
structure StS where
 n : Nat
 k : Nat
 ask : Nat
 tell : Nat
 back : Bool
 ent : Nat → Nat → SEnt
 cl : Nat → SCl
 mails : List SMail
 evs : List Ev
 sts : List SEnt
def keyC (s : StS) (c : Nat) : Nat := (s.cl c).began.key.toNat
def setCl (s : StS) (c : Nat) (x : SCl) : StS := { s with cl := fun i => if i = c then x else s.cl i }
def pushM (ms : List SMail) (m : SMail) : List SMail := if ms.length < 500 then ms ++ [m] else ms
def sendM (s : StS) (c what : Nat) (e : SEnt) (j : Nat) : SMail := ⟨s.n + c, j, ⟨what, c, (s.cl c).round + 1, keyC s c, e⟩⟩
def sendTo (s : StS) (c what : Nat) (e : SEnt) (j : Nat) : List SMail := (List.range j).foldl (fun ms i => pushM ms (sendM s c what e i)) s.mails
def roundC (s : StS) (c what : Nat) : SCl := { s.cl c with round := (s.cl c).round + 1, telling := decide (what = 2), counted := List.replicate s.n false }
def sendF (s : StS) (c what : Nat) (e : SEnt) : StS := { setCl s c (roundC s c what) with mails := sendTo s c what e s.n }
def obsF (s : StS) (e : Ev) (st : SEnt) : StS := { s with evs := s.evs ++ [e], sts := s.sts ++ [st] }
def evB (c key : Nat) (write : Bool) (value : Int) : Ev := ⟨c, 1, key, if write then 2 else 1, if write then value else 0, 0, 0⟩
def begS (s : StS) (c key : Nat) (write : Bool) (value : Int) : StS :=
 let s1 := obsF s (evB c key write value) ⟨0, 0, 0⟩
 sendF (setCl s1 c { s1.cl c with busy := true, began := evB c key write value, best := ⟨0, -2, 0⟩ }) c 1 ⟨0, 0, 0⟩
def giveF (s : StS) (c : Nat) : StS :=
 let s1 := obsF s { (s.cl c).began with ty := 4 } ⟨0, 0, 0⟩
 setCl s1 c { s1.cl c with busy := false, gone := true }
def evD (x : SCl) : Ev := { x.began with ty := 2, res := if x.began.kind = 1 then x.best.v else x.began.res }
def doneS (s : StS) (c : Nat) : StS :=
 let s1 := obsF s (evD (s.cl c)) ⟨(s.cl c).best.t, (s.cl c).best.c, 0⟩
 setCl s1 c { s1.cl c with busy := false }
def setEnt (s : StS) (j key : Nat) (e : SEnt) : StS := { s with ent := fun a b => if a = j ∧ b = key then e else s.ent a b }
def ownN (s : StS) (j : Nat) (m : SMsg) : SEnt := if m.what = 2 ∧ (s.ent j m.key).less m.e then m.e else s.ent j m.key
def nodeF (s : StS) (j : Nat) (m : SMsg) : StS := { setEnt s j m.key (ownN s j m) with mails := pushM s.mails ⟨j, s.n + m.client, { m with what := 3, e := ownN s j m }⟩ }
def countT (l : List Bool) : Nat := l.countP id
def heardC (x : SCl) (j : Nat) (m : SMsg) : SCl :=
 let x1 := { x with counted := x.counted.set j true }
 if x.telling then x1 else if x.best.less m.e then { x1 with best := m.e } else x1
def newC (x : SCl) (c : Nat) : SCl := if x.began.kind = 2 then { x with best := ⟨x.best.t + 1, c, x.began.a⟩ } else x
def hearF (s : StS) (j : Nat) (m : SMsg) : StS :=
 let x := s.cl m.client
 if x.busy = false ∨ m.round ≠ x.round ∨ x.counted.getD j false = true then s else
 let x1 := heardC x j m
 let s1 := setCl s m.client x1
 if x.telling then (if countT x1.counted = s.tell then doneS s1 m.client else s1)
 else if countT x1.counted < s.ask then s1
 else
  let x2 := newC x1 m.client
  let s2 := setCl s m.client x2
  if x.began.kind = 2 ∨ s.back = true then sendF s2 m.client 2 x2.best else doneS s2 m.client
def deliverF (s : StS) (i : Nat) (m : SMail) : StS :=
 let s1 := { s with mails := s.mails.eraseIdx i }
 if m.dst < s.n then nodeF s1 m.dst m.m else hearF s1 m.src m.m
def busyN (s : StS) (j : Nat) : Nat := (List.range j).countP fun c => (s.cl c).busy
theorem busyN_succ (s : StS) (j : Nat) : busyN s (j + 1) = busyN s j + if (s.cl j).busy = true then 1 else 0 := by
 unfold busyN
 rw [List.range_succ, List.countP_append, List.countP_cons, List.countP_nil]
 simp
theorem busyN_le (s : StS) (j : Nat) : busyN s j ≤ j := by
 unfold busyN
 exact Nat.le_trans List.countP_le_length (by simp)
theorem mem_push {ms : List SMail} {m x : SMail} (h : x ∈ pushM ms m) : x ∈ ms ∨ x = m := by
 unfold pushM at h
 split at h
 ·rcases List.mem_append.1 h with h | h
  ·exact .inl h
  ·exact .inr (List.mem_singleton.1 h)
 ·exact .inl h
theorem mem_send {s : StS} {c what : Nat} {e : SEnt} {x : SMail} : ∀ {j : Nat}, x ∈ sendTo s c what e j → x ∈ s.mails ∨ ∃ i, i < j ∧ x = sendM s c what e i
 | 0, h => .inl h
 | j + 1, h => by
  unfold sendTo at h
  rw [List.range_succ, List.foldl_append] at h
  rcases mem_push h with h | h
  ·rcases mem_send h with h | ⟨i, hi, h⟩
   ·exact .inl h
   ·exact .inr ⟨i, by omega, h⟩
  ·exact .inr ⟨j, by omega, h⟩
end Go.Proofs.YthndpiopbdecfaaGreatDoor
namespace Go.Proofs.YthndpiopbdecfaaGreatDoor
open Go.RowKit
set_option linter.unusedVariables false
set_option linter.unusedSimpArgs false
/-! ### Blocks of things of one size -/
def flatB (n : Nat) (f : Nat → List Value) : Array Value := ((List.range n).flatMap f).toArray
section
variable {n m : Nat} {f g : Nat → List Value}
theorem flatR_len (hm : ∀ i, (f i).length = m) : ((List.range n).flatMap f).length = n * m := by
 induction n with
 | zero => simp
 | succ n ih => rw [List.range_succ, List.flatMap_append, List.length_append, ih, Nat.succ_mul]; simp [hm]
theorem flatB_size (hm : ∀ i, (f i).length = m) : (flatB n f).size = n * m := by
 unfold flatB
 rw [List.size_toArray, flatR_len hm]
theorem flatB_at (hm : ∀ i, (f i).length = m) {i j : Nat} (hi : i < n) (hj : j < m) : (flatB n f)[i * m + j]? = (f i)[j]? := by
 unfold flatB
 rw [List.getElem?_toArray]
 exact flat_get hm (List.range n) i j i (by rw [List.getElem?_range hi]) hj
theorem flatB_get (hm : ∀ i, (f i).length = m) {i j : Nat} {v : Value} (hi : i < n) (hj : (f i)[j]? = some v) : (flatB n f)[i * m + j]? = some v := by
 have := (List.getElem?_eq_some_iff.1 hj).1
 rw [hm] at this
 rw [flatB_at hm hi this, hj]
theorem flatB_congr (h : ∀ i, i < n → f i = g i) : flatB n f = flatB n g := by
 unfold flatB
 congr 1
 have : ∀ l : List Nat, (∀ i ∈ l, i < n) → l.flatMap f = l.flatMap g := fun l => by
  induction l with
  | nil => intro _; rfl
  | cons a l ih => intro hl; rw [List.flatMap_cons, List.flatMap_cons, h a (hl a (by simp)), ih (fun i hi => hl i (by simp [hi]))]
 exact this _ (fun i hi => List.mem_range.1 hi)
theorem splice_at (vs : List Value) : ∀ (cs : Array Value) (o x : Nat), o + vs.length ≤ cs.size → (splice cs o vs)[x]? = if o ≤ x ∧ x < o + vs.length then vs[x - o]? else cs[x]? := by
 induction vs with
 | nil => intro cs o x _; rw [if_neg (fun h => by have h1 := h.1; have h2 := h.2; rw [List.length_nil] at h2; omega)]; rfl
 | cons v vs ih =>
  intro cs o x h
  rw [List.length_cons] at h
  rw [splice, ih _ _ _ (by rw [Array.size_setIfInBounds]; omega), List.length_cons]
  by_cases hx : x = o
  ·subst hx
   rw [if_neg (by omega), if_pos (by omega), Array.getElem?_setIfInBounds]
   rw [if_pos rfl, if_pos (by omega), Nat.sub_self]
   rfl
  ·by_cases h1 : o + 1 ≤ x ∧ x < o + 1 + vs.length
   ·rw [if_pos h1, if_pos (by omega), show x - o = (x - (o + 1)) + 1 by omega, List.getElem?_cons_succ]
   ·rw [if_neg h1, if_neg (by omega), Array.getElem?_setIfInBounds, if_neg (fun e => hx e.symm)]
/-- Some cells of the i-th thing are written. -/
theorem flatB_splice (hm : ∀ i, (f i).length = m) (hg : ∀ i, (g i).length = m) {i j : Nat} {vs : List Value} (hi : i < n) (hj : j + vs.length ≤ m) (hne : ∀ k, k ≠ i → g k = f k)
  (h : g i = (f i).take j ++ vs ++ (f i).drop (j + vs.length)) : splice (flatB n f) (i * m + j) vs = flatB n g := by
 have hin : i * m + m ≤ n * m := by
  rw [← Nat.succ_mul]; exact Nat.mul_le_mul_right _ hi
 apply Array.ext_getElem?
 intro x
 rw [splice_at _ _ _ _ (by rw [flatB_size hm]; omega)]
 by_cases hx : x < n * m
 ·have hm0 : 0 < m := by
   rcases Nat.eq_zero_or_pos m with h0 | h0
   ·subst h0; omega
   ·exact h0
  obtain ⟨a, b, hab, hb⟩ : ∃ a b, x = a * m + b ∧ b < m := ⟨x / m, x % m, by rw [Nat.mul_comm]; exact (Nat.div_add_mod x m).symm, Nat.mod_lt _ hm0⟩
  subst hab
  have ha : a < n := by
   refine Nat.lt_of_not_le fun hn => ?_
   have : n * m ≤ a * m := Nat.mul_le_mul_right _ hn
   omega
  rw [flatB_at hg ha hb]
  by_cases hai : a = i
  ·subst hai
   rw [h]
   by_cases hbj : j ≤ b ∧ b < j + vs.length
   ·rw [if_pos (by omega), List.getElem?_append_left (by simp [hm]; omega), List.getElem?_append_right (by simp [hm]; omega)]
    simp only [List.length_take, hm]
    congr 1
    omega
   ·rw [if_neg (by omega), flatB_at hm ha hb]
    by_cases hlt : b < j
    ·rw [List.getElem?_append_left (by simp [hm]; omega), List.getElem?_append_left (by simp [hm]; omega), List.getElem?_take, if_pos hlt]
    ·rw [List.getElem?_append_right (by simp [hm]; omega), List.getElem?_drop]
     simp only [List.length_append, List.length_take, hm]
     congr 1
     omega
  ·rw [if_neg, flatB_at hm ha hb, hne a hai]
   intro hc
   rcases Nat.lt_or_gt_of_ne hai with h1 | h1
   ·have : (a + 1) * m ≤ i * m := Nat.mul_le_mul_right _ h1
    rw [Nat.succ_mul] at this
    omega
   ·have : (i + 1) * m ≤ a * m := Nat.mul_le_mul_right _ h1
    rw [Nat.succ_mul] at this
    omega
 ·rw [if_neg (by omega), Array.getElem?_eq_none (by rw [flatB_size hm]; omega), Array.getElem?_eq_none (by rw [flatB_size hg]; omega)]
theorem flatB_set (hm : ∀ i, (f i).length = m) (hg : ∀ i, (g i).length = m) {i j : Nat} {v : Value} (hi : i < n) (hj : j < m) (hne : ∀ k, k ≠ i → g k = f k) (h : g i = (f i).take j ++ [v] ++ (f i).drop (j + 1)) :
  (flatB n f).setIfInBounds (i * m + j) v = flatB n g := flatB_splice hm hg (vs := [v]) hi hj hne h
end
/-! ### Values -/
def entL (e : SEnt) : List Value := [.int .i64 (e.t : Int), .int .i64 e.c, .int .i64 e.v]
def msgL (m : SMsg) : List Value := [.int .i64 (m.what : Int), .int .i64 (m.client : Int), .int .i64 (m.round : Int), .int .i64 (m.key : Int), .int .i64 (m.e.t : Int), .int .i64 m.e.c, .int .i64 m.e.v]
def mailL (m : SMail) : List Value := .int .i64 (m.src : Int) :: .int .i64 (m.dst : Int) :: msgL m.m
def stmL (e : SEnt) : List Value := [.int .i64 (e.t : Int), .int .i64 e.c]
def clL (x : SCl) (cv : Value) : List Value := [.bool x.busy, .bool x.gone, .int .i64 x.began.proc, .int .i64 x.began.ty, .int .i64 x.began.key, .int .i64 x.began.kind, .int .i64 x.began.a, .int .i64 x.began.b, .int .i64 x.began.res, .bool x.telling, .int .i64 (x.round : Int), cv, .int .i64 (x.best.t : Int), .int .i64 x.best.c, .int .i64 x.best.v]
def boolsV (l : List Bool) : List Value := l.map Value.bool
/-- Where a store lies. -/
structure StL where
 sb : Nat
 nb : Nat
 cb : Nat
 cw : Nat → Option Nat
 MA : Option Addr
 mc : Nat
 LA : Option Addr
 ln : Nat
 lc : Nat
 cut : Bool
 lv : List Value
 LD : Nat → Prop
 EA : Option Addr
 ec : Nat
 SA : Option Addr
 sc : Nat
def cntV (L : StL) (s : StS) (c : Nat) : Value := match L.cw c with
 | none => .slice none 0 0
 | some b => .slice (some ⟨b, 0, none⟩) s.n s.n
def cntE (L : StL) (s : StS) (c : Nat) : Ent := match L.cw c with
 | none => Ent.nil
 | some b => B b 4 (boolsV (s.cl c).counted).toArray
def clF (L : StL) (s : StS) (c : Nat) : List Value := clL (s.cl c) (cntV L s c)
theorem clF_len (L : StL) (s : StS) (c : Nat) : (clF L s c).length = 15 := rfl
def ndF (s : StS) (i : Nat) : List Value := entL (s.ent (i / 8) (i % 8))
theorem ndF_len (s : StS) (i : Nat) : (ndF s i).length = 3 := rfl
def stoC (L : StL) (s : StS) : Array Value := #[.int .i64 (s.n : Int), .int .i64 (s.k : Int), .int .i64 (s.ask : Int), .int .i64 (s.tell : Int), .bool s.back, .slice (some ⟨L.nb, 0, none⟩) s.n s.n, .slice (some ⟨L.cb, 0, none⟩) s.k s.k,
 .slice L.MA s.mails.length L.mc, .slice L.LA L.ln L.lc, .bool L.cut, .slice L.EA s.evs.length L.ec, .slice L.SA s.sts.length L.sc]
/-- The rows of the links: each of the values is a slice of bools in blocks of D. -/
def RowsE (vals : List Value) (D : Nat → Prop) : Ent := ⟨D, fun w => (∀ k, D k → k < w.heap.size) ∧ ∀ v ∈ vals, ∃ l, Bools w D v l ∧ l.length ≤ 1000⟩
theorem RowsE.ok {w : World} {vals : List Value} {D : Nat → Prop} (hD : ∀ k, D k → k < w.heap.size) (h : ∀ v ∈ vals, ∃ l, Bools w D v l ∧ l.length ≤ 1000) : (RowsE vals D).ok w :=
 Ent.mk_ok ⟨hD, h⟩ (fun k hk => hD k hk) (fun S w1 w2 hc hS h1 => ⟨fun k hk => Nat.lt_of_lt_of_le (h1.1 k hk) hc.size, fun v hv => by
  obtain ⟨l, hl, hb⟩ := h1.2 v hv
  exact ⟨l, Rd.chg hl hc (fun k hk => hS k hk), hb⟩⟩)
def spt (L : StL) (s : StS) : List Ent :=
 [B L.sb 100 (stoC L s), B L.nb 105 (flatB (s.n * 8) (ndF s)), B L.cb 209 (flatB s.k (clF L s)), Many s.k (cntE L s), Row 0 167 9 L.MA s.mails.length L.mc (s.mails.flatMap mailL),
  Row 0 70 1 L.LA L.ln L.lc L.lv, RowsE L.lv L.LD, Row 0 48 7 L.EA s.evs.length L.ec (s.evs.flatMap evL), Row 0 102 2 L.SA s.sts.length L.sc (s.sts.flatMap stmL)]
/-- What the walk leans on. M bounds times and rounds. -/
structure SOk (L : StL) (s : StS) (M : Nat) : Prop where
 n1 : 1 ≤ s.n ∧ s.n ≤ 7
 k1 : 1 ≤ s.k ∧ s.k ≤ 8
 ask : 1 ≤ s.ask ∧ s.ask ≤ s.n
 tell : 1 ≤ s.tell ∧ s.tell ≤ s.n
 mlen : s.mails.length ≤ 500
 elen : s.evs.length ≤ 120
 slen : s.sts.length = s.evs.length
 free : s.evs.length + busyN s s.k ≤ 120
 mok : ∀ m ∈ s.mails, m.m.client < s.k ∧ m.m.key < 8 ∧ m.m.round ≤ M ∧ m.m.e.t ≤ M ∧ m.m.what ≤ 3 ∧ ((m.dst < s.n ∧ m.src = s.n + m.m.client) ∨ (m.src < s.n ∧ m.dst = s.n + m.m.client))
 cok : ∀ c, c < s.k → (s.cl c).round ≤ M ∧ (s.cl c).best.t ≤ M ∧ ((s.cl c).busy = true → L.cw c ≠ none ∧ (s.cl c).counted.length = s.n ∧ 0 ≤ (s.cl c).began.key ∧ (s.cl c).began.key < 8)
 clen : ∀ c b, c < s.k → L.cw c = some b → (s.cl c).counted.length = s.n
 eok : ∀ j key, j < s.n → key < 8 → (s.ent j key).t ≤ M
/-! ### slices.Delete at mails -/
theorem infoMail : (Tryz.prog.info? 167).map (fun i => (i.zero, i.size, i.bytes)) = some (some (.agg #[.int .i64 0, .int .i64 0, .int .i64 0, .int .i64 0, .int .i64 0, .int .i64 0, .int .i64 0, .int .i64 0, .int .i64 0]), 9, 72) := by kernel_rfl
theorem zeroMail (w : World) : (zeroValue 167).run Tryz.prog w = .ok (.agg #[.int .i64 0, .int .i64 0, .int .i64 0, .int .i64 0, .int .i64 0, .int .i64 0, .int .i64 0, .int .i64 0, .int .i64 0]) w := by kernel_rfl
theorem delete_cells (cur : Array Value) (xs news zs : List Value) (n k size : Nat) (htake : cur.toList.take (n * size) = xs) (hlen : xs.length = n * size) (hk : k < n) (hnews : news = xs.drop ((k + 1) * size)) (hz : zs.length = size) (hcs : n * size ≤ cur.size) :
  (splice (splice cur (0 + k * size) news) ((k + (n - (k + 1))) * size) zs).toList.take ((n - 1) * size) = xs.take (k * size) ++ xs.drop ((k + 1) * size) := by
 have e1 : (k + (n - (k + 1))) = n - 1 := by omega
 have hnl : news.length = (n - (k + 1)) * size := by rw [hnews, List.length_drop, hlen, Nat.sub_mul]
 have e2 : k * size + (n - (k + 1)) * size = (n - 1) * size := by rw [← Nat.add_mul]; congr 1
 have e3 : (n - 1) * size + size = n * size := by
  have : n = (n - 1) + 1 := by omega
  conv => rhs; rw [this, Nat.add_mul, Nat.one_mul]
 have e4 : k * size ≤ n * size := Nat.mul_le_mul_right _ (by omega)
 rw [e1, splice_list _ _ _ (by rw [splice_size, hz]; omega), List.append_assoc, List.take_append_of_le_length (by rw [List.length_take, Array.length_toList, splice_size]; omega), List.take_take, Nat.min_self,
  splice_list _ _ _ (by rw [hnl]; omega), Nat.zero_add, List.take_append_of_le_length (by rw [List.length_append, List.length_take, Array.length_toList, hnl]; omega), List.take_of_length_le (by rw [List.length_append, List.length_take, Array.length_toList, hnl]; omega), hnews, ← htake, List.take_take, Nat.min_eq_left e4]
set_option maxHeartbeats 400000 in
set_option maxRecDepth 100000 in
theorem sdelete_any (base n k : Nat) (v : Value) (xs : List Value) (w : World) (h : w.ownsRow base 167 9 v n xs) (h1 : ∀ u ∈ xs, u.oneCell' = true) (hk : k < n) (hn : n ≤ 1000) :
  Calls Tryz.prog 98 #[v, .int .i64 k, .int .i64 ((k : Int) + 1)] w fun e w' => ∃ v', e = .returned v' ∧
   w'.ownsRow base 167 9 v' (n - 1) (cutAt 9 k xs) ∧ Chg (fun k => some k = v.ownBlock) w w' ∧ v'.ownBlock = v.ownBlock := by
 obtain ⟨i0, hi0, hz0, hz1, hz2⟩ := info_parts infoMail
 rcases h.2 with ⟨rfl, rfl⟩ | ⟨g, cap, cur, rfl, hbg, hg, hnc, hcm, hcs, htake⟩
 ·omega
 have hlen := h.1
 simp only [maxLen] at hcm
 have hB : Blk w g 167 cur := hg
 obtain ⟨news, hnews⟩ : ∃ news, news = xs.drop ((k + 1) * 9) := ⟨_, rfl⟩
 have hnl : news.length = (n - (k + 1)) * 9 := by rw [hnews, List.length_drop, hlen]; omega
 have hget : ∀ j u, xs[j]? = some u → w.cell? ⟨g, j, none⟩ = some u := fun j u hj => by
  rw [hB.cell, ← Array.getElem?_toList]
  rw [← htake, List.getElem?_take] at hj
  split at hj
  ·exact hj
  ·cases hj
 obtain ⟨A, hA, hsrc⟩ : ∃ A : Addr, (if cap = k + 1 then some (⟨g, 0, none⟩ : Addr) else some ⟨g, (k + 1) * 9, none⟩) = some A ∧ Hid (∀ t u, news[t]? = some u → w.drew.cell? (A.add t) = some u) := by
  by_cases hc : cap = k + 1
  ·refine ⟨_, by rw [if_pos hc], fun t u hu => ?_⟩
   have h0 : news.length = 0 := by rw [hnl]; omega
   rw [List.length_eq_zero_iff.1 h0] at hu
   simp at hu
  ·refine ⟨_, by rw [if_neg hc], fun t u hu => ?_⟩
   rw [Addr.add_lit]
   rw [hnews, List.getElem?_drop] at hu
   exact hget _ u hu
 have s1 : Hid (news.length = (n - (k + 1)) * 9) := hnl
 have s2 : Hid (∀ u ∈ news, u.oneCell' = true) := fun u hu => h1 u (List.mem_of_mem_drop (hnews ▸ hu))
 have s3 : Hid (∀ t, t < news.length → (w.drew.cell? ⟨g, 0 + k * 9 + t, none⟩).isSome = true ∧ w.drew.frozen? ⟨g, 0 + k * 9 + t, none⟩ = false) := by
  intro t ht
  refine ⟨?_, hB.frozen _⟩
  show (w.cell? _).isSome = true
  rw [hB.cell, Array.getElem?_eq_getElem (by rw [hcs]; omega)]
  rfl
 obtain ⟨W1, hW1⟩ : ∃ W1, W1 = w.drew.setCells g (0 + k * 9) news := ⟨_, rfl⟩
 have hB1 : Blk W1 g 167 (splice cur (0 + k * 9) news) := by rw [hW1]; exact hB.drew.setCells _ _
 have hcl : ∀ ty, (Builtin.clear_ #[93] ty #[.slice (some ⟨g, (k + (n - (k + 1))) * 9, none⟩) (n - (k + (n - (k + 1)))) (cap - (k + (n - (k + 1))))]).run Tryz.prog W1 = .ok (.tuple #[]) (W1.setCells g ((k + (n - (k + 1))) * 9) (Builtin.zeroCells #[.int .i64 0, .int .i64 0, .int .i64 0, .int .i64 0, .int .i64 0, .int .i64 0, .int .i64 0, .int .i64 0, .int .i64 0] (n - (k + (n - (k + 1))))).toList) :=
  fun ty => run_clear_row W1 _ _ ty _ Tryz.underlying93 zeroMail (by simp [Value.cells, Value.oneCell']) g _ _ _ (by omega) (fun j hj => by
   rw [hB1.cell, Array.getElem?_eq_getElem (by rw [splice_size, hcs]; simp [Value.cells] at hj; omega)]; rfl) (fun j _ => hB1.frozen _)
 have HW := Lib.hid hW1
 have HB1 := Lib.hid hB1
 have hkc : k ≤ cap := by omega
 have hkc1 : k + 1 ≤ cap := by omega
 have e1 : IntKind.i64.wrap ((k : Int) + 1) = (k : Int) + 1 := by rw [IntKind.wrap_i64]; omega
 have hne : ((k : Int) == (k : Int) + 1) = false := by rw [beq_eq_false_iff_ne]; omega
 have HX := Lib.hid htake
 have HN := Lib.hid hnews
 have HL := Lib.hid hlen
 have HCS := Lib.hid hcs
 clear hget hB hB1 hW1 hnl hnews h h1 hg htake hlen hcs
 go_enter Tryz.func98, Tryz.ntmps98
 have hp0 : (0 : Int) ≤ (k : Int) + 1 := by omega
 have hp1 : (k : Int) + 1 ≤ (n : Int) := by omega
 have hp2 : ((k : Int) + 1).toNat = k + 1 := by omega
 have hp3 : (k : Int) ≤ (cap : Int) := by omega
 go_wp2_with fail
 go_region_law (refine step_append_room rfl (.tmp 22) (.tmp 25) 93 rfl 167 i0 9 Tryz.underlying93 hi0 hz1 g 0 k cap (by simp [Act.eval, Act.put]) A (n - (k + 1)) (cap - (k + 1)) news (by simp [Act.eval, Act.put]) s1.out hsrc.out s2.out (by omega) s3.out ?_; rw [← HW.out])
 go_wp2
 go_ret
 refine ⟨.slice (some ⟨g, 0, none⟩) (k + (n - (k + 1))) cap, rfl, ⟨?_, .inr ⟨g, cap, splice (splice cur (0 + k * 9) news) ((k + (n - (k + 1))) * 9) (Builtin.zeroCells #[.int .i64 0, .int .i64 0, .int .i64 0, .int .i64 0, .int .i64 0, .int .i64 0, .int .i64 0, .int .i64 0, .int .i64 0] (n - (k + (n - (k + 1))))).toList, by rw [show k + (n - (k + 1)) = n - 1 by omega], hbg, HB1.out.setCells _ _, by omega, by simp only [maxLen]; omega, ?_, ?_⟩⟩, ?_, rfl⟩
 ·simp only [cutAt, List.length_append, List.length_take, List.length_drop, HL.out]; omega
 ·rw [splice_size, splice_size]; exact HCS.out
 ·exact delete_cells cur xs news _ n k 9 HX.out HL.out (by omega) HN.out (by simp [Builtin.zeroCells]; omega) (by rw [HCS.out]; omega)
 ·have hS : (fun k => some k = (Value.slice (some ⟨g, 0, none⟩) n cap).ownBlock) g ∨ w.heap.size ≤ g := .inl rfl
  refine Chg.setCells hS _ _ ?_
  rw [HW.out]
  exact Chg.setCells hS _ _ (Chg.refl _ w).drew
end Go.Proofs.YthndpiopbdecfaaGreatDoor
