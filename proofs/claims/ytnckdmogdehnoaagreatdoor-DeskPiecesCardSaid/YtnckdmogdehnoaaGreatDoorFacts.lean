/- The closed facts of the row, one theorem each (for the kernel's memory), and joined. Written by a program. -/
import Derived.Test.YtnckdmogdehnoaaGreatDoorRows
import Derived.JoinedOf
import Derived.KernelRfl
namespace Go.Proofs.YtnckdmogdehnoaaGreatDoor
set_option linter.unusedVariables false
set_option maxRecDepth 100000
noncomputable abbrev P_ := Tryz.prog
noncomputable abbrev F_ := Tryz.f3
noncomputable abbrev C_ := Rows.deskPiecesRow
noncomputable abbrev S_ := Rows.deskPiecesSpec
theorem andT {a b : Bool} (h : a = true) (k : b = true) : (a && b) = true := by rw [h, k]; rfl
theorem f_0 : (C_.wf (OpenSpec.ofChange S_)) = true := by kernel_rfl
theorem f_1 : (laidOutB P_) = true := by kernel_rfl
theorem f_2 : (mapsRowed P_) = true := by kernel_rfl
theorem f_3 : (F_.params.all (P_.readableRec ·)) = true := by kernel_rfl
theorem f_4 : (namedTie P_ C_.named S_.vars) = true := by kernel_rfl
theorem f_5 : ((C_.stops == [])) = true := by kernel_rfl
theorem f_6 : ((P_.stops == [])) = true := by kernel_rfl
theorem f_7 : ((C_.knobs == [])) = true := by kernel_rfl
theorem f_8 : ((P_.stopKnobs == [])) = true := by kernel_rfl
theorem f_9 : ((C_.inPlace == P_.inPlace 3)) = true := by kernel_rfl
theorem f_10 : ((C_.unfollowed == P_.unfollowed 3)) = true := by kernel_rfl
theorem f_11 : ((C_.recurses == P_.recurses 3)) = true := by kernel_rfl
theorem f_12 : ((C_.named == P_.varsNamed 3)) = true := by kernel_rfl
theorem f_13 : ((C_.maps == (F_.params.toList ++ S_.plain.varTypes P_).any (P_.mapsRec ·))) = true := by kernel_rfl
theorem f_14 : ((C_.ifaces == (F_.params.toList ++ S_.plain.varTypes P_).any (P_.ifacesRec ·))) = true := by kernel_rfl
theorem f_15 : ((C_.mapsOut == P_.mapsAmong F_.resultTypes.toList)) = true := by kernel_rfl
theorem f_16 : ((C_.loops == (F_.params.toList ++ S_.plain.varTypes P_).any (P_.loopsFrom ·))) = true := by kernel_rfl
theorem f_17 : ((C_.wideKeys == (F_.params.toList ++ S_.plain.varTypes P_ ++ F_.resultTypes.toList).any (P_.wideKeysFrom ·))) = true := by kernel_rfl
theorem f_18 : (S_.vars.all (P_.varReadable ·)) = true := by kernel_rfl
theorem f_19 : (F_.resultTypes.all (fun t => P_.readableRec t && decide (t < P_.types.size))) = true := by kernel_rfl
theorem f_20 : ((C_.ifacesOut == F_.resultTypes.toList.any (P_.ifacesRec ·))) = true := by kernel_rfl
theorem f_21 : ((C_.loopsOut == F_.resultTypes.toList.any (P_.loopsFrom ·))) = true := by kernel_rfl
theorem f_22 : ((C_.plainKeys == P_.plainKeys)) = true := by kernel_rfl
theorem f_23 : (C_.shortTexts.isNone) = true := by kernel_rfl
theorem f_24 : (P_.stopsHeard) = true := by kernel_rfl
theorem f_25 : (P_.mayEnter) = true := by kernel_rfl
theorem f_26 : ((C_.lifted == P_.liftsFinal)) = true := by kernel_rfl
theorem f_27 : ((P_.make == some C_.make)) = true := by kernel_rfl
theorem f_28 : ((C_.kinds == (if C_.domain.isEmpty then [] else F_.params.toList.map fun t => match P_.underlying t with | some (.int k) => some k | _ => none))) = true := by kernel_rfl
theorem f_29 : ((C_.pinned == C_.pinnedBy)) = true := by kernel_rfl
theorem f_30 : ((C_.veiled == (F_.params.toList ++ S_.plain.varTypes P_ ++ F_.resultTypes.toList).any (P_.veiledRec ·))) = true := by kernel_rfl
theorem f_31 : (C_.veiledFits P_ F_.params.toList (F_.params.toList ++ S_.plain.varTypes P_ ++ F_.resultTypes.toList)) = true := by kernel_rfl
theorem deskPieces_joined : joinedFacts Tryz.prog 3 Tryz.f3 Rows.deskPiecesSpec Rows.deskPiecesRow = true := by
 unfold joinedFacts
 refine andT ?_ f_31
 refine andT ?_ f_30
 refine andT ?_ f_29
 refine andT ?_ f_28
 refine andT ?_ f_27
 refine andT ?_ f_26
 refine andT ?_ f_25
 refine andT ?_ f_24
 refine andT ?_ f_23
 refine andT ?_ f_22
 refine andT ?_ f_21
 refine andT ?_ f_20
 refine andT ?_ f_19
 refine andT ?_ f_18
 refine andT ?_ f_17
 refine andT ?_ f_16
 refine andT ?_ f_15
 refine andT ?_ f_14
 refine andT ?_ f_13
 refine andT ?_ f_12
 refine andT ?_ f_11
 refine andT ?_ f_10
 refine andT ?_ f_9
 refine andT ?_ f_8
 refine andT ?_ f_7
 refine andT ?_ f_6
 refine andT ?_ f_5
 refine andT ?_ f_4
 refine andT ?_ f_3
 refine andT ?_ f_2
 refine andT ?_ f_1
 exact f_0
end Go.Proofs.YtnckdmogdehnoaaGreatDoor
