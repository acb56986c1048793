/- Part of the proof that a desk answers in pieces. -/
import Derived.Test.YtnckdmogdehnoaaGreatDoorPA
import Derived.Test.YtnckdmogdehnoaaGreatDoorPDskW
import Derived.Test.YtnckdmogdehnoaaGreatDoorTxt2
import Derived.Shelf.Strings.Prefix
import Derived.Shelf.Strings.Replace
import Derived.Test.YtnckdmogdehnoaaGreatDoorPSeeB
import Derived.Test.YtnckdmogdehnoaaGreatDoorPCycLaw
import Derived.Test.YtnckdmogdehnoaaGreatDoorPSeeD
import Derived.Test.YtnckdmogdehnoaaGreatDoorPSxS
import Derived.Test.YtnckdmogdehnoaaGreatDoorPDskR
set_option maxRecDepth 8000
set_option maxHeartbeats 2000000
set_option linter.unusedVariables false
set_option linter.unusedSimpArgs false
namespace Go.Proofs.YtnckdmogdehnoaaGreatDoor
open Tryz
open Go.RowKit
variable {w : World}
theorem extra155 : Builder.Extra prog Tryz.laysM155_ren := ⟨⟨by kernel_rfl, by kernel_rfl⟩, underlying5, isAgg5, sizeOf5, zeroValue5, by kernel_rfl, by kernel_rfl, by kernel_rfl, by decide⟩
theorem trimS_any (l p : List UInt8) (hl : l.length ≤ 100000) (w : World) :
  Cq 14 #[strV l, strV p] w fun e w' => e = .returned (strV (Lib.trimSuffix l p)) ∧ w' = w :=
 (Any.strings_TrimSuffix lays102 ⟨l.toArray⟩ ⟨p.toArray⟩ w (by rw [str_size]; omega)).mono fun e w' h => h
theorem replS_any (l new : List UInt8) (hl : l.length ≤ 100000) (hn : new.length ≤ 1000) (w : World) (hM : MaxOk w) :
  Cq 63 #[strV l, strV [10], strV new] w fun e w' => e = .returned (strV (Lib.replaceAll l [10] new)) ∧ Pure w w' := by
 obtain ⟨m, hm⟩ := hM
 have hc := splitL_count l
 have hs := splitL_len l
 have h1 : (⟨l.toArray⟩ : ByteArray).size = l.length := str_size _
 have h2 : (⟨new.toArray⟩ : ByteArray).size = new.length := str_size _
 refine (Any.strings_ReplaceAll { laysM155 with } extra155 ⟨l.toArray⟩ ⟨#[10]⟩ ⟨new.toArray⟩ m w (by omega) hm (by decide) ?_).mono fun e w' h => ⟨h.1, h.2⟩
 rw [h1, h2]
 have h3 : Lib.countB ⟨l.toArray⟩ ⟨#[10]⟩ ≤ 100000 := by omega
 have := Nat.mul_le_mul h3 hn
 omega
theorem runE_all : ∀ (l : List Ev) (i : Nat) (s s' : SeeS), runE l i s = some s' → l.all evOkB = true
 | [], _, _, _, _ => rfl
 | e :: r, i, s, s', h => by
  rw [runE] at h
  cases hs : stepE e i s with
  | none => rw [hs] at h; cases h
  | some s1 =>
   rw [hs] at h
   have hr := runE_all r (i + 1) s1 s' h
   rw [List.all_cons, hr, Bool.and_true]
   unfold stepE at hs
   split at hs
   ·assumption
   cases hs
theorem evF_evT {l : List Ev} {os : List Op8} (h : evF l = some os) : evT l = some (textE l) := by
 unfold evF at h
 split at h
 ·next hl =>
  cases hr : runE l 0 initE with
  | none => rw [hr] at h; cases h
  | some s' => exact if_pos ⟨hl, runE_all l 0 initE s' hr⟩
 cases h
def listF (s : Ses) : Except Int (List UInt8 × Ses) := .ok (Lib.replaceAll (Lib.trimSuffix (textE s.evs) [10]) [10] [59, 32], s)
theorem trim_len (l p : List UInt8) : (Lib.trimSuffix l p).length ≤ l.length := by
 unfold Lib.trimSuffix
 split
 ·simp
 exact Nat.le_refl _
theorem list_any (w0 w : World) (b : Nat) (s : Ses) (H : List Ent) (v : Value) (hs : SesOk s) (hI : SesI w0 w b s H) (hG : TxG w0) (hM : MaxOk w0) (hl : (textE s.evs).length ≤ 100000) :
  Cq 32 #[.pointer (some ⟨b, 0, none⟩), v] w (MethQ (listF s) s w0 b H) := by
 obtain ⟨A1, c1, A2, c2, hI⟩ := hI
 obtain ⟨os, hos⟩ := hs.op
 have hev := evF_evT hos
 have htl := trim_len (textE s.evs) [10]
 have hR1 := hI.win0 1 rfl
 replace hI : Inv NF w0 w (B b 29 #[.slice A1 s.evs.length c1, .slice A2 s.sts.length c2] :: Win 167 7 A1 s.evs.length c1 (s.evs.flatMap evL) :: Win 114 3 A2 s.sts.length c2 (s.sts.flatMap stV) :: H) := hI
 unfold listF
 refine Vm func32 Z (Wq (T5 Z (Wn (Wq (T1 Z (Tj Z (V8 0 Z (V6 (.slice _ _ _) Z (hI.c0 Z) (Vd [.slice _ _ _] Z func62 Z ((text_any A1 s.evs.length c1 s.evs _ _ hR1 (hG.pure hI.pu)).mono ?_))))))))))
 rw [hev]
 rintro e w1 ⟨hp1, rfl⟩
 refine rV ?_
 have hI := hI.pure hp1
 refine T4 Z (Vj Z (Vj Z (T5 Z (Vw Z (Wn (Wq (Td Z (Vd [_] Z func54 Z ((chkE_nil _).mono ?_)))))))))
 rintro e w2 ⟨rfl, rfl⟩
 refine rV (Wn ?_)
 generalize textE s.evs = t at *
 refine Wq (Ta Z (Vd [.string _, .string _] Z func14 Z ((trimS_any t [10] hl _).mono ?_)))
 rintro e w2 ⟨rfl, rfl⟩
 exact rV (Vd [.string _, .string _, .string _] Z func63 Z ((replS_any (Lib.trimSuffix t [10]) [59, 32] (by omega) (by decide) _ (hM.pure hI.pu)).mono (okP hI fun w1 hp1 hI => T5 Z (Wn (WR (r1_ 4 Z (MethQ.good (A1 := A1) (c1 := c1) (A2 := A2) (c2 := c2) Z hI)))))))
theorem rIfaceEqN {P : Program} {ρ : Env} {o : Oper} {x y : Operand} {t t' T : TypeId} {u : Value} {ms : Array (String × TypeId)} (ho : o.op = .binOp .eql t x y t') (ht : P.underlying t = some (.interface ms)) (hx : ev ρ x = .nilIface) (hy : ev ρ y = .iface T u) : Runs P ρ o w (.bool false) := by
 have h := run_equal (P := P) (w := w) (t := t) (x := .nilIface) (y := .iface T u) (r := false) (fun d => by simp [Op.equalIn, run_underlying ht])
 simp [Runs, execOp, ho, hx, hy, eqGuard, binOp, h]
theorem x_comp (w : World) : (callMethod (.iface 132 (.agg #[hdl 49])) "Comparable" #[]).run prog w = .ok (.value (.bool true)) w := by kernel_rfl
theorem rEqCyc {ρ : Env} {o : Oper} {x y : Operand} (ho : o.op = .binOp .eql 37 x y 37) (hx : ev ρ x = .iface 49 (.int .i64 11)) (hy : ev ρ y = .iface 49 (.int .i64 11)) : Runs prog ρ o w (.bool true) := by
 have h : (Op.equal 37 (.iface 49 (.int .i64 11)) (.iface 49 (.int .i64 11))).run prog w = .ok true w := by kernel_rfl
 simp [Runs, execOp, ho, hx, hy, eqGuard, binOp, h]
theorem is_nil (n : Int) (w : World) : Cq 60 #[.nilIface, .iface 49 (.int .i64 n)] w fun e w' => e = .returned (.bool false) ∧ w' = w := by
 exact Vm func60 Z (Wq (Vc Z (Wn (Ws (Wq (Td Z (Wv Z (by exact rNilEq rfl yy37 rfl) (V7 Z (V5 Z (V5 Z (Vk Z (Yt Z (Wq (Td Z (Vy Z (Wv Z (rIfaceEqN Z yy37 Z Z) (Vc Z (Wn (WR (r1_ 4 Z ⟨Z, Z⟩))))))))))))))))))))
theorem is1_same (w : World) : Cq 100 #[.iface 49 (.int .i64 11), .iface 49 (.int .i64 11), .bool true] w fun e w' => e = .returned (.bool true) ∧ w' = w := by
 refine Vm func100 rfl ?_
 refine Wq (Vc rfl (Wn (Wb ?_)))
 refine W_loop (fun ρ w' => w' = w ∧ Has ρ [(0, .iface 49 (.int .i64 11)), (1, .iface 49 (.int .i64 11)), (2, .bool true)]) (fun _ _ => 0) ⟨rfl, rfl, rfl, rfl, trivial⟩ ?_
 rintro ρ w' ⟨rfl, hH⟩
 obtain ⟨σ, rfl⟩ := hH.open
 refine Wb (Ws (Wq (V7 rfl (V7 rfl (Vy rfl (Vy rfl ?_))))))
 refine Wv rfl (rEqCyc rfl rfl rfl) ?_
 refine Vk rfl (Wn (Wc true rfl (Wq (Vc rfl (Wn ?_)))))
 exact WR (r1_ 6 rfl ⟨rfl, rfl⟩)
theorem is_same (w : World) : Cq 60 #[.iface 49 (.int .i64 11), .iface 49 (.int .i64 11)] w fun e w' => e = .returned (.bool true) ∧ w' = w := by
 refine Vm func60 Z (Wq (Vc Z (Wn (Ws (Wq (Vy Z (Wv Z (by exact rIfaceEq rfl yy37 rfl rfl) (V7 Z (Vy Z (Wv Z (by exact rIfaceEq rfl yy37 rfl rfl) (Vi Z (Yf Z (Wk (Wq (Vy Z (Wv Z (rExt (vs := [.iface _ _]) Z Z (x_typeOf _ _)) (Wv Z (rExtI Z Z Z (x_comp _)) (Vc Z (Wn (Wq (Vy Z (Vy Z (V7 Z (Vd [_, _, .bool _] Z func100 Z ((is1_same _).mono ?_)))))))))))))))))))))))))
 rintro e w1 ⟨rfl, rfl⟩
 exact rV (Vc Z (Wn (WR (r1_ 4 Z ⟨Z, Z⟩))))
theorem cycTo_len (n : Nat) (f : Nat → Nat → Bool) (b l : Nat) : ∀ k, (cycTo n f b l k).length ≤ k + 1
 | 0 => by simp [cycTo]
 | k + 1 => by
  have := cycTo_len n f b l k
  rw [cycTo]
  split
  ·simp; omega
  omega
theorem cyc_len {f : Nat → Nat → Bool} {cl : List Nat} (h : cycF 8 f = some cl) : cl.length ≤ 8 := by
 unfold cycF at h
 obtain ⟨⟨b, l⟩, hb, rfl⟩ := Option.map_eq_some_iff.1 h
 obtain ⟨h1, h2, h3⟩ := bestTo_some hb
 have h4 := roads_le (n := 8) (f := f) (first := b) (by omega) b
 have h5 := cycTo_len 8 f b l (l - 1)
 show (cycTo 8 f b l (l - 1)).length ≤ 8
 omega
theorem natV_ints (l : List Nat) : natV l = (l.map Int.ofNat).map (Value.int .i64) := by
 rw [List.map_map]; rfl
theorem in64_nat {l : List Nat} (h : ∀ v ∈ l, v < 8) : in64 (l.map Int.ofNat) := fun x hx => by
 obtain ⟨v, hv, rfl⟩ := List.mem_map.1 hx
 have := h v hv
 simp
 omega
theorem ints_own {A : Option Addr} {c : Nat} {cl : List Nat} (hrow : w.ownsRow 0 3 1 (.slice A cl.length c) cl.length (natV cl)) : Ints w (fun _ => True) (.slice A cl.length c) (cl.map Int.ofNat) := by
 have h := Rd.of_own (D := fun _ => True) hrow (fun _ _ _ => trivial)
 unfold Ints
 rw [natV_ints] at h
 rw [List.length_map]
 exact h
def orderW : List UInt8 := [111, 114, 100, 101, 114]
def roundW : List UInt8 := [114, 111, 117, 110, 100]
def clashesF (s : Ses) : Except Int (List UInt8 × Ses) := match orderF 8 (graphF s.sts) with
 | some od => .ok (toldT orderW ((od.filter (inC s.sts)).map Int.ofNat), s)
 | none => match cycF 8 (graphF s.sts) with
  | some cl => .ok (toldT roundW (cl.map Int.ofNat), s)
  | none => .error 0
theorem clashesM_any (w0 w : World) (b : Nat) (s : Ses) (H : List Ent) (v : Value) (hs : SesOk s) (hI : SesI w0 w b s H) (hG : TxG w0) :
  Cq 30 #[.pointer (some ⟨b, 0, none⟩), v] w (MethQ (clashesF s) s w0 b H) := by
 obtain ⟨A1, c1, A2, c2, hI⟩ := hI
 have hR2 : Sts w (fun _ => True) (.slice A2 s.sts.length c2) s.sts := hI.win0 2 rfl
 have hf : clashesF s = match orderF 8 (graphF s.sts) with
  | some od => .ok (toldT orderW ((od.filter (inC s.sts)).map Int.ofNat), s)
  | none => match cycF 8 (graphF s.sts) with
   | some cl => .ok (toldT roundW (cl.map Int.ofNat), s)
   | none => .error 0 := rfl
 replace hI : Inv NF w0 w (B b 29 #[.slice A1 s.evs.length c1, .slice A2 s.sts.length c2] :: Win 167 7 A1 s.evs.length c1 (s.evs.flatMap evL) :: Win 114 3 A2 s.sts.length c2 (s.sts.flatMap stV) :: H) := hI
 refine Vm func30 Z (Wq (T5 Z (Wn ?_)))
 cases ho : orderF 8 (graphF s.sts) with
 | some od =>
  rw [ho] at hf
  dsimp only at hf
  have hspec := orderTo_spec 8 od ho
  have hlt : ∀ v ∈ od.filter (inC s.sts), v < 8 := fun v hv => hspec.2.2.1 v (List.mem_filter.1 hv).1
  have hll : (od.filter (inC s.sts)).length ≤ 8 := Nat.le_trans (List.length_filter_le _ _) (by rw [hspec.1]; exact Nat.le_refl _)
  have h64 := in64_nat hlt
  have hc := clashesOk_any A2 s.sts.length c2 s.sts (fun _ => True) w hR2 (hG.pure hI.pu).err hs.st od ho
  generalize od.filter (inC s.sts) = q at *
  refine Wq (T1 Z (Tj Z (V8 1 Z (V6 (.slice _ _ _) Z (hI.c0 Z) (Vd [.slice _ _ _] Z func59 Z (hc.mono ?_))))))
  rintro e w1 ⟨⟨OA, oc, rfl, hQ⟩, hp1⟩
  refine rV ?_
  have hI := hI.pure hp1
  refine T4 Z (Vj Z (Vj Z (Vj Z (Vg Z (Vg Z (Vw Z (Wn (Ws (Wq (Td Z (T0 Z yy49 Z (Vd [_, _] Z func60 Z ((is_nil 11 _).mono ?_)))))))))))))
  rintro e w2 ⟨rfl, rfl⟩
  refine rV (Yf Z (Wk (Wq (Td Z (Vd [_] Z func54 Z ((chkE_nil _).mono ?_))))))
  rintro e w2 ⟨rfl, rfl⟩
  exact rV (Wn (Wq (Va Z (Vd [.string _, .slice _ _ _] Z func61 Z ((tolds_any orderW (by decide) OA _ oc (q.map Int.ofNat) _ _ hQ (by simp) (by simp; omega) h64 (hG.pure hI.pu)).mono (okP hI fun w2 hp2 hI => T5 Z (Wn (WR (r1_ 4 Z (MethQ.good (A1 := A1) (c1 := c1) (A2 := A2) (c2 := c2) hf hI))))))))))
 | none =>
  rw [ho] at hf
  dsimp only at hf
  have hc := clashesCyc_any A2 s.sts.length c2 s.sts (fun _ => True) w hR2 (hG.pure hI.pu).err hs.st ho
  refine Wq (T1 Z (Tj Z (V8 1 Z (V6 (.slice _ _ _) Z (hI.c0 Z) (Vd [.slice _ _ _] Z func59 Z (hc.mono ?_))))))
  rintro e w1 ⟨⟨cl, Ac, cc, hcy, rfl, hCL, hrow⟩, hp1⟩
  refine rV ?_
  have hI := hI.pure hp1
  refine T4 Z (Vj Z (Vj Z (Vj Z (Vg Z (Vg Z (Vt Z (Wn ?_)))))))
  rw [hcy] at hf
  dsimp only at hf
  have hQ := ints_own hrow
  have hll := cyc_len hcy
  have h64 := in64_nat hCL.2.1
  refine Ws (Wq (Vy Z (T0 Z yy49 Z (Vd [_, _] Z func60 Z ((is_same _).mono ?_)))))
  rintro e w2 ⟨rfl, rfl⟩
  exact rV (Yt Z (Wq (Va Z (Vd [.string _, .slice _ _ _] Z func61 Z ((tolds_any roundW (by decide) Ac _ cc (cl.map Int.ofNat) _ _ hQ (by simp) (by simp; omega) h64 (hG.pure hI.pu)).mono (okP hI fun w2 hp2 hI => T5 Z (Wn (WR (r1_ 4 Z (MethQ.good (A1 := A1) (c1 := c1) (A2 := A2) (c2 := c2) hf hI))))))))))
def carW : List UInt8 := [99, 97, 114, 101, 102, 117, 108]
def carS : List UInt8 := [114, 101, 99, 111, 118, 101, 114, 32, 99, 108, 101, 97, 110, 32, 115, 116, 114, 105, 99, 116]
def carWs : List (List UInt8) := [[114, 101, 99, 111, 118, 101, 114], [99, 108, 101, 97, 110], [115, 116, 114, 105, 99, 116]]
theorem carS_fields : Lib.fields carS = carWs := by decide +kernel
theorem carS_ascii : ∀ (j : Nat) b, carS[j]? = some b → b.toNat < 128 := fun j b h => by
 have hm := gM_ h
 have : ∀ b ∈ carS, b.toNat < 128 := by decide
 exact this b hm
def carT (bs : List Bool) : Nat → List UInt8
 | 0 => carW
 | k + 1 => if bs.getD k false = true then carT bs k ++ ([32] ++ carWs.getD k []) else carT bs k
theorem carT_len (bs : List Bool) : ∀ k, k ≤ 3 → (carT bs k).length ≤ 7 + 8 * k
 | 0, _ => by simp [carT, carW]
 | k + 1, h => by
  have := carT_len bs k (by omega)
  have hw : (carWs.getD k []).length ≤ 7 := by
   have : k = 0 ∨ k = 1 ∨ k = 2 := by omega
   rcases this with rfl | rfl | rfl <;> decide
  rw [carT]
  split
  ·simp only [List.length_append, List.length_singleton]; omega
  omega
def carefulF (s : Ses) : Except Int (List UInt8 × Ses) :=
 .ok (carT [(carTo s.sts s.sts.length).1, (carTo s.sts s.sts.length).2.1, (carTo s.sts s.sts.length).2.2] 3, s)
theorem carefulM_any (w0 w : World) (b : Nat) (s : Ses) (H : List Ent) (v : Value) (hs : SesOk s) (hI : SesI w0 w b s H) (hG : TxG w0) :
  Cq 27 #[.pointer (some ⟨b, 0, none⟩), v] w (MethQ (carefulF s) s w0 b H) := by
 obtain ⟨A1, c1, A2, c2, hI⟩ := hI
 have hR2 : Sts w (fun _ => True) (.slice A2 s.sts.length c2) s.sts := hI.win0 2 rfl
 have hc := careful_any A2 s.sts.length c2 s.sts (fun _ => True) w hR2 (hG.pure hI.pu).err
 replace hI : Inv NF w0 w (B b 29 #[.slice A1 s.evs.length c1, .slice A2 s.sts.length c2] :: Win 167 7 A1 s.evs.length c1 (s.evs.flatMap evL) :: Win 114 3 A2 s.sts.length c2 (s.sts.flatMap stV) :: H) := hI
 unfold carefulF
 unfold CarefulPost at hc
 generalize (carTo s.sts s.sts.length).1 = x0 at *
 generalize (carTo s.sts s.sts.length).2.1 = x1 at *
 generalize (carTo s.sts s.sts.length).2.2 = x2 at *
 refine Vm func27 Z (Wq (T5 Z (Wn (Wq (T1 Z (Tj Z (V8 1 Z (V6 (.slice _ _ _) Z (hI.c0 Z) (Vd [.slice _ _ _] Z func53 Z (hc.mono ?_))))))))))
 rintro e w1 ⟨⟨-, rfl⟩ | ⟨hno, -⟩, hp1⟩
 rotate_left
 ·exact absurd hs.st hno
 refine rV ?_
 have hI := hI.pure hp1
 refine T4 Z (Vj Z (Vj Z (Vz (.agg #[.bool false, .bool false, .bool false]) (#[.bool false, .bool false, .bool false]) hI Z ?_)))
 rintro b5 w - - hI
 refine T2 3 (#[_, _, _]) (.agg _) hI Z ?_
 intro w hI
 refine Vw Z (Wn (Wq (Td Z (Vd [_] Z func54 Z ((chkE_nil _).mono ?_)))))
 rintro e w2 ⟨rfl, rfl⟩
 refine rV (Wn (Wq (T5 Z (Wn (Wx (fun ρ w => Has ρ [(7, strV (carT [x0, x1, x2] 3))] ∧ Inv NF w0 w (SesE b A1 c1 A2 c2 s ++ H)) ?_ ?_)))))
 ·refine Wq (V8 0 Z (V6 (.bool _) Z (hI.c0 Z) (V8 1 Z (V6 (.bool _) Z (hI.c0 Z) (V8 2 Z (V6 (.bool _) Z (hI.c0 Z) (T3 [(0, .bool _), (1, .bool _), (2, .bool _)] [_, _, _] [.bool false, .bool false, .bool false] [0, 1, 2] hI Z yy91 (fun _ => by kernel_rfl) ?_)))))))
  rintro b26 w - - hI
  refine Vo Z yy91 Z (V0 Z (Wn (Wb ?_)))
  refine Wl (fun mu ρ w => ∃ k : Nat, mu = 3 - k ∧ k ≤ 3 ∧ Has ρ [(28, Y (k : Int)), (27, Y 3), (26, .slice (some ⟨b26, 0, none⟩) 3 3), (7, strV (carT [x0, x1, x2] k))] ∧ Inv NF w0 w (B b26 4 #[.bool x0, .bool x1, .bool x2] :: (SesE b A1 c1 A2 c2 s ++ H))) 3
   ⟨0, rfl, by omega, ⟨rfl, rfl, rfl, rfl, trivial⟩, hI.d1⟩ ?_
  clear hI
  rintro mu ρ w ⟨k, rfl, hk, hH, hI⟩
  obtain ⟨σ, rfl⟩ := hH.open
  by_cases hk3 : k < 3
  rotate_left
  ·obtain rfl : k = 3 := by omega
   exact Wq (Vr Z (Yg Z (WE ⟨g1_, hI.d0⟩)))
  have hlen := carT_len [x0, x1, x2] k hk
  have hcT : carT [x0, x1, x2] (k + 1) = if [x0, x1, x2].getD k false = true then carT [x0, x1, x2] k ++ ([32] ++ carWs.getD k []) else carT [x0, x1, x2] k := rfl
  have hcell : w.cell? ⟨b26, k, none⟩ = some (.bool ([x0, x1, x2].getD k false)) := by
   rw [(show Blk w b26 4 #[.bool x0, .bool x1, .bool x2] from hI.g0).cell]
   have : k = 0 ∨ k = 1 ∨ k = 2 := by omega
   rcases this with rfl | rfl | rfl <;> rfl
  have hw : (carWs.map strV)[k]? = some (strV (carWs.getD k [])) := by
   have : k = 0 ∨ k = 1 ∨ k = 2 := by omega
   rcases this with rfl | rfl | rfl <;> rfl
  have hwl : (carWs.getD k []).length ≤ 7 := by
   have : k = 0 ∨ k = 1 ∨ k = 2 := by omega
   rcases this with rfl | rfl | rfl <;> decide
  generalize carWs.getD k [] = cw at hcT hw hwl
  generalize [x0, x1, x2].getD k false = xb at hcT hcell
  generalize hct : carT [x0, x1, x2] k = ct at hcT hlen
  refine Wq (Vu Z (Yu Z (Wk (Ws (Wb (Wq (V0 Z (T6 Z yy91 Z (V6 (.bool _) Z hcell (Vb Z (Vc Z (Wn ?_))))))))))))
  cases xb with
  | false =>
   rw [if_neg (by decide)] at hcT
   exact Wq (V7 Z (Yf Z (Wk (Wr (Vl Z (V0 Z (Wn ⟨3 - (k + 1), by omega, k + 1, rfl, by omega, ⟨rfl, rfl, rfl, by rw [hcT]; rfl, trivial⟩, hI⟩)))))))
  | true =>
   rw [if_pos rfl] at hcT
   refine Wq (V7 Z (Yt Z ?_))
   have hc3 : carWs.length = 3 := rfl
   have hb1 : ([32] : List UInt8).length + cw.length ≤ 9223372036854775807 := by simp; omega
   have hb2 : ct.length + ([32] ++ cw).length ≤ 9223372036854775807 := by simp; omega
   refine Wr (Ta Z (Vd [.string _] Z func42 Z ((fields_any carS carWs carS_fields (by decide) carS_ascii _ (hG.pure hI.pu)).mono ?_)))
   rintro e w1 ⟨gf, rfl, hJ⟩
   have hfc : w1.cell? ⟨gf, k, none⟩ = some (strV cw) := by
    rw [(show Blk w1 gf 9 (carWs.map strV).toArray from hJ.g0).cell]
    simpa using hw
   refine rV ?_
   have hI := hI.pure hJ.pu
   exact V0 Z (T6 Z yy42 Z (V6 (.string _) Z hfc (Wv Z (rStrAdd Z Z Z (by omega)) (Wv Z (rStrAdd Z Z Z (by omega)) (T5 Z (Wn (Wr (Vl Z (V0 Z (Wn ⟨3 - (k + 1), by omega, k + 1, rfl, by omega, ⟨rfl, rfl, rfl, by rw [hcT]; rfl, trivial⟩, hI⟩))))))))))
 clear hI
 rintro ρ w ⟨hH, hI⟩
 obtain ⟨σ, rfl⟩ := hH.open
 exact Wq (Ta Z (T5 Z (Wn (WR (r1_ 4 Z (MethQ.good (A1 := A1) (c1 := c1) (A2 := A2) (c2 := c2) Z hI))))))
theorem tryF_in (d : List St) (all : List Nat) (stp : Nat → List Nat) (want : Nat → Int) : ∀ (n : Nat) (order places : List Nat) (q : List Nat), tryF d all stp want n order places = some q → q.length = order.length + n ∧ ∀ v ∈ q, v ∈ order ∨ v ∈ all
 | 0, order, places, q, h => by
  rw [tryF] at h
  split at h
  ·injection h with h; subst h; exact ⟨rfl, fun v hv => .inl hv⟩
  cases h
 | n + 1, order, places, q, h => by
  rw [tryF] at h
  obtain ⟨tx, htx, h2⟩ := List.exists_of_findSome?_eq_some h
  split at h2
  ·cases h2
  obtain ⟨h3, h4⟩ := tryF_in d all stp want n (order ++ [tx]) (places ++ stp tx) q h2
  refine ⟨by rw [h3]; simp; omega, fun v hv => ?_⟩
  rcases h4 v hv with h5 | h5
  ·rcases List.mem_append.1 h5 with h6 | h6
   ·exact .inl h6
   rw [List.mem_singleton.1 h6]; exact .inr htx
  exact .inr h5
theorem sees_in {l : List St} {q : List Nat} (h : seesF l = .ok q) : q.length ≤ 8 ∧ ∀ v ∈ q, v < 8 := by
 unfold seesF at h
 split at h
 ·cases h
 next h6 =>
 split at h
 ·injection h with h; subst h; simp
 split at h
 ·next q' hq =>
  injection h with h; subst h
  obtain ⟨h1, h2⟩ := tryF_in _ _ _ _ _ _ _ _ hq
  refine ⟨by simp at h1; omega, fun v hv => ?_⟩
  rcases h2 v hv with h3 | h3
  ·cases h3
  exact List.mem_range.1 (List.mem_filter.1 h3).1
 cases h
def seesT (s : Ses) : Except Int (List UInt8 × Ses) := match seesF s.sts with
 | .ok q => .ok (toldT orderW (q.map Int.ofNat), s)
 | .error z => .error z
theorem seesM_any (w0 w : World) (b : Nat) (s : Ses) (H : List Ent) (v : Value) (hs : SesOk s) (hI : SesI w0 w b s H) (hG : TxG w0) :
  Cq 38 #[.pointer (some ⟨b, 0, none⟩), v] w (MethQ (seesT s) s w0 b H) := by
 obtain ⟨A1, c1, A2, c2, hI⟩ := hI
 have hR2 : Sts w (fun _ => True) (.slice A2 s.sts.length c2) s.sts := hI.win0 2 rfl
 have hf : seesT s = match seesF s.sts with
  | .ok q => .ok (toldT orderW (q.map Int.ofNat), s)
  | .error z => .error z := rfl
 have hc := seesN_any A2 s.sts.length c2 s.sts (fun _ => True) w hR2 (hG.pure hI.pu).err hs.st (fun x hx => done_ok hs.st x hx)
 replace hI : Inv NF w0 w (B b 29 #[.slice A1 s.evs.length c1, .slice A2 s.sts.length c2] :: Win 167 7 A1 s.evs.length c1 (s.evs.flatMap evL) :: Win 114 3 A2 s.sts.length c2 (s.sts.flatMap stV) :: H) := hI
 refine calls_of_WP (N := Tryz.f38.ntmps) func38 Z Z Z (Wq (T5 Z (Wn ?_)))
 cases ho : seesF s.sts with
 | ok q =>
  obtain ⟨hql, hq8⟩ := sees_in ho
  have h64 := in64_nat hq8
  rw [ho] at hf hc
  dsimp only at hf
  refine Wq (T1 Z (Tj Z (V8 1 Z (V6 (.slice _ _ _) Z (hI.c0 Z) (Vd [.slice _ _ _] Z func68 Z (hc.mono ?_))))))
  rintro e w1 ⟨⟨OA, m, oc, rfl, rfl, hQ⟩, hp1⟩
  refine rV ?_
  have hI := hI.pure hp1
  refine T4 Z (Vj Z (Vj Z (Vg Z (Vw Z (Wn (Wq (Td Z (Vd [_] Z func54 Z ((chkE_nil _).mono ?_)))))))))
  rintro e w2 ⟨rfl, rfl⟩
  exact rV (Wn (Wq (Va Z (Vd [.string _, .slice _ _ _] Z func61 Z ((tolds_any orderW (by decide) OA _ oc (q.map Int.ofNat) _ _ hQ (by simp) (by simp; omega) h64 (hG.pure hI.pu)).mono (okP hI fun w2 hp2 hI => T5 Z (Wn (WR (r1_ 4 Z (MethQ.good (A1 := A1) (c1 := c1) (A2 := A2) (c2 := c2) hf hI))))))))))
 | error z =>
  rw [ho] at hf hc
  dsimp only at hf
  refine Wq (T1 Z (Tj Z (V8 1 Z (V6 (.slice _ _ _) Z (hI.c0 Z) (Vd [.slice _ _ _] Z func68 Z (hc.mono ?_))))))
  rintro e w1 ⟨he, hp1⟩
  replace he : e = .returned (.tuple #[.slice none 0 0, .iface 49 (.int .i64 z)]) := he
  subst he
  refine rV ?_
  have hI := hI.pure hp1
  refine T4 Z (Vj Z (Vj Z (Vg Z (Vt Z (Wn (Wq (Vy Z (WL_callP Z Z Z (rCall (vs := [.iface _ _]) Z func54 Z Z Z) ((chkE_err 49 (Y z) _).mono ?_)))))))))
  rintro e w2 ⟨rfl, rfl⟩
  exact .inr ⟨_, Z, MethQ.bad hf (hI.err z)⟩
theorem cpck_any (S : Nat → Prop) (w0 w : World) (b : Nat) (p v : Value) (H : List Ent) (hp : p = .pointer none ∨ p = .pointer (some ⟨b, 0, none⟩)) (hI : Inv S w0 w (B b 33 #[p, v] :: H)) :
  Cq 15 #[.pointer (some ⟨b, 0, none⟩)] w fun e w' => e = .returned (.tuple #[]) ∧ Inv S w0 w' (B b 33 #[.pointer (some ⟨b, 0, none⟩), v] :: H) := by
 have hB : Blk w b 33 #[p, v] := hI.g0
 rcases hp with rfl | rfl
 ·refine (Any.Builder_copyCheck_fresh { lays166 with } extra166.toX72 b w (hI.c0 Z) (by unfold Blk at hB; simp [World.shape?, hB]; rfl) (hB.frozen _)).mono ?_
  rintro e w' ⟨rfl, rfl⟩
  exact ⟨Z, hI.s0 0 (.pointer (some ⟨b, 0, none⟩))⟩
 refine (Any.Builder_copyCheck_used { lays166 with } extra166.toX72 b w (hI.c0 Z)).mono ?_
 rintro e w' ⟨rfl, rfl⟩
 exact ⟨Z, hI⟩
theorem wrsI_any (S : Nat → Prop) (w0 w : World) (b n0 : Nat) (p : Value) (A : Option Addr) (c : Nat) (l s : List UInt8) (H : List Ent) (hp : p = .pointer none ∨ p = .pointer (some ⟨b, 0, none⟩)) (hn : n0 ≤ w0.heap.size) (hl : l.length + s.length ≤ 100000000000)
  (hI : Inv S w0 w (B b 33 #[p, .slice A l.length c] :: Row n0 5 1 A l.length c (bytesL l) :: H)) :
  Cq 7 #[.pointer (some ⟨b, 0, none⟩), strV s] w fun e w' => ∃ v A' c', e = .returned v ∧ Inv S w0 w' (B b 33 #[.pointer (some ⟨b, 0, none⟩), .slice A' (l ++ s).length c'] :: Row n0 5 1 A' (l ++ s).length c' (bytesL (l ++ s)) :: H) := by
 have hbl : bytesL (l ++ s) = bytesL l ++ bytesL s := by simp [bytesL]
 have hll : (l ++ s).length = l.length + s.length := List.length_append
 refine Vm func7 Z (Wq (Vb Z (Vw Z (Wn (Wq (T1 Z (Vd [.pointer _] Z func15 Z ((cpck_any S w0 _ b p _ _ hp hI).mono ?_))))))))
 rintro e w1 ⟨rfl, hI⟩
 refine rV ?_
 have hI := hI.sw0
 refine Wn (Wq (T1 Z (T1 Z (Tj Z (V8 1 Z (V6 (.slice _ _ _) Z (hI.c1 Z) (Ta Z (WL_appS hI Z Z Z Z Z Z yy31 yy9 (by kernel_rfl) (by omega) (by have := hI.chg.size; omega) ?_))))))))
 rintro A' c' w hc1 hc2 hI
 refine Tj Z (V8 1 Z (WL_st1 (u := .slice _ _ _) hI Z Z Z Z Z Z (by kernel_rfl) Z Z Z ?_))
 intro w hI
 refine Wn (Wq (Ta Z (Wv Z (rStrLen Z yy9 Z) (Vb Z (Vw Z (Wn (WR (r2_ 4 5 Z ⟨_, A', c', Z, ?_⟩))))))))
 rw [hbl, hll]
 exact hI.sw0
theorem lined_any (s : List UInt8) (w0 : World) : Cq 6 #[strV s] w0 fun e w' => ∃ g, e = .returned (.func (.func 12) #[] #[.pointer (some ⟨g, 0, none⟩)]) ∧ Inv NF w0 w' [B g 9 #[strV s]] := by
 have hI := Inv.start (fun _ => False) w0
 refine Vm func6 Z (Wq (Tq (.string _) #[_] hI Z ?_))
 rintro b1 w - - hI
 exact U7 Z (Wn (Wq (Tw [] [_] Z (Wv Z (by exact rAsgnF rfl rfl) (Wn (WR (r1_ 2 Z ⟨_, Z, hI⟩)))))))
theorem isB_of {n0 b : Nat} {p : Value} {A : Option Addr} {c : Nat} {l : List UInt8} {S : Nat → Prop} {w0 : World} {H : List Ent} (hp : p = .pointer none ∨ p = .pointer (some ⟨b, 0, none⟩)) (hb : n0 ≤ b) (hI : Inv S w0 w (B b 33 #[p, .slice A l.length c] :: Row n0 5 1 A l.length c (bytesL l) :: H)) : IsB n0 b l w := by
 have hB : Blk w b 33 #[p, .slice A l.length c] := hI.g0
 have hR : w.ownsRow n0 5 1 (.slice A l.length c) l.length (bytesL l) := hI.g1
 have hd : (Value.slice A l.length c).ownBlock ≠ some b := fun h => by
  rw [ownBlock_slice] at h
  exact (List.pairwise_cons.1 hI.apart).1 _ (List.mem_cons_self ..) b Z h
 have hbl : Lib.byteCells l = bytesL l := rfl
 have key : ∀ p, Blk w b 33 #[p, .slice A l.length c] → Lib.BuilderAtF 33 5 n0 b p (Lib.byteCells l) w := fun p hB =>
  ⟨hb, _, hB, World.ownsRowF_of (by rw [hbl, show (bytesL l).length = l.length by simp [bytesL]]; exact hR), hd⟩
 rcases hp with rfl | rfl
 ·exact .inl (key _ hB)
 exact .inr (key _ hB)
theorem bstrK_any (B0 b : Nat) (l : List UInt8) (w : World) (h : IsB B0 b l w) (hB : B0 ≤ w.heap.size) :
  Cq 9 #[.pointer (some ⟨b, 0, none⟩)] w fun e w' => e = .returned (strV l) ∧ Below B0 w w' ∧ Lib.OthersKept 5 (some b) w w' := by
 refine (Any.Builder_String_any_k lays169 extra169 B0 b l w h hB).mono ?_
 rintro e w' ⟨rfl, _, h2, h3⟩
 exact ⟨Z, h2, h3⟩
def LinD (Ls : List (List UInt8)) (k : Nat) (args : Array Value) (w : World) : Prop := ∃ t, Ls[k]? = some t ∧ args = #[strV t]
namespace Rd
theorem lineD_seq (t : List UInt8) (ht : t.length ≤ 100000) (g : Nat) (w : World) (hg : w.cell? ⟨g, 0, none⟩ = some (strV t)) (hM : MaxOk w) :
  SeqRel prog 12 #[.pointer (some ⟨g, 0, none⟩)] (splitL (chopL t)).length (LinD (splitL (chopL t))) w (fun k => k = g) := by
 intro y X0 J W hp hX0 hJ hy h0
 replace hg := ((Inv.start (fun _ => False) w).pure hp).oldp hg
 replace hM := hM.pure hp
 have hgl : g < W.heap.size := World.block_lt_of_cell? W _ hg
 have hI := Inv.start (fun _ => False) W
 have hcl := chopL_len t
 have hsl := splitL_len (chopL t)
 have hsp := fun w1 hM1 => splitG_any (chopL t) (by omega) w1 hM1
 obtain ⟨Ls, hLs⟩ : ∃ Ls, splitL (chopL t) = Ls := ⟨_, rfl⟩
 rw [hLs] at hy hsp hsl ⊢
 refine calls_of_W (N := Tryz.f12.ntmps) func12 Z Z Z ?_
 refine Ws (Wr (V6 (.string _) Z (hI.oldp hg) (Vd [.string _, .string _] Z func14 Z ?_)))
 refine (trimS_any t [10] ht _).mono ?_
 rintro e w1 ⟨rfl, he1⟩
 have he2 := he1.symm
 subst he2
 refine rV ?_
 refine Vd [.string _, .string _] Z func13 Z ?_
 refine (hsp _ (hM.pure hI.pu)).mono ?_
 rintro e w1 ⟨g1, rfl, hT⟩
 refine rV ?_
 have hI := hI.app1 hT
 refine Vo Z underlying42 Z (V0 Z (Wn ?_))
 have hg1 : W.heap.size ≤ g1 := (hI.own _ (List.mem_cons_self ..) g1 rfl).resolve_left id
 have hB := hI.g0
 have hJ1 := hJ _ _ _ _ h0 (hI.pu.chg (notX W.heap.size X0))
 have hsz := hI.pu.size
 have hX0' : ∀ b, X0 b → b ≠ g ∧ b ≠ g1 := fun b hb => ⟨(hX0 b hb).1, by have := (hX0 b hb).2; omega⟩
 refine Wb ?_
 refine Wl (fun mu ρ V => ∃ (k : Nat) (X : Nat → Prop), mu = Ls.length - k ∧ k ≤ Ls.length ∧ Has ρ [(9, Y (k : Int)), (8, Y (Ls.length : Int)), (7, .slice (some ⟨g1, 0, none⟩) Ls.length Ls.length), (0, .func (.yield y) #[] #[]), (1, .pointer (some ⟨g, 0, none⟩))] ∧ J k X V ∧ (∀ b, X b → b ≠ g ∧ b ≠ g1) ∧ Blk V g1 9 (Ls.map strV).toArray ∧ W.heap.size ≤ V.heap.size) Ls.length
  ⟨0, X0, rfl, by omega, ⟨rfl, rfl, rfl, rfl, rfl, trivial⟩, hJ1, hX0', hB, hsz⟩ ?_
 clear hI
 rintro mu ρ V ⟨k, X, rfl, hk, hH, hJk, hX, hBV, hsV⟩
 obtain ⟨σ, rfl⟩ := hH.open
 have hI := Inv.start (fun _ => False) V
 by_cases hkn : k < Ls.length
 rotate_left
 ·obtain rfl : k = Ls.length := by omega
  refine Ws (Wr (Vr Z (Wn (Ws (Wc false Z ?_)))))
  refine WE ?_
  exact ret0 (.inl Z) Z ⟨⟨_, Z⟩, X, hJk⟩
 obtain ⟨s, hs⟩ : ∃ s, Ls[k]? = some s := ⟨_, gE_ hkn⟩
 have hcs : V.cell? ⟨g1, k, none⟩ = some (strV s) := by
  rw [hBV.cell, List.getElem?_toArray, List.getElem?_map, hs]; rfl
 refine Ws (Wr (Vu Z (Wn (Ws (Wc true Z (Wk (Ws (Wb (Ws (Wr (T6 Z underlying42 Z (V6 (.string _) Z (hI.oldp hcs) (T5 Z ?_)))))))))))))
 refine Wn (Ws ?_)
 refine W_regionI 2 ?_
 refine Ua Z (Ta Z (Wn ?_))
 refine WI_yield Z Z Z Z (rYield Z Z Z) ?_
 refine (hy k X _ _ hkn ⟨s, hs, Z⟩ hJk hsV).mono ?_
 clear hI
 rintro e w2 ⟨rfl, hJ3, hc3⟩
 have hI := Inv.start (fun _ => False) w2
 have hs2 := hc3.size
 have hlt1 := hBV.lt
 refine ⟨_, Z, WI_of ?_⟩
 refine Tf Z (Wn (Wc false Z (Wk (Wr (Vl Z (V0 Z (Wn ?_)))))))
 refine ⟨Ls.length - (k + 1), by omega, k + 1, ownX X V w2, rfl, by omega, g5_, hJ3, fun b hb => ?_, Blk.chg hBV hc3 (fun hx => (hX _ hx).2 rfl), by omega⟩
 rcases hb with hb | hb
 ·exact hX b hb
 omega
end Rd
end Go.Proofs.YtnckdmogdehnoaaGreatDoor
