/- FarmBack. -/
import Derived.Test.YtlkobbighkiojaaGreatDoorPA
import Derived.Test.YtlkobbighkiojaaGreatDoorPStoB
set_option maxHeartbeats 4000000
set_option linter.unusedVariables false
set_option linter.unusedSimpArgs false
namespace Go.Proofs.YtlkobbighkiojaaGreatDoor
open Tryz
open Go.RowKit
theorem rAddNN {P : Program} {ρ : Env} {w : World} {o : Oper} {x y : Operand} {t t' : TypeId} {a b : Nat} (ho : o.op = .binOp .add t x y t') (hx : ev ρ x = .int .i64 (a : Int)) (hy : ev ρ y = .int .i64 (b : Int)) (h : a + b ≤ 9223372036854775807) : Runs P ρ o w (.int .i64 ((a + b : Nat) : Int)) := by
 have := rAdd (P := P) (w := w) ho hx hy (by omega)
 rw [show ((a + b : Nat) : Int) = (a : Int) + (b : Int) from Int.natCast_add a b]
 exact this
def clX (k : Nat) (L : StL) (s : StS) (c : Nat) (x : SCl) (cv : Value) : Array Value := flatB k fun i => if i = c then clL x cv else clF L s i
structure ClAt (w : World) (b o : Nat) (x : SCl) (cv : Value) : Prop where
 c0 : w.cell? ⟨b, o, none⟩ = some (.bool x.busy)
 c1 : w.cell? ⟨b, o + 1, none⟩ = some (.bool x.gone)
 c2 : w.cell? ⟨b, o + 2, none⟩ = some (.int .i64 x.began.proc)
 c3 : w.cell? ⟨b, o + 3, none⟩ = some (.int .i64 x.began.ty)
 c4 : w.cell? ⟨b, o + 4, none⟩ = some (.int .i64 x.began.key)
 c5 : w.cell? ⟨b, o + 5, none⟩ = some (.int .i64 x.began.kind)
 c6 : w.cell? ⟨b, o + 6, none⟩ = some (.int .i64 x.began.a)
 c7 : w.cell? ⟨b, o + 7, none⟩ = some (.int .i64 x.began.b)
 c8 : w.cell? ⟨b, o + 8, none⟩ = some (.int .i64 x.began.res)
 c9 : w.cell? ⟨b, o + 9, none⟩ = some (.bool x.telling)
 c10 : w.cell? ⟨b, o + 10, none⟩ = some (.int .i64 (x.round : Int))
 c11 : w.cell? ⟨b, o + 11, none⟩ = some cv
 c12 : w.cell? ⟨b, o + 12, none⟩ = some (.int .i64 (x.best.t : Int))
 c13 : w.cell? ⟨b, o + 13, none⟩ = some (.int .i64 x.best.c)
 c14 : w.cell? ⟨b, o + 14, none⟩ = some (.int .i64 x.best.v)
theorem clAt_of {w : World} {b k i o : Nat} {t : TypeId} {f : Nat → List Value} {x : SCl} {cv : Value} (h : Blk w b t (flatB k f)) (hm : ∀ i, (f i).length = 15) (hi : i < k) (hf : f i = clL x cv) (ho : o = i * 15) : ClAt w b o x cv := by
 subst ho
 have g : ∀ (j : Nat) (v : Value), (clL x cv)[j]? = some v → w.cell? ⟨b, i * 15 + j, none⟩ = some v := fun j v hv => by
  rw [h.cell]; exact flatB_get hm hi (by rw [hf]; exact hv)
 exact ⟨g 0 _ rfl, g 1 _ rfl, g 2 _ rfl, g 3 _ rfl, g 4 _ rfl, g 5 _ rfl, g 6 _ rfl, g 7 _ rfl, g 8 _ rfl, g 9 _ rfl, g 10 _ rfl, g 11 _ rfl, g 12 _ rfl, g 13 _ rfl, g 14 _ rfl⟩
section
variable {k c : Nat} {L : StL} {s : StS} {x x' : SCl} {cv cv' : Value}
theorem clX_fun (i : Nat) : (if i = c then clL x cv else clF L s i).length = 15 := by split <;> rfl
theorem clX_start : clX k L s c (s.cl c) (cntV L s c) = flatB k (clF L s) := flatB_congr fun i _ => by
 by_cases h : i = c
 ·subst h; rw [if_pos rfl]; rfl
 rw [if_neg h]
theorem clX_end {L' : StL} {s' : StS} (h : clL x cv = clF L' s' c) (h' : ∀ i, i < k → i ≠ c → clF L s i = clF L' s' i) : clX k L s c x cv = flatB k (clF L' s') := flatB_congr fun i hi => by
 by_cases hic : i = c
 ·subst hic; rw [if_pos rfl]; exact h
 rw [if_neg hic]; exact h' i hi hic
theorem clX_size : (clX k L s c x cv).size = k * 15 := flatB_size fun i => clX_fun i
theorem clX_lt (hc : c < k) {j : Nat} (hj : j < 15) : 0 + c * 15 + j < (clX k L s c x cv).size := by
 rw [clX_size]
 have := Nat.mul_le_mul_right 15 (Nat.succ_le_of_lt hc)
 rw [Nat.succ_mul] at this
 omega
theorem clX_blt (hc : c < k) {j : Nat} (hj : j < 15) : Nat.blt (0 + c * 15 + j) (clX k L s c x cv).size = true := by rw [Nat.blt_eq]; exact clX_lt hc hj
theorem clX_blt0 (hc : c < k) : Nat.blt (0 + c * 15) (clX k L s c x cv).size = true := clX_blt (j := 0) hc (by omega)
theorem clX_set (hc : c < k) (j : Nat) (hj : j < 15) {v : Value} (h : clL x' cv' = (clL x cv).take j ++ [v] ++ (clL x cv).drop (j + 1)) : (clX k L s c x cv).setIfInBounds (0 + c * 15 + j) v = clX k L s c x' cv' := by
 rw [Nat.zero_add]
 exact flatB_set (fun i => clX_fun i) (fun i => clX_fun i) hc hj (fun i hi => by rw [if_neg hi, if_neg hi]) (by rw [if_pos rfl, if_pos rfl]; exact h)
theorem clX_set0 (hc : c < k) {v : Value} (h : clL x' cv' = (clL x cv).take 0 ++ [v] ++ (clL x cv).drop 1) : (clX k L s c x cv).setIfInBounds (0 + c * 15) v = clX k L s c x' cv' := clX_set hc 0 (by omega) h
theorem clX_sp (hc : c < k) (j : Nat) {vs : List Value} (hj : j + vs.length ≤ 15) (h : clL x' cv' = (clL x cv).take j ++ vs ++ (clL x cv).drop (j + vs.length)) : splice (clX k L s c x cv) (0 + c * 15 + j) vs = clX k L s c x' cv' := by
 rw [Nat.zero_add]
 exact flatB_splice (fun i => clX_fun i) (fun i => clX_fun i) hc hj (fun i hi => by rw [if_neg hi, if_neg hi]) (by rw [if_pos rfl, if_pos rfl]; exact h)
theorem clX_at {S : Nat → Prop} {w0 w : World} {H : List Ent} {b : Nat} {t : TypeId} (i : Nat) (hi : H[i]? = some (B b t (clX k L s c x cv))) (hI : Inv S w0 w H) (hc : c < k) : ClAt w b (0 + c * 15) x cv :=
 clAt_of (hI.ok _ (List.mem_of_getElem? hi)).1 (fun i => clX_fun i) hc (if_pos rfl) (Nat.zero_add _)
theorem clF_at {S : Nat → Prop} {w0 w : World} {H : List Ent} {b : Nat} {t : TypeId} (i : Nat) (hi : H[i]? = some (B b t (flatB k (clF L s)))) (hI : Inv S w0 w H) (hc : c < k) : ClAt w b (0 + c * 15) (s.cl c) (cntV L s c) :=
 clAt_of (hI.ok _ (List.mem_of_getElem? hi)).1 (fun i => clF_len L s i) hc rfl (Nat.zero_add _)
end
theorem less_raw (t1 c1 t2 c2 : Int) (w0 : World) : Cq 119 #[.agg #[.int .i64 t1, .int .i64 c1], .agg #[.int .i64 t2, .int .i64 c2]] w0 fun en w' => en = .returned (.bool (decide (t1 < t2 ∨ (t1 = t2 ∧ c1 < c2)))) ∧ Pure w0 w' := by
 have hI := Inv.start (fun _ => False) w0
 refine Vn func119 rfl ?_
 refine Wq (Tb (.agg _) (#[_, _]) hI rfl ?_)
 rintro b2 w - - hI
 refine Tb (.agg _) (#[_, _]) hI rfl ?_
 rintro b3 w - - hI
 refine V8 rfl (Wn ?_)
 by_cases h1 : t1 < t2
 ·refine Wq (V7 0 rfl (V5 (.int .i64 _) rfl (hI.c1 rfl) (V7 0 rfl (V5 (.int .i64 _) rfl (hI.c0 rfl) (Vt rfl (V6 rfl (V4 rfl (V4 rfl (V4 rfl (V4 rfl (V4 rfl (V4 rfl ?_))))))))))))
  refine V4 rfl (V4 rfl (V4 rfl (V4 rfl (V4 rfl (V4 rfl (Vk rfl (V8 rfl (Wn ?_))))))))
  refine WR ?_
  refine r1_ 4 rfl ⟨?_, hI.pu⟩
  rw [decide_eq_true (by omega)]; rfl
 by_cases h2 : t1 = t2
 ·by_cases h3 : c1 < c2
  ·refine Wq (V7 0 rfl (V5 (.int .i64 _) rfl (hI.c1 rfl) (V7 0 rfl (V5 (.int .i64 _) rfl (hI.c0 rfl) (Vr rfl (V6 rfl (V7 0 rfl (V5 (.int .i64 _) rfl (hI.c1 rfl) (V7 0 rfl (V5 (.int .i64 _) rfl (hI.c0 rfl) (T5 rfl (V6 rfl ?_))))))))))))
   refine V7 1 rfl (V5 (.int .i64 _) rfl (hI.c1 rfl) (V7 1 rfl (V5 (.int .i64 _) rfl (hI.c0 rfl) (Vt rfl (Vk rfl (Ve rfl (V8 rfl (Wn ?_))))))))
   refine WR ?_
   refine r1_ 4 rfl ⟨?_, hI.pu⟩
   rw [decide_eq_true (by omega)]; rfl
  refine Wq (V7 0 rfl (V5 (.int .i64 _) rfl (hI.c1 rfl) (V7 0 rfl (V5 (.int .i64 _) rfl (hI.c0 rfl) (Vr rfl (V6 rfl (V7 0 rfl (V5 (.int .i64 _) rfl (hI.c1 rfl) (V7 0 rfl (V5 (.int .i64 _) rfl (hI.c0 rfl) (T5 rfl (V6 rfl ?_))))))))))))
  refine V7 1 rfl (V5 (.int .i64 _) rfl (hI.c1 rfl) (V7 1 rfl (V5 (.int .i64 _) rfl (hI.c0 rfl) (Vr rfl (Vk rfl (Ve rfl (V8 rfl (Wn ?_))))))))
  refine WR ?_
  refine r1_ 4 rfl ⟨?_, hI.pu⟩
  rw [decide_eq_false (by omega)]; rfl
 refine Wq (V7 0 rfl (V5 (.int .i64 _) rfl (hI.c1 rfl) (V7 0 rfl (V5 (.int .i64 _) rfl (hI.c0 rfl) (Vr rfl (V6 rfl (V7 0 rfl (V5 (.int .i64 _) rfl (hI.c1 rfl) (V7 0 rfl (V5 (.int .i64 _) rfl (hI.c0 rfl) (Vw rfl (V6 rfl ?_))))))))))))
 refine V4 rfl (V4 rfl (V4 rfl (V4 rfl (V4 rfl (Ve rfl (Ve rfl (V8 rfl (Wn ?_))))))))
 refine WR ?_
 refine r1_ 4 rfl ⟨?_, hI.pu⟩
 rw [decide_eq_false (by omega)]; rfl
theorem less_any (a b : SEnt) (w0 : World) : Cq 119 #[.agg (stmL a).toArray, .agg (stmL b).toArray] w0 fun en w' => en = .returned (.bool (decide (a.less b))) ∧ Pure w0 w' := by
 refine (less_raw (a.t : Int) a.c (b.t : Int) b.c w0).mono ?_
 rintro e w' ⟨rfl, hp⟩
 refine ⟨?_, hp⟩
 congr 2
 refine decide_eq_decide.2 ?_
 unfold SEnt.less
 omega
theorem shas_any (b : Nat) (c : Int) (A : Option Addr) (n cc : Nat) (w0 : World) (hc : w0.cell? ⟨b, 6, none⟩ = some (.slice A n cc)) :
  Cq 113 #[.pointer (some ⟨b, 0, none⟩), .int .i64 c] w0 fun en w' => en = .returned (.bool (decide (0 ≤ c ∧ c < (n : Int)))) ∧ Pure w0 w' := by
 have hI := Inv.start (fun _ => False) w0
 refine Vn func113 rfl ?_
 refine Wq (V8 rfl (Wn ?_))
 by_cases h0 : c < 0
 ·refine Wq (V9 rfl ?_)
  refine Wv rfl (rPtrNe rfl yy46 rfl rfl) ?_
  refine V6 rfl (V0 rfl (U5 rfl (Vk rfl (V6 rfl (V4 rfl (V4 rfl (V4 rfl (V4 rfl (V4 rfl (V4 rfl (V4 rfl (Ve rfl (V8 rfl ?_)))))))))))))
  refine Wn ?_
  refine WR ?_
  refine r1_ 4 rfl ⟨?_, hI.pu⟩
  rw [decide_eq_false (by omega)]; rfl
 by_cases h1 : c < (n : Int)
 ·refine Wq (V9 rfl ?_)
  refine Wv rfl (rPtrNe rfl yy46 rfl rfl) ?_
  refine V6 rfl (V0 rfl (To rfl (Vk rfl (V6 rfl (V0 rfl (V9 rfl (Vb rfl (V7 6 rfl (V5 (.slice _ _ _) rfl (hI.oldp hc) (Vs rfl yy85 rfl (Vt rfl (Vk rfl (V8 rfl ?_)))))))))))))
  refine Wn ?_
  refine WR ?_
  refine r1_ 4 rfl ⟨?_, hI.pu⟩
  rw [decide_eq_true (by omega)]; rfl
 refine Wq (V9 rfl ?_)
 refine Wv rfl (rPtrNe rfl yy46 rfl rfl) ?_
 refine V6 rfl (V0 rfl (To rfl (Vk rfl (V6 rfl (V0 rfl (V9 rfl (Vb rfl (V7 6 rfl (V5 (.slice _ _ _) rfl (hI.oldp hc) (Vs rfl yy85 rfl (Vr rfl (Vk rfl (V8 rfl ?_)))))))))))))
 refine Wn ?_
 refine WR ?_
 refine r1_ 4 rfl ⟨?_, hI.pu⟩
 rw [decide_eq_false (by omega)]; rfl
theorem evs_push (l : List Ev) (e : Ev) : (l ++ [e]).flatMap evL = l.flatMap evL ++ evL e := by simp
theorem sts_push (l : List SEnt) (e : SEnt) : (l ++ [e]).flatMap stmL = l.flatMap stmL ++ stmL e := by simp
theorem see_any (L : StL) (s : StS) (e : Ev) (st : SEnt) (S : Nat → Prop) (w0 : World) (hI : Inv S w0 w0 (spt L s)) (hl : s.evs.length ≤ 1000 ∧ s.sts.length ≤ 1000) :
  Cq 114 #[.pointer (some ⟨L.sb, 0, none⟩), .agg (evL e).toArray, .agg (stmL st).toArray] w0 fun en w' => en = .returned (.tuple #[]) ∧ ∃ EA ec SA sc, Inv S w0 w' (spt { L with EA := EA, ec := ec, SA := SA, sc := sc } (obsF s e st)) := by
 unfold spt at hI
 refine Vn func114 rfl ?_
 refine Wq (Tb (.agg (evL e).toArray) ((evL e).toArray) hI rfl ?_)
 rintro b4 w - - hI
 refine Tb (.agg (stmL st).toArray) ((stmL st).toArray) hI rfl ?_
 rintro b5 w - - hI
 refine Wn ?_
 replace hI := (hI.pull 9 rfl).pull 10 rfl
 replace hI : Inv S w0 w [Row 0 95 2 L.SA s.sts.length L.sc (s.sts.flatMap stmL), Row 0 70 7 L.EA s.evs.length L.ec (s.evs.flatMap evL), B b5 95 (stmL st).toArray, B b4 70 (evL e).toArray, B L.sb 93 (stoC L s), B L.nb 98 (flatB (s.n * 8) (ndF s)), B L.cb 238 (flatB s.k (clF L s)), Many s.k (cntE L s), Row 0 194 9 L.MA s.mails.length L.mc (s.mails.flatMap mailL), Row 0 113 1 L.LA L.ln L.lc L.lv, RowsE L.lv L.LD] := hI
 refine Wd (by kernel_rfl) ?_
 refine WA_T (fun _ => True) [] ?_
 refine Wt 1 rfl (hS := trivial) (fun W _ => (by exact rMoveP rfl rfl)) ?_
 refine WT_true ?_
 refine Wi (T := [18]) hI.d0.d0.drew ?_
 intro Sx hY hZ
 have hI := hI.drew
 refine Vl 0 rfl (Vl 2 rfl (Vm 3 rfl (Vf 4 10 rfl (Vd 5 (.slice _ _ _) rfl (fun W hW => (hY W hW).c2 rfl) ?_))))
 refine Uh 6 7 (evL e) rfl (fun W hW => have hI := hY W hW; fun k u hk => hI.cell 1 rfl (by rw [Nat.zero_add, List.getElem?_toArray]; exact hk)) ?_
 refine Vl 9 rfl (Vm 10 rfl (Vf 11 11 rfl (Vd 12 (.slice _ _ _) rfl (fun W hW => (hY W hW).c2 rfl) ?_)))
 refine Uh 13 2 (stmL st) rfl (fun W hW => have hI := hY W hW; fun k u hk => hI.cell 0 rfl (by rw [Nat.zero_add, List.getElem?_toArray]; exact hk)) ?_
 refine WT_two 7 14 rfl rfl (by kernel_rfl) rfl rfl ?_ ?_
 ·refine T3 [(0, .agg (evL e).toArray)] (evL e) [.int .i64 0, .int .i64 0, .int .i64 0, .int .i64 0, .int .i64 0, .int .i64 0, .int .i64 0] [0] hI rfl yy28 (fun _ => by kernel_rfl) ?_
  rintro b13 w - - hI
  refine Wn ⟨hZ _ hI.d0.d0.d0, ?_⟩
  refine WT_two 8 14 rfl rfl (by kernel_rfl) rfl rfl ?_ ?_
  ·refine WL_app2 (z := .agg zI7) (by_ := 56) (news := evL e) hI rfl rfl rfl rfl rfl rfl yy28 (by kernel_rfl) rfl (by omega) (by rfl) (by exact hI.lit0) rfl (by omega) (by omega) (Nat.zero_le _) ?_
   rintro A14 c14 w _ hc14 hI
   refine Wn ⟨hZ _ hI.d0.d0.d0, ?_⟩
   refine Vu 14 rfl ?_
   refine T3 [(0, .agg (stmL st).toArray)] (stmL st) [.int .i64 0, .int .i64 0] [0] hI rfl underlying91 (fun _ => by kernel_rfl) ?_
   rintro b20 w - - hI
   refine Wn ⟨hZ _ hI.d0.d0.d0.d0, ?_⟩
   refine Vu 15 rfl ?_
   refine WL_app2 (z := .agg #[.int .i64 0, .int .i64 0]) (by_ := 16) (news := stmL st) hI rfl rfl rfl rfl rfl rfl underlying91 (by kernel_rfl) rfl (by omega) (by rfl) (by exact hI.lit0) rfl (by omega) (by omega) (Nat.zero_le _) ?_
   rintro A21 c21 w _ hc21 hI
   refine Wn ⟨hZ _ hI.d0.d0.d0.d0, ?_⟩
   refine Vm 16 (hS_ := hZ _ hI.d0.d0.d0.d0) rfl (Vf 17 10 (hS_ := hZ _ hI.d0.d0.d0.d0) rfl ?_)
   refine WT_A (by kernel_rfl) ?_
   clear hZ hY
   refine T2 18 rfl ?_
   refine WL_st 6 rfl (u := .slice A14 (s.evs.length + 1) c14) (j := 10) hI rfl rfl rfl rfl rfl rfl (by kernel_rfl) rfl rfl rfl ?_
   intro w hI
   refine Wn (T2 19 rfl ?_)
   refine Vb rfl (Wn (T2 20 rfl ?_))
   refine V7 11 rfl (Wn (T2 21 rfl ?_))
   refine WL_st 6 rfl (u := .slice A21 (s.sts.length + 1) c21) (j := 11) hI rfl rfl rfl rfl rfl rfl (by kernel_rfl) rfl rfl rfl ?_
   intro w hI
   refine Wn ?_
   refine WA_end (by kernel_rfl) ?_
   refine ret0 (.inl rfl) rfl ⟨rfl, A14, c14, A21, c21, ?_⟩
   have e1 : (s.evs ++ [e]).length = s.evs.length + 1 := by simp
   have e2 : (s.sts ++ [st]).length = s.sts.length + 1 := by simp
   rw [← evs_push, ← sts_push, ← e1, ← e2] at hI
   exact (((hI.d0.d0.erase 2).erase 2).back 8).back 7
  refine T3 [(0, .agg (stmL st).toArray)] (stmL st) [.int .i64 0, .int .i64 0] [0] hI rfl underlying91 (fun _ => by kernel_rfl) ?_
  rintro b20 w - - hI
  refine Wn ⟨hZ _ hI.d0.d0.d0.d0, ?_⟩
  refine Vu 8 rfl ?_
  refine WL_app3 (z := .agg zI7) (by_ := 56) (news := evL e) hI rfl rfl rfl rfl rfl rfl yy28 (by kernel_rfl) rfl (by omega) (by rfl) (by exact hI.d0.lit0) rfl (by omega) (by omega) (Nat.zero_le _) ?_
  rintro A14 c14 w _ hc14 hI
  refine Wn ⟨hZ _ hI.d0.d0.d0.d0, ?_⟩
  refine Vu 15 rfl ?_
  refine WL_app2 (z := .agg #[.int .i64 0, .int .i64 0]) (by_ := 16) (news := stmL st) hI rfl rfl rfl rfl rfl rfl underlying91 (by kernel_rfl) rfl (by omega) (by rfl) (by exact hI.lit0) rfl (by omega) (by omega) (Nat.zero_le _) ?_
  rintro A21 c21 w _ hc21 hI
  refine Wn ⟨hZ _ hI.d0.d0.d0.d0, ?_⟩
  refine Vm 16 (hS_ := hZ _ hI.d0.d0.d0.d0) rfl (Vf 17 10 (hS_ := hZ _ hI.d0.d0.d0.d0) rfl ?_)
  refine WT_A (by kernel_rfl) ?_
  clear hZ hY
  refine T2 18 rfl ?_
  refine WL_st 6 rfl (u := .slice A14 (s.evs.length + 1) c14) (j := 10) hI rfl rfl rfl rfl rfl rfl (by kernel_rfl) rfl rfl rfl ?_
  intro w hI
  refine Wn (T2 19 rfl ?_)
  refine Vb rfl (Wn (T2 20 rfl ?_))
  refine V7 11 rfl (Wn (T2 21 rfl ?_))
  refine WL_st 6 rfl (u := .slice A21 (s.sts.length + 1) c21) (j := 11) hI rfl rfl rfl rfl rfl rfl (by kernel_rfl) rfl rfl rfl ?_
  intro w hI
  refine Wn ?_
  refine WA_end (by kernel_rfl) ?_
  refine ret0 (.inl rfl) rfl ⟨rfl, A14, c14, A21, c21, ?_⟩
  have e1 : (s.evs ++ [e]).length = s.evs.length + 1 := by simp
  have e2 : (s.sts ++ [st]).length = s.sts.length + 1 := by simp
  rw [← evs_push, ← sts_push, ← e1, ← e2] at hI
  exact (((hI.d0.d0.erase 2).erase 2).back 8).back 7
 refine T3 [(0, .agg (stmL st).toArray)] (stmL st) [.int .i64 0, .int .i64 0] [0] hI rfl underlying91 (fun _ => by kernel_rfl) ?_
 rintro b20 w - - hI
 refine Wn ⟨hZ _ hI.d0.d0.d0, ?_⟩
 refine Vu 7 rfl ?_
 refine T3 [(0, .agg (evL e).toArray)] (evL e) [.int .i64 0, .int .i64 0, .int .i64 0, .int .i64 0, .int .i64 0, .int .i64 0, .int .i64 0] [0] hI rfl yy28 (fun _ => by kernel_rfl) ?_
 rintro b13 w - - hI
 refine Wn ⟨hZ _ hI.d0.d0.d0.d0, ?_⟩
 refine Vu 8 rfl ?_
 refine WL_app3 (z := .agg zI7) (by_ := 56) (news := evL e) hI rfl rfl rfl rfl rfl rfl yy28 (by kernel_rfl) rfl (by omega) (by rfl) (by exact hI.lit0) rfl (by omega) (by omega) (Nat.zero_le _) ?_
 rintro A14 c14 w _ hc14 hI
 refine Wn ⟨hZ _ hI.d0.d0.d0.d0, ?_⟩
 refine Vu 15 rfl ?_
 refine WL_app2 (z := .agg #[.int .i64 0, .int .i64 0]) (by_ := 16) (news := stmL st) hI rfl rfl rfl rfl rfl rfl underlying91 (by kernel_rfl) rfl (by omega) (by rfl) (by exact hI.d0.lit0) rfl (by omega) (by omega) (Nat.zero_le _) ?_
 rintro A21 c21 w _ hc21 hI
 refine Wn ⟨hZ _ hI.d0.d0.d0.d0, ?_⟩
 refine Vm 16 (hS_ := hZ _ hI.d0.d0.d0.d0) rfl (Vf 17 10 (hS_ := hZ _ hI.d0.d0.d0.d0) rfl ?_)
 refine WT_A (by kernel_rfl) ?_
 clear hZ hY
 refine T2 18 rfl ?_
 refine WL_st 6 rfl (u := .slice A14 (s.evs.length + 1) c14) (j := 10) hI rfl rfl rfl rfl rfl rfl (by kernel_rfl) rfl rfl rfl ?_
 intro w hI
 refine Wn (T2 19 rfl ?_)
 refine Vb rfl (Wn (T2 20 rfl ?_))
 refine V7 11 rfl (Wn (T2 21 rfl ?_))
 refine WL_st 6 rfl (u := .slice A21 (s.sts.length + 1) c21) (j := 11) hI rfl rfl rfl rfl rfl rfl (by kernel_rfl) rfl rfl rfl ?_
 intro w hI
 refine Wn ?_
 refine WA_end (by kernel_rfl) ?_
 refine ret0 (.inl rfl) rfl ⟨rfl, A14, c14, A21, c21, ?_⟩
 have e1 : (s.evs ++ [e]).length = s.evs.length + 1 := by simp
 have e2 : (s.sts ++ [st]).length = s.sts.length + 1 := by simp
 rw [← evs_push, ← sts_push, ← e1, ← e2] at hI
 exact (((hI.d0.d0.erase 2).erase 2).back 8).back 7
theorem sendTo_succ (s : StS) (c what : Nat) (e : SEnt) (j : Nat) : sendTo s c what e (j + 1) = pushM (sendTo s c what e j) (sendM s c what e j) := by
 unfold sendTo
 rw [List.range_succ, List.foldl_append]; rfl
theorem rep_bools (n : Nat) : rep (.bool false) n = (boolsV (List.replicate n false)).toArray := by
 apply Array.ext'
 simp [rep, boolsV]
theorem Inv.cnew {S : Nat → Prop} {w0 w : World} {H : List Ent} {L L' : StL} {s s' : StS} {c b : Nat} (h : Inv S w0 w (B b 4 (boolsV (s'.cl c).counted).toArray :: Many s.k (cntE L s) :: H)) (hc : c < s.k) (hw : L'.cw c = some b)
  (ho : ∀ i, i < s.k → i ≠ c → cntE L s i = cntE L' s' i) : Inv S w0 w (Many s.k (cntE L' s') :: H) := by
 have h1 := (((h.sw0).many_out hc).d0).sw0
 refine (h1.many_in hc (if_pos rfl)).many_congr fun i hi => ?_
 by_cases hic : i = c
 ·subst hic
  rw [if_pos rfl]
  unfold cntE
  rw [hw]
 rw [if_neg hic, if_neg hic]
 exact ho i hi hic
theorem ssend_any (L : StL) (s : StS) (c what : Nat) (e : SEnt) (hc : c < s.k) (hk8 : s.k ≤ 8) (hn : 1 ≤ s.n ∧ s.n ≤ 7) (hr : (s.cl c).round ≤ 1000000) (hk : 0 ≤ (s.cl c).began.key) (S : Nat → Prop) (w0 : World) (hI : Inv S w0 w0 (spt L s)) :
  Cq 115 #[.pointer (some ⟨L.sb, 0, none⟩), .int .i64 (c : Int), .int .i64 (what : Int), .agg (entL e).toArray] w0 fun en w' => en = .returned (.tuple #[]) ∧ ∃ b MA mc, Inv S w0 w' (spt { L with cw := fun i => if i = c then some b else L.cw i, MA := MA, mc := mc } (sendF s c what e)) := by
 unfold spt at hI
 rw [← clX_start (c := c)] at hI
 refine Vn func115 rfl ?_
 refine Wq (Tb (.agg (entL e).toArray) ((entL e).toArray) hI rfl ?_)
 rintro b7 w - - hI
 refine Wn ?_
 obtain ⟨x, hx⟩ : ∃ x, s.cl c = x := ⟨_, rfl⟩
 rw [hx] at hI hr hk
 refine Wq (V9 rfl (Vb rfl (V7 6 rfl (V5 (.slice _ _ _) rfl (hI.c1 rfl) (V0 rfl (Tt 15 rfl yy85 rfl (Tm rfl (Wn (Wq (V9 rfl (Vb rfl ?_)))))))))))
 refine Tf 10 rfl (V5 (.int .i64 _) rfl ((clX_at 3 rfl hI hc).c10) (Vv rfl (Vb rfl (Tf 10 rfl ?_))))
 refine WL_st 3 rfl (u := .int .i64 ((x.round + 1 : Nat) : Int)) (j := 0 + c * 15 + 10) hI rfl rfl rfl rfl rfl rfl (by kernel_rfl) rfl (clX_blt hc (by omega)) (clX_set (x := x) (cv := cntV L s c) (cv' := cntV L s c) (x' := { x with round := x.round + 1 }) hc 10 (by omega) rfl) ?_
 intro w hI
 refine Wn (Wq (V9 rfl (V0 rfl ?_)))
 refine Wv rfl (by exact rEql rfl rfl rfl) ?_
 refine Vb rfl (Tf 9 rfl ?_)
 refine WL_st 3 rfl (u := .bool (decide ((what : Int) = 2))) (j := 0 + c * 15 + 9) hI rfl rfl rfl rfl rfl rfl (by kernel_rfl) rfl (clX_blt hc (by omega)) (clX_set (x := { x with round := x.round + 1 }) (cv := cntV L s c) (cv' := cntV L s c) (x' := { x with round := x.round + 1, telling := decide ((what : Int) = 2) }) hc 9 (by omega) rfl) ?_
 intro w hI
 refine Wn (Wq (V9 rfl (V9 rfl (Vb rfl (V7 0 rfl (V7 0 rfl (V5 (.int .i64 _) rfl (hI.c1 rfl) ?_)))))))
 refine WL_mk (by_ := 1) (z := .bool false) hI rfl rfl rfl rfl rfl rfl yy113 (by kernel_rfl) rfl (by omega) (by omega) ?_
 rintro b35 w - - hI
 refine Vb rfl (Tf 11 rfl ?_)
 refine WL_st 4 rfl (u := .slice (some ⟨b35, 0, none⟩) s.n s.n) (j := 0 + c * 15 + 11) hI rfl rfl rfl rfl rfl rfl (by kernel_rfl) rfl (clX_blt hc (by omega)) (clX_set (x := { x with round := x.round + 1, telling := decide ((what : Int) = 2) }) (cv := cntV L s c) (x' := { x with round := x.round + 1, telling := decide ((what : Int) = 2) }) (cv' := .slice (some ⟨b35, 0, none⟩) s.n s.n) hc 11 (by omega) rfl) ?_
 intro w hI
 refine Wn ?_
 have hdt : decide ((what : Int) = 2) = decide (what = 2) := decide_eq_decide.2 (by omega)
 rw [hdt] at hI
 obtain ⟨s1, hs1⟩ : ∃ s1, setCl s c (roundC s c what) = s1 := ⟨_, rfl⟩
 obtain ⟨L1, hL1⟩ : ∃ L1 : StL, { L with cw := fun i => if i = c then some b35 else L.cw i } = L1 := ⟨_, rfl⟩
 have hcl1 : s1.cl c = roundC s c what := by rw [← hs1]; exact if_pos rfl
 have hcw1 : L1.cw c = some b35 := by rw [← hL1]; exact if_pos rfl
 have hclo : ∀ i, i ≠ c → s1.cl i = s.cl i := fun i hi => by rw [← hs1]; exact if_neg hi
 have hcwo : ∀ i, i ≠ c → L1.cw i = L.cw i := fun i hi => by rw [← hL1]; exact if_neg hi
 have hn1 : s1.n = s.n := by rw [← hs1]; rfl
 have hk1 : s1.k = s.k := by rw [← hs1]; rfl
 have hm1 : s1.mails = s.mails := by rw [← hs1]; rfl
 have hcv1 : cntV L1 s1 c = .slice (some ⟨b35, 0, none⟩) s.n s.n := by unfold cntV; rw [hcw1, hn1]
 have hF1 : clF L1 s1 c = clL { x with round := x.round + 1, telling := decide (what = 2) } (.slice (some ⟨b35, 0, none⟩) s.n s.n) := by
  unfold clF
  rw [hcl1, hcv1, ← hx]
  rfl
 have hend : clX s.k L s c { x with round := x.round + 1, telling := decide (what = 2) } (.slice (some ⟨b35, 0, none⟩) s.n s.n) = flatB s.k (clF L1 s1) := clX_end hF1.symm fun i hi hic => by
  unfold clF cntV
  rw [hclo i hic, hcwo i hic, hn1]
 replace hI : Inv S w0 w ([B b7 97 (entL e).toArray] ++ spt L1 s1) := by
  rw [rep_bools] at hI
  replace hI := (hI.pull 5 rfl).sw0
  have h2 : Inv S w0 w [B b35 4 (boolsV (s1.cl c).counted).toArray, Many s.k (cntE L s), B b7 97 (entL e).toArray, B L.sb 93 (stoC L s), B L.nb 98 (flatB (s.n * 8) (ndF s)), B L.cb 238 (flatB s.k (clF L1 s1)), Row 0 194 9 L.MA s.mails.length L.mc (s.mails.flatMap mailL),
    Row 0 113 1 L.LA L.ln L.lc L.lv, RowsE L.lv L.LD, Row 0 70 7 L.EA s.evs.length L.ec (s.evs.flatMap evL), Row 0 95 2 L.SA s.sts.length L.sc (s.sts.flatMap stmL)] := by
   rw [hcl1, ← hend]; exact hI
  have h3 := (h2.cnew (L' := L1) (s' := s1) hc hcw1 (fun i hi hic => by unfold cntE; rw [hclo i hic, hcwo i hic])).back 4
  clear hI h2 hend hF1 hcv1 hcl1 hclo hcw1 hcwo
  subst hs1 hL1
  exact h3
 have hr1 : (s1.cl c).round = (s.cl c).round + 1 := by rw [hcl1]; rfl
 have hk1c : (s1.cl c).began.key = ((keyC s c : Nat) : Int) := by rw [hcl1]; show (s.cl c).began.key = _; unfold keyC; rw [hx]; omega
 have hq : ∀ w MA mc ms, Inv S w0 w ([B b7 97 (entL e).toArray] ++ spt { L1 with MA := MA, mc := mc } { s1 with mails := ms }) → w.cell? ⟨L.cb, 0 + c * 15 + 10, none⟩ = some (.int .i64 (((s.cl c).round + 1 : Nat) : Int)) ∧ w.cell? ⟨L.cb, 0 + c * 15 + 4, none⟩ = some (.int .i64 ((keyC s c : Nat) : Int)) := fun w MA mc ms hI => by
  have h := clF_at (c := c) 3 rfl hI (by show c < s1.k; omega)
  have hcb : L1.cb = L.cb := by rw [← hL1]
  have h10 : w.cell? ⟨L1.cb, 0 + c * 15 + 10, none⟩ = some (.int .i64 ((s1.cl c).round : Int)) := h.c10
  have h4 : w.cell? ⟨L1.cb, 0 + c * 15 + 4, none⟩ = some (.int .i64 (s1.cl c).began.key) := h.c4
  rw [hcb] at h10 h4
  rw [hr1] at h10
  rw [hk1c] at h4
  exact ⟨h10, h4⟩
 have hn7 : s1.n ≤ 7 := by omega
 have hsb : L1.sb = L.sb := by rw [← hL1]
 have hz : sendTo s c what e 0 = s1.mails := by rw [hm1]; rfl
 clear hcl1 hcw1 hclo hcwo hn1 hk1 hm1 hcv1 hF1 hend hr1 hk1c hsb hdt
 subst hL1
 subst hs1
 refine Wq (V9 rfl (Vb rfl (V7 5 rfl (V5 (.slice _ _ _) rfl (hI.c1 rfl) (Vs rfl underlying84 rfl (V0 rfl (Wn (Wb ?_))))))))
 refine W_loop (fun ρ w => ∃ (j : Nat) (MA : Option Addr) (mc : Nat), j ≤ s.n ∧ Has ρ [(43, .int .i64 (j : Int)), (42, .int .i64 (s.n : Int)), (0, .pointer (some ⟨L.sb, 0, none⟩)), (1, .int .i64 (c : Int)), (2, .int .i64 (what : Int)), (7, .pointer (some ⟨b7, 0, none⟩)), (8, .pointer (some ⟨L.cb, 0 + c * 15, none⟩))] ∧
  Inv S w0 w ([B b7 97 (entL e).toArray] ++ spt { L with cw := fun i => if i = c then some b35 else L.cw i, MA := MA, mc := mc } { setCl s c (roundC s c what) with mails := sendTo s c what e j })) (fun ρ _ => s.n - cnt (ρ 43))
  ⟨0, L.MA, L.mc, by omega, ⟨rfl, rfl, rfl, rfl, rfl, rfl, rfl, trivial⟩, hI⟩ ?_
 clear hI
 rintro ρ w ⟨j, MA, mc, hj, hH, hI⟩
 obtain ⟨σ, rfl⟩ := hH.open
 by_cases hjn : j < s.n
 rotate_left
 ·obtain rfl : j = s.n := by omega
  refine Wq (Vr rfl (Wn (Ws (Wc false rfl ?_))))
  refine WE ?_
  exact ret0 (.inl rfl) rfl ⟨rfl, b35, MA, mc, hI.d0⟩
 refine Wq (Vt rfl (Wn (Ws (Wc true rfl (Wk (Ws (Wb (Wq (V0 rfl (Vc rfl (Wn ?_)))))))))))
 refine Ws (Wd (by kernel_rfl) ?_)
 refine Wi (T := [14]) hI.drew ?_
 intro Sx hY hZ
 have hI := hI.drew
 refine Vx 0 rfl (Vx 1 rfl (Vl 2 rfl (Vm 3 rfl (Th 4 10 rfl (Vd 5 (.int .i64 _) rfl (fun W hW => have hI := hY W hW; (hq _ _ _ _ hI).1) (Vl 6 rfl (Vm 7 rfl (Th 8 2 rfl (Th 9 2 rfl (Vd 10 (.int .i64 _) rfl (fun W hW => have hI := hY W hW; (hq _ _ _ _ hI).2) ?_))))))))))
 refine Uh 11 3 (entL e) rfl (fun W hW => have hI := hY W hW; fun k u hk => hI.cell 0 rfl (by rw [Nat.zero_add, List.getElem?_toArray]; exact hk)) ?_
 refine U7 12 [(0, .int .i64 _), (1, .int .i64 _), (2, .int .i64 _), (3, .int .i64 _), (4, .agg #[_, _, _])] [_, _, _, _, _, _, _] rfl [.int .i64 0, .int .i64 0, .int .i64 0, .int .i64 0, .int .i64 0, .int .i64 0, .int .i64 0] [0, 1, 2, 3, 4] rfl (fun _ _ => fun _ => by kernel_rfl) (Vu 13 rfl ?_)
 refine T1 (.agg zI7) (zI7) hI rfl ?_
 rintro b10 w - - hI
 refine Wn ⟨hZ _ hI.d0, ?_⟩
 refine WT_A (by kernel_rfl) ?_
 clear hZ hY
 refine T2 14 rfl ?_
 refine T7 7 ((msgL (sendM s c what e j).m).toArray) (.agg (msgL (sendM s c what e j).m).toArray) hI rfl ?_
 intro w hI
 refine Wn ?_
 refine WA_end (by kernel_rfl) ?_
 refine Wd (by kernel_rfl) ?_
 refine Wi (T := [13]) hI.drew ?_
 intro Sx hY hZ
 have hI := hI.drew
 refine Vl 0 rfl (Vm 1 rfl (Vf 2 7 rfl (Vl 3 rfl (Vm 4 rfl (Vf 5 0 rfl (Vf 6 0 rfl (Vd 7 (.int .i64 (s.n : Int)) rfl (fun W hW => (hY W hW).c2 rfl) (Vx 8 rfl ?_))))))))
 refine Wt 9 rfl (fun W hW => have hI := hY W hW; (rAddNN rfl rfl rfl (by omega))) ?_
 refine Vx 10 rfl ?_
 refine Uh 11 7 (msgL (sendM s c what e j).m) rfl (fun W hW => have hI := hY W hW; fun k u hk => hI.cell 0 rfl (by rw [Nat.zero_add, List.getElem?_toArray]; exact hk)) ?_
 refine U7 12 [(0, .int .i64 ((s.n + c : Nat) : Int)), (1, .int .i64 (j : Int)), (2, .agg (msgL (sendM s c what e j).m).toArray)] (mailL (sendM s c what e j)) rfl [.int .i64 0, .int .i64 0, .int .i64 0, .int .i64 0, .int .i64 0, .int .i64 0, .int .i64 0, .int .i64 0, .int .i64 0] [0, 1, 2] rfl (fun _ _ => fun _ => by kernel_rfl) ?_
 refine WT_A (by kernel_rfl) ?_
 clear hZ hY
 refine T2 13 rfl ?_
 refine Va [.pointer _, .agg _] rfl func120 rfl ?_
 refine (send_any { L with cw := fun i => if i = c then some b35 else L.cw i, MA := MA, mc := mc } { setCl s c (roundC s c what) with mails := sendTo s c what e j } (sendM s c what e j) (DLs _) _ (hI.fromB (X := [_, _]))).mono ?_
 rintro en w1 ⟨⟨v, rfl⟩, MA', mc', hJ⟩
 refine rV ?_
 have hI := hI.callB (X := [_, _]) hJ
 refine Wn ?_
 refine WA_end (by kernel_rfl) ?_
 refine Wr (Vv rfl (V0 rfl (Wn ?_)))
 refine ⟨⟨j + 1, MA', mc', by omega, ⟨rfl, rfl, rfl, rfl, rfl, rfl, rfl, trivial⟩, ?_⟩, by show s.n - ((j + 1 : Nat) : Int).toNat < s.n - (j : Int).toNat; omega⟩
 rw [sendTo_succ]
 have hI := hI.erase 0
 exact hI
theorem cntV_one (L : StL) (s : StS) (c : Nat) : (cntV L s c).oneCell' = true := by
 unfold cntV
 split <;> rfl
theorem clL_one (x : SCl) {cv : Value} (h : cv.oneCell' = true) : (clL x cv).all (·.oneCell') = true := by
 simp [clL, Value.oneCell']
 exact h
theorem fl_sub {w : World} {b k i m : Nat} {t : TypeId} {f : Nat → List Value} (h : Blk w b t (flatB k f)) (hm : ∀ i, (f i).length = m) (hi : i < k) (off : Nat) {l : List Value} (r : List Value) (hl : (f i).drop off = l ++ r) :
  ∀ (j : Nat) (v : Value), l[j]? = some v → w.cell? ⟨b, 0 + i * m + off + j, none⟩ = some v := fun j v hj => by
 rw [h.cell, Nat.zero_add, Nat.add_assoc]
 refine flatB_get hm hi ?_
 rw [← List.getElem?_drop, hl, List.getElem?_append_left (List.getElem?_eq_some_iff.1 hj).1]
 exact hj
section
variable {S : Nat → Prop} {w0 w : World} {H : List Ent} {b k c : Nat} {t : TypeId} {L : StL} {s : StS} {x : SCl} {cv : Value}
theorem clF_sub (i : Nat) (hi : H[i]? = some (B b t (flatB k (clF L s)))) (hI : Inv S w0 w H) (hc : c < k) (off : Nat) {l : List Value} (r : List Value) (hl : (clF L s c).drop off = l ++ r) : ∀ (j : Nat) (v : Value), l[j]? = some v → w.cell? ⟨b, 0 + c * 15 + off + j, none⟩ = some v :=
 fl_sub (hI.ok _ (List.mem_of_getElem? hi)).1 (fun i => clF_len L s i) hc off r hl
theorem clF_all (i : Nat) (hi : H[i]? = some (B b t (flatB k (clF L s)))) (hI : Inv S w0 w H) (hc : c < k) : ∀ (j : Nat) (v : Value), (clF L s c)[j]? = some v → w.cell? ⟨b, 0 + c * 15 + j, none⟩ = some v :=
 clF_sub i hi hI hc 0 [] (by rw [List.drop_zero, List.append_nil])
end
structure MayB (s : StS) (c : Int) (c' : Nat) : Prop where
 eq : c = (c' : Int)
 lt : c' < s.k
 busy : (s.cl c').busy = false
 gone : (s.cl c').gone = false
 room : s.evs.length + 2 + busyN s s.k ≤ 120
theorem free_any (L : StL) (s : StS) (c : Int) (hk8 : s.k ≤ 8) (hel : s.evs.length ≤ 1000) (S : Nat → Prop) (w0 : World) (hI : Inv S w0 w0 (spt L s)) :
  Cq 74 #[.pointer (some ⟨L.sb, 0, none⟩), .int .i64 c] w0 fun en w' => ((en = .returned .nilIface ∧ ∃ c', MayB s c c') ∨ ((∃ n, en = .returned (.iface 45 (.int .i64 n))) ∧ ∀ c', ¬ MayB s c c')) ∧ Inv S w0 w' (spt L s) := by
 refine Vn func74 rfl ?_
 refine Wq (Vj rfl (Wn ?_))
 have hc6 : ∀ w X, Inv S w0 w (X ++ spt L s) → w.cell? ⟨L.sb, 6, none⟩ = some (.slice (some ⟨L.cb, 0, none⟩) s.k s.k) := fun w X hI => hI.fromB.cell 0 rfl rfl
 by_cases hc : 0 ≤ c ∧ c < (s.k : Int)
 rotate_left
 ·refine Ws (Wq (V9 rfl (V0 rfl (Va [.pointer _, .int .i64 _] rfl func113 rfl ?_))))
  refine (shas_any L.sb c _ _ _ _ (hc6 _ [] hI)).mono ?_
  rintro e w1 ⟨rfl, hp⟩
  rw [decide_eq_false hc]
  refine rV ?_
  have hI := hI.pure hp
  refine Ti rfl (Wn (Wc true rfl (Wq (T6 rfl yy45 rfl (Vp rfl (Wn ?_))))))
  exact WR (r1_ 4 rfl ⟨.inr ⟨⟨_, rfl⟩, fun c' hm => hc (by have := hm.eq; have := hm.lt; omega)⟩, hI⟩)
 obtain ⟨j, rfl⟩ : ∃ j : Nat, c = (j : Int) := ⟨c.toNat, by omega⟩
 have hj : j < s.k := by omega
 refine Ws (Wq (V9 rfl (V0 rfl (Va [.pointer _, .int .i64 _] rfl func113 rfl ?_))))
 refine (shas_any L.sb (j : Int) _ _ _ _ (hc6 _ [] hI)).mono ?_
 rintro e w1 ⟨rfl, hp⟩
 rw [decide_eq_true hc]
 refine rV ?_
 have hI := hI.pure hp
 refine T9 rfl (Wn (Wc false rfl (Wk ?_)))
 have hq : ∀ w, Inv S w0 w (spt L s) → ClAt w L.cb (0 + j * 15) (s.cl j) (cntV L s j) := fun w hI => clF_at 2 rfl hI hj
 have hc6' : ∀ w, Inv S w0 w (spt L s) → w.cell? ⟨L.sb, 6, none⟩ = some (.slice (some ⟨L.cb, 0, none⟩) s.k s.k) := fun w hI => hc6 w [] hI
 have hc10 : ∀ w, Inv S w0 w (spt L s) → w.cell? ⟨L.sb, 10, none⟩ = some (.slice L.EA s.evs.length L.ec) := fun w hI => hI.cell 0 rfl rfl
 refine Ws ?_
 refine Wx (fun ρ w => (((s.cl j).busy = true ∨ (s.cl j).gone = true) → ρ 30 = .bool true) ∧ ((s.cl j).busy = false → (s.cl j).gone = false → ρ 30 = .bool false) ∧ Has ρ [(0, .pointer (some ⟨L.sb, 0, none⟩)), (1, .int .i64 (j : Int))] ∧ Inv S w0 w (spt L s)) ?_ ?_
 ·cases hb : (s.cl j).busy with
  | true =>
   have hq0 : ∀ w, Inv S w0 w (spt L s) → w.cell? ⟨L.cb, 0 + j * 15, none⟩ = some (.bool true) := fun w hI => by have := (hq w hI).c0; rw [hb] at this; exact this
   refine Wr (V9 rfl (Vb rfl (V7 6 rfl (V5 (.slice _ _ _) rfl (hc6' _ hI) (V0 rfl (Tt 15 rfl yy85 rfl (Tj rfl (V5 (.bool _) rfl (hq0 _ hI) (V6 rfl (V4 rfl (V4 rfl (V4 rfl (V4 rfl ?_)))))))))))))
   refine V4 rfl (V4 rfl (V4 rfl (V4 rfl (Vk rfl (Wn ?_)))))
   exact ⟨fun _ => rfl, fun h => (by cases h), ⟨rfl, rfl, trivial⟩, hI⟩
  | false =>
   have hq0 : ∀ w, Inv S w0 w (spt L s) → w.cell? ⟨L.cb, 0 + j * 15, none⟩ = some (.bool false) := fun w hI => by have := (hq w hI).c0; rw [hb] at this; exact this
   cases hgn : (s.cl j).gone with
   | true =>
    have hq1 : ∀ w, Inv S w0 w (spt L s) → w.cell? ⟨L.cb, 0 + j * 15 + 1, none⟩ = some (.bool true) := fun w hI => by have := (hq w hI).c1; rw [hgn] at this; exact this
    refine Wr (V9 rfl (Vb rfl (V7 6 rfl (V5 (.slice _ _ _) rfl (hc6' _ hI) (V0 rfl (Tt 15 rfl yy85 rfl (Tj rfl (V5 (.bool _) rfl (hq0 _ hI) (V6 rfl (V9 rfl (Vb rfl (V7 6 rfl (V5 (.slice _ _ _) rfl (hc6' _ hI) ?_)))))))))))))
    refine V0 rfl (Tt 15 rfl yy85 rfl (Tf 1 rfl (V5 (.bool _) rfl (hq1 _ hI) (Ve rfl (Wn ?_)))))
    exact ⟨fun _ => rfl, fun _ h => (by cases h), ⟨rfl, rfl, trivial⟩, hI⟩
   | false =>
    have hq1 : ∀ w, Inv S w0 w (spt L s) → w.cell? ⟨L.cb, 0 + j * 15 + 1, none⟩ = some (.bool false) := fun w hI => by have := (hq w hI).c1; rw [hgn] at this; exact this
    refine Wr (V9 rfl (Vb rfl (V7 6 rfl (V5 (.slice _ _ _) rfl (hc6' _ hI) (V0 rfl (Tt 15 rfl yy85 rfl (Tj rfl (V5 (.bool _) rfl (hq0 _ hI) (V6 rfl (V9 rfl (Vb rfl (V7 6 rfl (V5 (.slice _ _ _) rfl (hc6' _ hI) ?_)))))))))))))
    refine V0 rfl (Tt 15 rfl yy85 rfl (Tf 1 rfl (V5 (.bool _) rfl (hq1 _ hI) (Ve rfl (Wn ?_)))))
    exact ⟨fun h => (by rcases h with h | h <;> cases h), fun _ _ => rfl, ⟨rfl, rfl, trivial⟩, hI⟩
 clear hI
 rintro ρ w ⟨hT, hF, hH, hI⟩
 by_cases hbg : (s.cl j).busy = true ∨ (s.cl j).gone = true
 ·refine Wc true (hT hbg) (Wq (T6 rfl yy45 rfl (Vp rfl (Wn ?_))))
  refine WR ?_
  exact r1_ 4 rfl ⟨.inr ⟨⟨_, rfl⟩, fun c' hm => by
   obtain rfl : j = c' := by have := hm.eq; omega
   rcases hbg with h | h
   ·rw [hm.busy] at h; cases h
   rw [hm.gone] at h; cases h⟩, hI⟩
 have hb : (s.cl j).busy = false := by cases h : (s.cl j).busy; rfl; exact absurd (.inl h) hbg
 have hgn : (s.cl j).gone = false := by cases h : (s.cl j).gone; rfl; exact absurd (.inr h) hbg
 refine Wc false (hF hb hgn) (Wk ?_)
 clear hT hF
 obtain ⟨σ, rfl⟩ := hH.open
 have hbl : ∀ i, busyN s i ≤ i := busyN_le s
 refine Wq (V9 rfl (Vb rfl (V7 10 rfl (V5 (.slice _ _ _) rfl (hc10 _ hI) (Vs rfl yy28 rfl (Ud rfl (Vc rfl (Wn ?_))))))))
 refine Wx (fun ρ w => Has ρ [(5, .int .i64 ((s.evs.length + 2 + busyN s s.k : Nat) : Int))] ∧ Inv S w0 w (spt L s)) ?_ ?_
 ·refine Wq (V9 rfl (Vb rfl (V7 6 rfl (V5 (.slice _ _ _) rfl (hc6' _ hI) (Vs rfl yy85 rfl (V0 rfl (Wn (Wb ?_))))))))
  refine W_loop (fun ρ w => ∃ i : Nat, i ≤ s.k ∧ Has ρ [(43, .int .i64 (i : Int)), (42, .int .i64 (s.k : Int)), (41, .slice (some ⟨L.cb, 0, none⟩) s.k s.k), (5, .int .i64 ((s.evs.length + 2 + busyN s i : Nat) : Int))] ∧ Inv S w0 w (spt L s)) (fun ρ _ => s.k - cnt (ρ 43))
   ⟨0, by omega, ⟨rfl, rfl, rfl, rfl, trivial⟩, hI⟩ ?_
  clear hI
  rintro ρ w ⟨i, hi, hH, hI⟩
  obtain ⟨σ, rfl⟩ := hH.open
  have hbi := hbl i
  by_cases hik : i < s.k
  rotate_left
  ·obtain rfl : i = s.k := by omega
   refine Wq (Vr rfl (Wn (Ws (Wc false rfl ?_))))
   refine WE ?_
   exact ⟨⟨rfl, trivial⟩, hI⟩
  have hbs := busyN_succ s i
  refine Wq (Vt rfl (Wn (Ws (Wc true rfl (Wk (Ws (Wb (Wq (Tt 15 rfl yy85 rfl (Ug 15 (clF L s i) rfl (clF_all 2 rfl hI hik) (T1 (.agg #[.bool false, .bool false, .int .i64 0, .int .i64 0, .int .i64 0, .int .i64 0, .int .i64 0, .int .i64 0, .int .i64 0, .bool false, .int .i64 0, .slice none 0 0, .int .i64 0, .int .i64 0, .int .i64 0]) (#[.bool false, .bool false, .int .i64 0, .int .i64 0, .int .i64 0, .int .i64 0, .int .i64 0, .int .i64 0, .int .i64 0, .bool false, .int .i64 0, .slice none 0 0, .int .i64 0, .int .i64 0, .int .i64 0]) hI rfl ?_)))))))))))
  rintro b7 w - - hI
  refine WL_stw0 (u := .agg (clF L s i).toArray) (vs := (clF L s i).toArray) (n := 15) hI rfl rfl rfl rfl rfl rfl (by kernel_rfl) rfl rfl (clL_one _ (cntV_one L s i)) ?_
  intro w hI
  refine Wn ?_
  cases hbz : (s.cl i).busy with
  | true =>
   rw [if_pos hbz] at hbs
   have hz : w.cell? ⟨b7, 0, none⟩ = some (.bool true) := by have := hI.c0 (j := 0) (v := .bool (s.cl i).busy) rfl; rw [hbz] at this; exact this
   refine Wq (V7 0 rfl (V5 (.bool _) rfl hz (Wn (Wc true rfl (Wr (V0 rfl (Vv rfl (Vc rfl (Wn (Wr (Vv rfl (V0 rfl ?_))))))))))))
   refine Wn ?_
   refine ⟨⟨i + 1, by omega, ⟨rfl, rfl, rfl, ?_, trivial⟩, hI.d0⟩, by show s.k - ((i + 1 : Nat) : Int).toNat < s.k - (i : Int).toNat; omega⟩
   rw [hbs]; rfl
  | false =>
   rw [if_neg (by rw [hbz]; decide)] at hbs
   have hz : w.cell? ⟨b7, 0, none⟩ = some (.bool false) := by have := hI.c0 (j := 0) (v := .bool (s.cl i).busy) rfl; rw [hbz] at this; exact this
   refine Wq (V7 0 rfl (V5 (.bool _) rfl hz (Wn (Wc false rfl (Wk (Wr (Vv rfl (V0 rfl (Wn ?_)))))))))
   refine ⟨⟨i + 1, by omega, ⟨rfl, rfl, rfl, ?_, trivial⟩, hI.d0⟩, by show s.k - ((i + 1 : Nat) : Int).toNat < s.k - (i : Int).toNat; omega⟩
   rw [hbs]; rfl
 clear hI
 rintro ρ w ⟨hH, hI⟩
 obtain ⟨σ, rfl⟩ := hH.open
 by_cases hroom : s.evs.length + 2 + busyN s s.k ≤ 120
 ·refine Ws (Wq (V0 rfl (Tc rfl (Wn (Wc false rfl (Wk (Wq (Vj rfl (Wn ?_)))))))))
  exact WR (r1_ 4 rfl ⟨.inl ⟨rfl, j, rfl, hj, hb, hgn, hroom⟩, hI⟩)
 refine Ws (Wq (V0 rfl (Tq rfl (Wn (Wc true rfl (Wq (T6 rfl yy45 rfl (Vp rfl (Wn ?_)))))))))
 exact WR (r1_ 4 rfl ⟨.inr ⟨⟨_, rfl⟩, fun c' hm => hroom hm.room⟩, hI⟩)
theorem cl_back {S : Nat → Prop} {w0 w : World} {X : List Ent} {L : StL} {s : StS} {c : Nat} {x' : SCl} (hc : c < s.k) (hct : x'.counted = (s.cl c).counted)
  (hI : Inv S w0 w (X ++ [B L.sb 93 (stoC L s), B L.nb 98 (flatB (s.n * 8) (ndF s)), B L.cb 238 (clX s.k L s c x' (cntV L s c)), Many s.k (cntE L s), Row 0 194 9 L.MA s.mails.length L.mc (s.mails.flatMap mailL),
  Row 0 113 1 L.LA L.ln L.lc L.lv, RowsE L.lv L.LD, Row 0 70 7 L.EA s.evs.length L.ec (s.evs.flatMap evL), Row 0 95 2 L.SA s.sts.length L.sc (s.sts.flatMap stmL)])) : Inv S w0 w (X ++ spt L (setCl s c x')) := by
 have h1 : clX s.k L s c x' (cntV L s c) = flatB s.k (clF L (setCl s c x')) := clX_end (by
  unfold clF
  rw [show (setCl s c x').cl c = x' from if_pos rfl]; rfl) fun i _ hi => by
  unfold clF
  rw [show (setCl s c x').cl i = s.cl i from if_neg hi]; rfl
 have h2 : cntE L s = cntE L (setCl s c x') := by
  funext i
  unfold cntE
  by_cases hi : i = c
  ·subst hi
   rw [show (setCl s i x').cl i = x' from if_pos rfl, hct]
  rw [show (setCl s c x').cl i = s.cl i from if_neg hi]
 rw [h1, h2] at hI
 exact hI
theorem done_any (L : StL) (s : StS) (c : Nat) (hc : c < s.k) (hk8 : s.k ≤ 8) (hel : s.evs.length ≤ 1000 ∧ s.sts.length ≤ 1000) (S : Nat → Prop) (w0 : World) (hI : Inv S w0 w0 (spt L s)) :
  Cq 121 #[.pointer (some ⟨L.sb, 0, none⟩), .int .i64 (c : Int)] w0 fun en w' => en = .returned (.tuple #[]) ∧ ∃ EA ec SA sc, Inv S w0 w' (spt { L with EA := EA, ec := ec, SA := SA, sc := sc } (doneS s c)) := by
 refine Vn func121 rfl ?_
 refine Wq (V9 rfl (Vb rfl (V7 6 rfl (V5 (.slice _ _ _) rfl (hI.cell 0 rfl rfl) (V0 rfl (Tt 15 rfl yy85 rfl (Tm rfl (Wn (Wq (V9 rfl (Vb rfl ?_)))))))))))
 refine Tf 2 rfl (Ug 7 (evL (s.cl c).began) rfl (clF_sub 2 rfl hI hc 2 _ rfl) (T1 (.agg zI7) (zI7) hI rfl ?_))
 rintro b5 w - - hI
 refine T7 7 ((evL (s.cl c).began).toArray) (.agg (evL (s.cl c).began).toArray) hI rfl ?_
 intro w hI
 refine Wn (Wq (V7 1 rfl ?_))
 refine WL_st0 (u := .int .i64 2) (j := 1) (cs' := (evL { (s.cl c).began with ty := 2 }).toArray) hI rfl rfl rfl rfl rfl rfl (by kernel_rfl) rfl rfl rfl ?_
 intro w hI
 refine Wn ?_
 obtain ⟨x, hx⟩ : ∃ x, s.cl c = x := ⟨_, rfl⟩
 refine Wx (fun ρ w => Has ρ [(0, .pointer (some ⟨L.sb, 0, none⟩)), (1, .int .i64 (c : Int)), (4, .pointer (some ⟨L.cb, 0 + c * 15, none⟩)), (5, .pointer (some ⟨b5, 0, none⟩))] ∧ Inv S w0 w ([B b5 70 (evL (evD x)).toArray] ++ spt L s)) ?_ ?_
 ·by_cases hk : x.began.kind = 1
  ·have hz : w.cell? ⟨b5, 3, none⟩ = some (.int .i64 1) := by have := hI.c0 (j := 3) (v := .int .i64 (s.cl c).began.kind) rfl; rw [hx, hk] at this; exact this
   refine Wq (V7 3 rfl (V5 (.int .i64 _) rfl hz (T5 rfl (Wn (Wc true rfl (Wr (V9 rfl (Vb rfl (Tf 12 rfl (Tf 2 rfl (V5 (.int .i64 _) rfl ((clF_at 3 rfl hI hc).c14) (V7 6 rfl ?_))))))))))))
   refine WL_st0 (u := .int .i64 (s.cl c).best.v) (j := 6) (cs' := (evL { (s.cl c).began with ty := 2, res := (s.cl c).best.v }).toArray) hI rfl rfl rfl rfl rfl rfl (by kernel_rfl) rfl rfl rfl ?_
   intro w hI
   refine Wn ?_
   refine ⟨⟨rfl, rfl, rfl, rfl, trivial⟩, ?_⟩
   have : evD x = { (s.cl c).began with ty := 2, res := (s.cl c).best.v } := by unfold evD; rw [if_pos hk, hx]
   rw [this]
   exact hI
  have hz : w.cell? ⟨b5, 3, none⟩ = some (.int .i64 x.began.kind) := by have := hI.c0 (j := 3) (v := .int .i64 (s.cl c).began.kind) rfl; rw [hx] at this; exact this
  refine Wq (V7 3 rfl (V5 (.int .i64 _) rfl hz (Vw rfl (Wn (Wc false rfl (Wk ?_))))))
  refine ⟨⟨rfl, rfl, rfl, rfl, trivial⟩, ?_⟩
  have : evD x = { (s.cl c).began with ty := 2 } := by unfold evD; rw [if_neg hk, hx]
  rw [this]
  exact hI
 clear hI
 rintro ρ w ⟨hH, hI⟩
 obtain ⟨σ, rfl⟩ := hH.open
 refine Ws (Wd (by kernel_rfl) ?_)
 refine Wi (T := [7]) hI.drew ?_
 intro Sx hY hZ
 have hI := hI.drew
 refine Vl 0 rfl ?_
 refine Uh 1 7 (evL (evD x)) rfl (fun W hW => have hI := hY W hW; fun k u hk => hI.cell 0 rfl (by rw [Nat.zero_add, List.getElem?_toArray]; exact hk)) ?_
 refine Vl 2 rfl (Vm 3 rfl (Th 4 12 rfl (U9 5 rfl (Uh 6 2 (stmL (s.cl c).best) rfl (fun W hW => have hI := hY W hW; clF_sub 3 rfl hI hc 12 _ rfl) ?_))))
 refine WT_A (by kernel_rfl) ?_
 clear hZ hY
 refine T2 7 rfl ?_
 refine Va [.pointer _, .agg _, .agg _] rfl func114 rfl ?_
 refine (see_any L s (evD x) ⟨(s.cl c).best.t, (s.cl c).best.c, 0⟩ (DLs _) _ (hI.fromB (X := [_])) hel).mono ?_
 rintro en w1 ⟨rfl, EA, ec, SA, sc, hJ⟩
 refine rV ?_
 have hI := hI.callB (X := [_]) hJ
 refine Wn ?_
 refine WA_end (by kernel_rfl) ?_
 have hI := hI.d0
 unfold spt at hI
 rw [← clX_start (c := c)] at hI
 refine Wr (V9 rfl (Vb rfl (Tj rfl ?_)))
 refine WL_st 2 rfl (u := .bool false) (j := 0 + c * 15) hI rfl rfl rfl rfl rfl rfl (by kernel_rfl) rfl (clX_blt0 hc) (clX_set0 (x := (obsF s (evD x) ⟨(s.cl c).best.t, (s.cl c).best.c, 0⟩).cl c) (cv := cntV { L with EA := EA, ec := ec, SA := SA, sc := sc } (obsF s (evD x) ⟨(s.cl c).best.t, (s.cl c).best.c, 0⟩) c) (cv' := cntV { L with EA := EA, ec := ec, SA := SA, sc := sc } (obsF s (evD x) ⟨(s.cl c).best.t, (s.cl c).best.c, 0⟩) c) (x' := { (obsF s (evD x) ⟨(s.cl c).best.t, (s.cl c).best.c, 0⟩).cl c with busy := false }) hc rfl) ?_
 intro w hI
 refine Wn ?_
 refine ret0 (.inl rfl) rfl ⟨rfl, EA, ec, SA, sc, ?_⟩
 subst hx
 exact cl_back (X := []) (L := { L with EA := EA, ec := ec, SA := SA, sc := sc }) (s := obsF s (evD (s.cl c)) ⟨(s.cl c).best.t, (s.cl c).best.c, 0⟩) hc rfl hI
section
variable {S : Nat → Prop} {w0 w : World} {X : List Ent} {L : StL} {s : StS} {c : Nat}
theorem sp_cl (hI : Inv S w0 w (X ++ spt L s)) (hc : c < s.k) : ClAt w L.cb (0 + c * 15) (s.cl c) (cntV L s c) := clF_at 2 rfl hI.fromB hc
theorem sp_sub (hI : Inv S w0 w (X ++ spt L s)) (hc : c < s.k) (off : Nat) {l : List Value} (r : List Value) (hl : (clF L s c).drop off = l ++ r) : ∀ (j : Nat) (v : Value), l[j]? = some v → w.cell? ⟨L.cb, 0 + c * 15 + off + j, none⟩ = some v := clF_sub 2 rfl hI.fromB hc off r hl
theorem sp_cnt (hI : Inv S w0 w (X ++ spt L s)) (hc : c < s.k) {b : Nat} (hb : L.cw c = some b) : Blk w b 4 (boolsV (s.cl c).counted).toArray := by
 have h := (hI.fromB.ok _ (List.mem_of_getElem? (i := 3) rfl)).1.1 c hc
 unfold cntE at h
 rw [hb] at h
 exact h.1
theorem sp_c5 (hI : Inv S w0 w (X ++ spt L s)) : w.cell? ⟨L.sb, 5, none⟩ = some (.slice (some ⟨L.nb, 0, none⟩) s.n s.n) := hI.fromB.cell 0 rfl rfl
theorem sp_c6 (hI : Inv S w0 w (X ++ spt L s)) : w.cell? ⟨L.sb, 6, none⟩ = some (.slice (some ⟨L.cb, 0, none⟩) s.k s.k) := hI.fromB.cell 0 rfl rfl
theorem sp_c0 (hI : Inv S w0 w (X ++ spt L s)) : w.cell? ⟨L.sb, 0, none⟩ = some (.int .i64 (s.n : Int)) := hI.fromB.cell 0 rfl rfl
theorem nd_off (j key off : Nat) : 0 + j * 24 + key * 3 + off = (j * 8 + key) * 3 + off := by omega
theorem ndF_at {j key : Nat} (hk : key < 8) : ndF s (j * 8 + key) = entL (s.ent j key) := by
 unfold ndF
 rw [show (j * 8 + key) / 8 = j by omega, show (j * 8 + key) % 8 = key by omega]
theorem sp_nd (hI : Inv S w0 w (X ++ spt L s)) {j key : Nat} (hj : j < s.n) (hk : key < 8) : ∀ (off : Nat) (v : Value), (entL (s.ent j key))[off]? = some v → w.cell? ⟨L.nb, 0 + j * 24 + key * 3 + off, none⟩ = some v := fun off v hv => by
 have hB : Blk w L.nb 98 (flatB (s.n * 8) (ndF s)) := (hI.fromB.ok _ (List.mem_of_getElem? (i := 1) rfl)).1
 rw [hB.cell, nd_off]
 exact flatB_get (fun i => ndF_len s i) (by omega) (by rw [ndF_at hk]; exact hv)
theorem ndF_set {j key : Nat} {e : SEnt} (hj : j < s.n) (hk : key < 8) : splice (flatB (s.n * 8) (ndF s)) (0 + j * 24 + key * 3) (entL e) = flatB (s.n * 8) (ndF (setEnt s j key e)) := by
 have h0 := nd_off j key 0
 rw [Nat.add_zero] at h0
 rw [h0]
 refine flatB_splice (fun i => ndF_len s i) (fun i => ndF_len _ i) (by omega) (by simp [entL]) (fun i hi => ?_) ?_
 ·show entL ((setEnt s j key e).ent (i / 8) (i % 8)) = entL (s.ent (i / 8) (i % 8))
  congr 1
  exact if_neg (fun h => hi (by have := Nat.div_add_mod i 8; rw [h.1, h.2] at this; omega))
 rw [ndF_at hk, ndF_at hk]
 show entL ((setEnt s j key e).ent j key) = _
 rw [show (setEnt s j key e).ent j key = e from if_pos ⟨rfl, rfl⟩]
 rfl
theorem setEnt_self (j key : Nat) : setEnt s j key (s.ent j key) = s := by
 unfold setEnt
 have : (fun a b => if a = j ∧ b = key then s.ent j key else s.ent a b) = s.ent := by
  funext a b
  split
  ·rename_i h; rw [h.1, h.2]
  rfl
 rw [this]
end
theorem giveup_any (L : StL) (s : StS) (c : Int) (hk8 : s.k ≤ 8) (hel : s.evs.length ≤ 1000 ∧ s.sts.length ≤ 1000) (S : Nat → Prop) (w0 : World) (hI : Inv S w0 w0 (spt L s)) :
  Cq 86 #[.pointer (some ⟨L.sb, 0, none⟩), .int .i64 c] w0 fun en w' => (∃ v, en = .returned v) ∧ ∃ EA ec SA sc s', (s' = s ∨ ∃ c', c' < s.k ∧ (s.cl c').busy = true ∧ s' = giveF s c') ∧ Inv S w0 w' (spt { L with EA := EA, ec := ec, SA := SA, sc := sc } s') := by
 refine Vn func86 rfl ?_
 refine Wq (Vj rfl (Wn ?_))
 by_cases hc : 0 ≤ c ∧ c < (s.k : Int)
 rotate_left
 ·refine Ws (Wq (V9 rfl (V0 rfl (Va [.pointer _, .int .i64 _] rfl func113 rfl ?_))))
  refine (shas_any L.sb c _ _ _ _ (sp_c6 (X := []) hI)).mono ?_
  rintro e w1 ⟨rfl, hp⟩
  rw [decide_eq_false hc]
  refine rV ?_
  have hI := hI.pure hp
  refine Ti rfl (Wn (Wc true rfl (Wq (T6 rfl yy45 rfl (Vp rfl (Wn ?_))))))
  exact WR (r1_ 4 rfl ⟨⟨_, rfl⟩, L.EA, L.ec, L.SA, L.sc, s, .inl rfl, hI⟩)
 obtain ⟨j, rfl⟩ : ∃ j : Nat, c = (j : Int) := ⟨c.toNat, by omega⟩
 have hj : j < s.k := by omega
 refine Ws (Wq (V9 rfl (V0 rfl (Va [.pointer _, .int .i64 _] rfl func113 rfl ?_))))
 refine (shas_any L.sb (j : Int) _ _ _ _ (sp_c6 (X := []) hI)).mono ?_
 rintro e w1 ⟨rfl, hp⟩
 rw [decide_eq_true hc]
 refine rV ?_
 have hI := hI.pure hp
 refine T9 rfl (Wn (Wc false rfl (Wk (Wq (V9 rfl (Vb rfl (V7 6 rfl (V5 (.slice _ _ _) rfl (sp_c6 (X := []) hI) (V0 rfl (Tt 15 rfl yy85 rfl (Tm rfl (Wn ?_))))))))))))
 cases hb : (s.cl j).busy with
 | false =>
  have hz := (sp_cl (X := []) hI hj).c0
  rw [hb] at hz
  refine Ws (Wq (V9 rfl (Vb rfl (Tj rfl (V5 (.bool _) rfl hz (Ti rfl (Wn (Wc true rfl (Wq (T6 rfl yy45 rfl (Vp rfl ?_)))))))))))
  refine Wn ?_
  exact WR (r1_ 4 rfl ⟨⟨_, rfl⟩, L.EA, L.ec, L.SA, L.sc, s, .inl rfl, hI⟩)
 | true =>
 have hz := (sp_cl (X := []) hI hj).c0
 rw [hb] at hz
 refine Ws (Wq (V9 rfl (Vb rfl (Tj rfl (V5 (.bool _) rfl hz (T9 rfl (Wn (Wc false rfl (Wk (Wq (V9 rfl ?_)))))))))))
 refine Vb rfl (Tf 2 rfl (Ug 7 (evL (s.cl j).began) rfl (sp_sub (X := []) hI hj 2 _ rfl) (T1 (.agg zI7) (zI7) hI rfl ?_)))
 rintro b6 w - - hI
 refine T7 7 ((evL (s.cl j).began).toArray) (.agg (evL (s.cl j).began).toArray) hI rfl ?_
 intro w hI
 refine Wn (Wq (V7 1 rfl ?_))
 refine WL_st0 (u := .int .i64 4) (j := 1) (cs' := (evL { (s.cl j).began with ty := 4 }).toArray) hI rfl rfl rfl rfl rfl rfl (by kernel_rfl) rfl rfl rfl ?_
 intro w hI
 refine Wn ?_
 obtain ⟨ev, hev⟩ : ∃ ev, { (s.cl j).began with ty := 4 } = ev := ⟨_, rfl⟩
 replace hI : Inv S w0 w ([B b6 70 (evL ev).toArray] ++ spt L s) := by rw [← hev]; exact hI
 refine Wq (V9 rfl ?_)
 refine Ug 7 (evL ev) rfl (fun k u hk => hI.cell 0 rfl (by rw [Nat.zero_add, List.getElem?_toArray]; exact hk)) ?_
 refine Td [] [.int .i64 0, .int .i64 0] rfl [.int .i64 0, .int .i64 0] [] rfl (fun _ => by kernel_rfl) (Va [.pointer _, .agg _, .agg _] rfl func114 rfl ?_)
 refine (see_any L s ev ⟨0, 0, 0⟩ (DLs _) _ (hI.fromB (X := [_])) hel).mono ?_
 rintro en w1 ⟨rfl, EA, ec, SA, sc, hJ⟩
 refine rV ?_
 have hI := hI.callB (X := [_]) hJ
 refine Wn ?_
 have hI := hI.d0
 obtain ⟨s1, hs1⟩ : ∃ s1, obsF s ev ⟨0, 0, 0⟩ = s1 := ⟨_, rfl⟩
 obtain ⟨L1, hL1⟩ : ∃ L1 : StL, { L with EA := EA, ec := ec, SA := SA, sc := sc } = L1 := ⟨_, rfl⟩
 have hk1 : s1.k = s.k := by rw [← hs1]; rfl
 have hcb1 : L1.cb = L.cb := by rw [← hL1]
 have hcl1 : s1.cl j = s.cl j := by rw [← hs1]; rfl
 have hj1 : j < s1.k := by omega
 rw [hs1, hL1] at hI
 unfold spt at hI
 rw [← clX_start (c := j), hcb1] at hI
 refine Wq (V9 rfl (V9 rfl (Vb rfl (Tj rfl ?_))))
 refine WL_st 2 rfl (u := .bool false) (j := 0 + j * 15) hI rfl rfl rfl rfl rfl rfl (by kernel_rfl) rfl (clX_blt0 hj1) (clX_set0 (x := s1.cl j) (cv := cntV L1 s1 j) (cv' := cntV L1 s1 j) (x' := { s1.cl j with busy := false }) hj1 rfl) ?_
 intro w hI
 refine Vb rfl (Tf 1 rfl ?_)
 refine WL_st 2 rfl (u := .bool true) (j := 0 + j * 15 + 1) hI rfl rfl rfl rfl rfl rfl (by kernel_rfl) rfl (clX_blt hj1 (by omega)) (clX_set (x := { s1.cl j with busy := false }) (cv := cntV L1 s1 j) (cv' := cntV L1 s1 j) (x' := { s1.cl j with busy := false, gone := true }) hj1 1 (by omega) rfl) ?_
 intro w hI
 refine Wn (Wq (Vj rfl (Wn ?_)))
 refine WR ?_
 refine r1_ 4 rfl ⟨⟨_, rfl⟩, EA, ec, SA, sc, giveF s j, .inr ⟨j, hj, hb, rfl⟩, ?_⟩
 have hfin := cl_back (X := []) (L := L1) (s := s1) (x' := { s1.cl j with busy := false, gone := true }) hj1 rfl (by rw [hcb1]; exact hI)
 rw [← hL1] at hfin
 have hg : giveF s j = setCl s1 j { s1.cl j with busy := false, gone := true } := by rw [← hs1, ← hev]; rfl
 rw [hg]
 exact hfin
theorem blk_sub {w : World} {b : Nat} {t : TypeId} {l : List Value} (h : Blk w b t l.toArray) (off : Nat) {l' : List Value} (r : List Value) (hl : l.drop off = l' ++ r) : ∀ (j : Nat) (v : Value), l'[j]? = some v → w.cell? ⟨b, off + j, none⟩ = some v := fun j v hj => by
 rw [h.cell, List.getElem?_toArray, ← List.getElem?_drop, hl, List.getElem?_append_left (List.getElem?_eq_some_iff.1 hj).1]
 exact hj
theorem st_ent {e : SEnt} {j : Nat} {v : Value} (h : (stmL e)[j]? = some v) : (entL e)[j]? = some v := by
 have : entL e = stmL e ++ [.int .i64 e.v] := rfl
 rw [this, List.getElem?_append_left (List.getElem?_eq_some_iff.1 h).1]
 exact h
theorem node_any (L : StL) (s : StS) (j : Nat) (m : SMsg) (hj : j < s.n) (hn : s.n ≤ 7) (hk : m.key < 8) (hcl : m.client ≤ 1000) (S : Nat → Prop) (w0 : World) (hI : Inv S w0 w0 (spt L s)) :
  Cq 77 #[.pointer (some ⟨L.sb, 0, none⟩), .int .i64 (j : Int), .agg (msgL m).toArray] w0 fun en w' => en = .returned (.tuple #[]) ∧ ∃ MA mc, Inv S w0 w' (spt { L with MA := MA, mc := mc } (nodeF s j m)) := by
 refine Vn func77 rfl ?_
 refine Wq (Tb (.agg (msgL m).toArray) ((msgL m).toArray) hI rfl ?_)
 rintro b5 w - - hI
 refine Wn (Ws (Wd (by kernel_rfl) ?_))
 refine Wi (T := []) hI.drew ?_
 intro Sx hY hZ
 have hI := hI.drew
 refine Vl 0 rfl (Vm 1 rfl (Vf 2 5 rfl (Vd 3 (.slice _ _ _) rfl (fun W hW => have hI := hY W hW; sp_c5 (X := [_]) hI) (Vx 4 rfl (Vf 5 3 rfl (Vd 6 (.int .i64 _) rfl (fun W hW => (hY W hW).c0 rfl) ?_))))))
 refine Wt 7 rfl (fun W hW => have hI := hY W hW; (rIdx (sz := 24) rfl underlying84 (by kernel_rfl) rfl rfl (by omega))) ?_
 refine Wt 8 rfl (fun W hW => have hI := hY W hW; (rIdxArr (sz := 3) rfl underlying98 (by kernel_rfl) rfl rfl rfl (by omega))) ?_
 refine Wt 9 rfl (fun W hW => have hI := hY W hW; (by exact rAsgnP rfl rfl)) ?_
 refine We (by kernel_rfl) ?_
 refine Wx (fun ρ w => Has ρ [(0, .pointer (some ⟨L.sb, 0, none⟩)), (1, .int .i64 (j : Int)), (5, .pointer (some ⟨b5, 0, none⟩)), (6, .pointer (some ⟨L.nb, 0 + j * 24 + m.key * 3, none⟩))] ∧ Inv S w0 w ([B b5 192 (msgL m).toArray] ++ spt L (setEnt s j m.key (ownN s j m)))) ?_ ?_
 ·refine Wx (fun ρ w => Has ρ [(28, .bool (decide (m.what = 2 ∧ (s.ent j m.key).less m.e))), (0, .pointer (some ⟨L.sb, 0, none⟩)), (1, .int .i64 (j : Int)), (5, .pointer (some ⟨b5, 0, none⟩)), (6, .pointer (some ⟨L.nb, 0 + j * 24 + m.key * 3, none⟩))] ∧ Inv S w0 w ([B b5 192 (msgL m).toArray] ++ spt L s)) ?_ ?_
  ·by_cases hw : m.what = 2
   ·refine Wd (by kernel_rfl) ?_
    refine Wi (T := []) hI.drew ?_
    intro Sx hY hZ
    have hI := hI.drew
    refine Vf 0 0 rfl (Vd 1 (.int .i64 _) rfl (fun W hW => (hY W hW).c0 rfl) ?_)
    refine Wt 2 rfl (fun W hW => have hI := hY W hW; (by exact rEqlT rfl rfl rfl (by omega))) ?_
    refine Tg 3 rfl (Vl 4 rfl (Vm 5 rfl (U9 6 rfl (Uh 7 2 (stmL (s.ent j m.key)) rfl (fun W hW => have hI := hY W hW; fun k u hk2 => sp_nd (X := [_]) hI hj hk k u (st_ent hk2)) (Vf 8 4 rfl (U9 9 rfl (Uh 10 2 (stmL m.e) rfl (fun W hW => have hI := hY W hW; blk_sub hI.g0 4 [_] rfl) (Vu 11 rfl ?_))))))))
    refine Va [.agg _, .agg _] rfl func119 rfl ?_
    refine (less_any (s.ent j m.key) m.e _).mono ?_
    rintro en w1 ⟨rfl, hp⟩
    refine rV ?_
    have hI := hI.pure hp
    refine Wn ⟨hZ _ hI, ?_⟩
    refine U4 12 rfl (We (by kernel_rfl) ?_)
    refine ⟨⟨?_, rfl, rfl, rfl, rfl, trivial⟩, hI⟩
    rw [show decide (m.what = 2 ∧ (s.ent j m.key).less m.e) = decide ((s.ent j m.key).less m.e) from decide_eq_decide.2 ⟨fun h => h.2, fun h => ⟨hw, h⟩⟩]
    rfl
   refine Wd (by kernel_rfl) ?_
   refine Wi (T := []) hI.drew ?_
   intro Sx hY hZ
   have hI := hI.drew
   refine Vf 0 0 rfl (Vd 1 (.int .i64 _) rfl (fun W hW => (hY W hW).c0 rfl) ?_)
   refine Wt 2 rfl (fun W hW => have hI := hY W hW; (by exact rEqlF rfl rfl rfl (by omega))) ?_
   refine Tg 3 rfl (Vq 4 rfl rfl (Vq 5 rfl rfl (Vq 6 rfl rfl (Vq 7 rfl rfl (Vq 8 rfl rfl (Vq 9 rfl rfl (Vq 10 rfl rfl (Vq 11 rfl rfl (Tw 12 rfl (We (by kernel_rfl) ?_))))))))))
   refine ⟨⟨?_, rfl, rfl, rfl, rfl, trivial⟩, hI⟩
   rw [decide_eq_false (fun h => hw h.1)]
   rfl
  clear hI
  rintro ρ w ⟨hH, hI⟩
  obtain ⟨σ, rfl⟩ := hH.open
  by_cases hl : m.what = 2 ∧ (s.ent j m.key).less m.e
  ·have hown : ownN s j m = m.e := if_pos hl
   rw [decide_eq_true hl]
   refine Wc true rfl (Wr (V9 rfl (V7 4 rfl (Ug 3 (entL m.e) rfl (blk_sub hI.g0 4 [] rfl) (Vb rfl ?_)))))
   refine WL_stA 2 rfl (u := .agg (entL m.e).toArray) (vs := (entL m.e).toArray) (n := 3) (j := 0 + j * 24 + m.key * 3) hI rfl rfl rfl rfl rfl rfl (by kernel_rfl) rfl (by rw [flatB_size (fun i => ndF_len s i)]; omega) rfl (ndF_set hj hk) ?_
   intro w hI
   refine Wn ?_
   rw [hown]
   exact ⟨⟨rfl, rfl, rfl, rfl, trivial⟩, hI⟩
  have hown : ownN s j m = s.ent j m.key := if_neg hl
  rw [decide_eq_false hl]
  refine Wc false rfl (Wk ?_)
  rw [hown, setEnt_self]
  exact ⟨⟨rfl, rfl, rfl, rfl, trivial⟩, hI⟩
 clear hI
 rintro ρ w ⟨hH, hI⟩
 obtain ⟨σ, rfl⟩ := hH.open
 obtain ⟨own, hown⟩ : ∃ own, ownN s j m = own := ⟨_, rfl⟩
 rw [hown] at hI
 obtain ⟨s1, hs1⟩ : ∃ s1, setEnt s j m.key own = s1 := ⟨_, rfl⟩
 rw [hs1] at hI
 have he1 : s1.ent j m.key = own := by rw [← hs1]; exact if_pos ⟨rfl, rfl⟩
 have hn1 : s1.n = s.n := by rw [← hs1]; rfl
 have hj1 : j < s1.n := by omega
 refine Ws (Wd (by kernel_rfl) ?_)
 refine Wi (T := [6]) hI.d0.drew ?_
 intro Sx hY hZ
 have hI := hI.drew
 refine Vl 0 rfl (Vm 1 rfl (Uh 2 3 (entL own) rfl (fun W hW => have hI := hY W hW; fun k u hk2 => sp_nd (X := []) hI hj1 hk k u (by rw [he1]; exact hk2)) (Vf 3 0 rfl (Vu 4 rfl ?_))))
 refine WL_st0 (u := .int .i64 3) (j := 0) (cs' := (msgL { m with what := 3 }).toArray) hI rfl rfl rfl rfl rfl rfl (by kernel_rfl) rfl rfl rfl ?_
 intro w hI
 refine Wn ⟨hZ _ hI.d0, ?_⟩
 refine Vf 5 4 rfl ?_
 refine WT_A (by kernel_rfl) ?_
 clear hZ hY
 refine T2 6 rfl ?_
 refine WL_stA 0 rfl (u := .agg (entL own).toArray) (vs := (entL own).toArray) (n := 3) (j := 4) (cs' := (msgL { m with what := 3, e := own }).toArray) hI rfl rfl rfl rfl rfl rfl (by kernel_rfl) rfl (by show 4 + 3 ≤ 7; omega) rfl rfl ?_
 intro w hI
 refine Wn ?_
 refine WA_end (by kernel_rfl) ?_
 obtain ⟨m', hm'⟩ : ∃ m' : SMsg, { m with what := 3, e := own } = m' := ⟨_, rfl⟩
 have hmc : m'.client = m.client := by rw [← hm']
 replace hI : Inv S w0 w ([B b5 192 (msgL m').toArray] ++ spt L s1) := by rw [← hm']; exact hI
 have hcell : ∀ w, Inv S w0 w ([B b5 192 (msgL m').toArray] ++ spt L s1) → w.cell? ⟨b5, 1, none⟩ = some (.int .i64 (m.client : Int)) := fun w hI => by
  rw [← hmc]; exact hI.c0 rfl
 refine Wd (by kernel_rfl) ?_
 refine Wi (T := [14]) hI.drew ?_
 intro Sx hY hZ
 have hI := hI.drew
 refine Vl 0 rfl (Vm 1 rfl (Vf 2 7 rfl (Vx 3 rfl (Vl 4 rfl (Vm 5 rfl (Vf 6 0 rfl (Vf 7 0 rfl (Vd 8 (.int .i64 (s1.n : Int)) rfl (fun W hW => have hI := hY W hW; sp_c0 (X := [_]) hI) (Vf 9 1 rfl (Vd 10 (.int .i64 (m.client : Int)) rfl (fun W hW => have hI := hY W hW; hcell _ hI) ?_))))))))))
 refine Wt 11 rfl (fun W hW => have hI := hY W hW; (rAddNN rfl rfl rfl (by omega))) ?_
 refine Uh 12 7 (msgL m') rfl (fun W hW => have hI := hY W hW; fun k u hk => hI.cell 0 rfl (by rw [Nat.zero_add, List.getElem?_toArray]; exact hk)) ?_
 refine U7 13 [(0, .int .i64 (j : Int)), (1, .int .i64 ((s1.n + m.client : Nat) : Int)), (2, .agg (msgL m').toArray)] (mailL ⟨j, s1.n + m.client, m'⟩) rfl [.int .i64 0, .int .i64 0, .int .i64 0, .int .i64 0, .int .i64 0, .int .i64 0, .int .i64 0, .int .i64 0, .int .i64 0] [0, 1, 2] rfl (fun _ _ => fun _ => by kernel_rfl) ?_
 refine WT_A (by kernel_rfl) ?_
 clear hZ hY
 refine T2 14 rfl ?_
 refine Va [.pointer _, .agg _] rfl func120 rfl ?_
 refine (send_any L s1 ⟨j, s1.n + m.client, m'⟩ (DLs _) _ (hI.fromB (X := [_]))).mono ?_
 rintro en w1 ⟨⟨v, rfl⟩, MA, mc, hJ⟩
 refine rV ?_
 have hI := hI.callB (X := [_]) hJ
 refine Wn ?_
 refine WA_end (by kernel_rfl) ?_
 refine ret0 (.inl rfl) rfl ⟨rfl, MA, mc, ?_⟩
 have hfin : nodeF s j m = { s1 with mails := pushM s1.mails ⟨j, s1.n + m.client, m'⟩ } := by
  rw [← hm', ← hs1]
  unfold nodeF
  rw [hown]
  rfl
 rw [hfin]
 exact hI.d0
theorem boolsV_get {l : List Bool} {k : Nat} (h : k < l.length) : (boolsV l).toArray[k]? = some (.bool (l.getD k false)) := by
 simp [boolsV, List.getD, h]
theorem boolsV_set {l : List Bool} {k : Nat} {v : Bool} : (boolsV l).toArray.setIfInBounds k (.bool v) = (boolsV (l.set k v)).toArray := by
 simp [boolsV, List.map_set]
theorem boolsV_size {l : List Bool} : (boolsV l).toArray.size = l.length := by simp [boolsV]
theorem countT_succ {l : List Bool} {k : Nat} (h : k < l.length) : countT (l.take (k + 1)) = countT (l.take k) + if l.getD k false = true then 1 else 0 := by
 unfold countT
 have hg : l[k]? = some (l.getD k false) := by simp [List.getD, h]
 rw [List.take_add_one, hg, List.countP_append]
 simp
theorem countT_le (l : List Bool) : countT l ≤ l.length := List.countP_le_length
section
variable {S : Nat → Prop} {w0 w : World} {H : List Ent}
theorem Inv.cput {L L' : StL} {s s' : StS} {c b : Nat} (h : Inv S w0 w (B b 4 (boolsV (s'.cl c).counted).toArray :: Many s.k (fun j => if j = c then Ent.nil else cntE L s j) :: H)) (hc : c < s.k) (hw : L'.cw c = some b)
  (ho : ∀ i, i < s.k → i ≠ c → cntE L s i = cntE L' s' i) : Inv S w0 w (Many s.k (cntE L' s') :: H) := by
 refine (h.many_in hc (if_pos rfl)).many_congr fun i hi => ?_
 by_cases hic : i = c
 ·subst hic
  rw [if_pos rfl]
  unfold cntE
  rw [hw]
 rw [if_neg hic, if_neg hic]
 exact ho i hi hic
end
theorem spt_count {L : StL} {s : StS} {c : Nat} (l : List Bool) : flatB s.k (clF L (setCl s c { s.cl c with counted := l })) = flatB s.k (clF L s) := flatB_congr fun i _ => by
 unfold clF
 by_cases hi : i = c
 ·subst hi
  rw [show (setCl s i { s.cl i with counted := l }).cl i = { s.cl i with counted := l } from if_pos rfl]; rfl
 rw [show (setCl s c { s.cl c with counted := l }).cl i = s.cl i from if_neg hi]; rfl
theorem setCl_self {s : StS} {c : Nat} {x : SCl} : (setCl s c x).cl c = x := if_pos rfl
theorem setCl_twice {s : StS} {c : Nat} {x y : SCl} : setCl (setCl s c x) c y = setCl s c y := by
 unfold setCl
 congr 1
 funext i
 show (if i = c then y else if i = c then x else s.cl i) = if i = c then y else s.cl i
 split <;> rfl
theorem hear_any (L : StL) (s : StS) (j : Nat) (m : SMsg) (hj : j < s.n) (hn : 1 ≤ s.n ∧ s.n ≤ 7) (hk8 : s.k ≤ 8) (hc : m.client < s.k) (hel : s.evs.length ≤ 1000 ∧ s.sts.length ≤ 1000)
  (hx : (s.cl m.client).busy = true → L.cw m.client ≠ none ∧ (s.cl m.client).counted.length = s.n ∧ 0 ≤ (s.cl m.client).began.key) (hM : (s.cl m.client).round ≤ 1000000 ∧ (s.cl m.client).best.t ≤ 1000000 ∧ m.e.t ≤ 1000000) (S : Nat → Prop) (w0 : World) (hI : Inv S w0 w0 (spt L s)) :
  Cq 78 #[.pointer (some ⟨L.sb, 0, none⟩), .int .i64 (j : Int), .agg (msgL m).toArray] w0 fun en w' => en = .returned (.tuple #[]) ∧ ∃ MA mc EA ec SA sc cw, Inv S w0 w' (spt { L with MA := MA, mc := mc, EA := EA, ec := ec, SA := SA, sc := sc, cw := cw } (hearF s j m)) ∧ (∀ c, c ≠ m.client → cw c = L.cw c) ∧ (cw m.client = none ↔ L.cw m.client = none) := by
 obtain ⟨c, hcc⟩ : ∃ c, m.client = c := ⟨_, rfl⟩
 rw [hcc] at hc hx hM ⊢
 obtain ⟨x, hxe⟩ : ∃ x, s.cl c = x := ⟨_, rfl⟩
 rw [hxe] at hx hM
 refine Vn func78 rfl ?_
 refine Wq (Tb (.agg (msgL m).toArray) ((msgL m).toArray) hI rfl ?_)
 rintro b5 w - - hI
 refine Wn ?_
 have hm1 : ∀ w X, Inv S w0 w (B b5 192 (msgL m).toArray :: X) → w.cell? ⟨b5, 1, none⟩ = some (.int .i64 (c : Int)) := fun w X hI => by rw [← hcc]; exact hI.c0 rfl
 refine Ws (Wd (by kernel_rfl) ?_)
 refine Wi (T := []) hI.drew ?_
 intro Sx hY hZ
 have hI := hI.drew
 refine Vl 0 rfl (Vm 1 rfl (Vf 2 6 rfl (Vd 3 (.slice _ _ _) rfl (fun W hW => have hI := hY W hW; sp_c6 (X := [_]) hI) (Vf 4 1 rfl (Vd 5 (.int .i64 (c : Int)) rfl (fun W hW => have hI := hY W hW; hm1 _ _ hI) ?_)))))
 refine Wt 6 rfl (fun W hW => have hI := hY W hW; (rIdx (sz := 15) rfl yy85 (by kernel_rfl) rfl rfl (by omega))) ?_
 refine Wt 7 rfl (fun W hW => have hI := hY W hW; (by exact rAsgnP rfl rfl)) ?_
 refine We (by kernel_rfl) ?_
 have hback : ∀ w, hearF s j m = s → Inv S w0 w (spt L s) → ∃ MA mc EA ec SA sc cw, Inv S w0 w (spt { L with MA := MA, mc := mc, EA := EA, ec := ec, SA := SA, sc := sc, cw := cw } (hearF s j m)) ∧ (∀ i, i ≠ c → cw i = L.cw i) ∧ (cw c = none ↔ L.cw c = none) := fun w he hI => by
  rw [he]; exact ⟨L.MA, L.mc, L.EA, L.ec, L.SA, L.sc, L.cw, hI, fun _ _ => rfl, Iff.rfl⟩
 have hbad : (x.busy = false ∨ m.round ≠ x.round ∨ x.counted.getD j false = true) → hearF s j m = s := fun h => by
  unfold hearF
  rw [hcc, hxe, if_pos h]
 have hq : ∀ w, Inv S w0 w ([B b5 192 (msgL m).toArray] ++ spt L s) → ClAt w L.cb (0 + c * 15) x (cntV L s c) := fun w hI => by rw [← hxe]; exact sp_cl hI hc
 cases hb : x.busy with
 | false =>
  have hq0 : ∀ w, Inv S w0 w ([B b5 192 (msgL m).toArray] ++ spt L s) → w.cell? ⟨L.cb, 0 + c * 15, none⟩ = some (.bool false) := fun w hI => by rw [← hb]; exact (hq w hI).c0
  refine Ws (Ws (Wd (by kernel_rfl) ?_))
  refine Wi (T := []) hI.drew ?_
  intro Sx hY hZ
  have hI := hI.drew
  refine Vl 0 rfl (Vm 1 rfl (U9 2 rfl (Vd 3 (.bool _) rfl (fun W hW => have hI := hY W hW; hq0 _ hI) ?_)))
  refine Wt 4 rfl (fun W hW => have hI := hY W hW; (by exact rNotF rfl rfl)) ?_
  refine Tg 5 rfl (Vq 6 rfl rfl (Vq 7 rfl rfl (Vq 8 rfl rfl (Vq 9 rfl rfl (Vq 10 rfl rfl (Vq 11 rfl rfl (Vq 12 rfl rfl (U4 13 rfl (Tg 14 rfl (Vq 15 rfl rfl (Vq 16 rfl rfl (Vq 17 rfl rfl (Vq 18 rfl rfl ?_)))))))))))))
  refine Vq 19 rfl rfl (Vq 20 rfl rfl (Vq 21 rfl rfl (U4 22 rfl (We (by kernel_rfl) (Wc true rfl ?_)))))
  refine WR ?_
  exact ret0 (.inr rfl) rfl ⟨rfl, hback _ (hbad (.inl hb)) hI.d0⟩
 | true =>
 have hq0 : ∀ w, Inv S w0 w ([B b5 192 (msgL m).toArray] ++ spt L s) → w.cell? ⟨L.cb, 0 + c * 15, none⟩ = some (.bool true) := fun w hI => by rw [← hb]; exact (hq w hI).c0
 obtain ⟨hcw, hcl, hkey⟩ := hx hb
 obtain ⟨b, hbw⟩ : ∃ b, L.cw c = some b := by
  cases h : L.cw c with
  | none => exact absurd h hcw
  | some b => exact ⟨b, rfl⟩
 have hcv : cntV L s c = .slice (some ⟨b, 0, none⟩) s.n s.n := by unfold cntV; rw [hbw]
 by_cases hr : m.round = x.round
 rotate_left
 ·refine Ws (Ws (Wd (by kernel_rfl) ?_))
  refine Wi (T := []) hI.drew ?_
  intro Sx hY hZ
  have hI := hI.drew
  refine Vl 0 rfl (Vm 1 rfl (U9 2 rfl (Vd 3 (.bool _) rfl (fun W hW => have hI := hY W hW; hq0 _ hI) ?_)))
  refine Wt 4 rfl (fun W hW => have hI := hY W hW; (by exact rNotT rfl rfl)) ?_
  refine Tg 5 rfl (Vf 6 2 rfl (Vd 7 (.int .i64 _) rfl (fun W hW => (hY W hW).c0 rfl) (Vl 8 rfl (Vm 9 rfl (Th 10 10 rfl (Vd 11 (.int .i64 _) rfl (fun W hW => have hI := hY W hW; (hq _ hI).c10) (Us 12 rfl (Tw 13 rfl (Tg 14 rfl (Vq 15 rfl rfl (Vq 16 rfl rfl (Vq 17 rfl rfl (Vq 18 rfl rfl ?_)))))))))))))
  refine Vq 19 rfl rfl (Vq 20 rfl rfl (Vq 21 rfl rfl (U4 22 rfl (We (by kernel_rfl) (Wc true rfl ?_)))))
  refine WR ?_
  exact ret0 (.inr rfl) rfl ⟨rfl, hback _ (hbad (.inr (.inl hr))) hI.d0⟩
 have hq11 : ∀ w, Inv S w0 w ([B b5 192 (msgL m).toArray] ++ spt L s) → w.cell? ⟨L.cb, 0 + c * 15 + 11, none⟩ = some (.slice (some ⟨b, 0, none⟩) s.n s.n) := fun w hI => by rw [← hcv]; exact (hq w hI).c11
 have hqb : ∀ w, Inv S w0 w ([B b5 192 (msgL m).toArray] ++ spt L s) → w.cell? ⟨b, j, none⟩ = some (.bool (x.counted.getD j false)) := fun w hI => by
  have h := sp_cnt (X := [_]) hI hc hbw
  rw [hxe] at h
  rw [h.cell, boolsV_get (by omega)]
 cases hcj : x.counted.getD j false with
 | true =>
  rw [hcj] at hqb
  refine Ws (Ws (Wd (by kernel_rfl) ?_))
  refine Wi (T := []) hI.drew ?_
  intro Sx hY hZ
  have hI := hI.drew
  refine Vl 0 rfl (Vm 1 rfl (U9 2 rfl (Vd 3 (.bool _) rfl (fun W hW => have hI := hY W hW; hq0 _ hI) ?_)))
  refine Wt 4 rfl (fun W hW => have hI := hY W hW; (by exact rNotT rfl rfl)) ?_
  refine Tg 5 rfl (Vf 6 2 rfl (Vd 7 (.int .i64 _) rfl (fun W hW => (hY W hW).c0 rfl) (Vl 8 rfl (Vm 9 rfl (Th 10 10 rfl (Vd 11 (.int .i64 _) rfl (fun W hW => have hI := hY W hW; (hq _ hI).c10) (Uf 12 rfl (Tw 13 rfl (Tg 14 rfl (Vl 15 rfl (Vm 16 rfl (Th 17 11 rfl (Vd 18 (.slice _ _ _) rfl (fun W hW => have hI := hY W hW; hq11 _ hI) ?_)))))))))))))
  refine Vx 19 rfl (Uc 20 rfl yy113 rfl (Vd 21 (.bool _) rfl (fun W hW => have hI := hY W hW; hqb _ hI) (Tw 22 rfl (We (by kernel_rfl) (Wc true rfl ?_)))))
  refine WR ?_
  exact ret0 (.inr rfl) rfl ⟨rfl, hback _ (hbad (.inr (.inr hcj))) hI.d0⟩
 | false =>
 rw [hcj] at hqb
 have hgood : hearF s j m = if x.telling = true then (if countT (heardC x j m).counted = s.tell then doneS (setCl s c (heardC x j m)) c else setCl s c (heardC x j m)) else if countT (heardC x j m).counted < s.ask then setCl s c (heardC x j m)
   else if x.began.kind = 2 ∨ s.back = true then sendF (setCl s c (newC (heardC x j m) c)) c 2 (newC (heardC x j m) c).best else doneS (setCl s c (newC (heardC x j m) c)) c := by
  unfold hearF
  rw [hcc, hxe, if_neg (by rw [hb, hcj]; exact fun h => by rcases h with h | h | h; cases h; exact h hr; cases h)]
 rw [hgood]
 clear hback hbad hgood
 refine Ws (Ws (Wd (by kernel_rfl) ?_))
 refine Wi (T := []) hI.drew ?_
 intro Sx hY hZ
 have hI := hI.drew
 refine Vl 0 rfl (Vm 1 rfl (U9 2 rfl (Vd 3 (.bool _) rfl (fun W hW => have hI := hY W hW; hq0 _ hI) ?_)))
 refine Wt 4 rfl (fun W hW => have hI := hY W hW; (by exact rNotT rfl rfl)) ?_
 refine Tg 5 rfl (Vf 6 2 rfl (Vd 7 (.int .i64 _) rfl (fun W hW => (hY W hW).c0 rfl) (Vl 8 rfl (Vm 9 rfl (Th 10 10 rfl (Vd 11 (.int .i64 _) rfl (fun W hW => have hI := hY W hW; (hq _ hI).c10) (Uf 12 rfl (Tw 13 rfl (Tg 14 rfl (Vl 15 rfl (Vm 16 rfl (Th 17 11 rfl (Vd 18 (.slice _ _ _) rfl (fun W hW => have hI := hY W hW; hq11 _ hI) ?_)))))))))))))
 refine Vx 19 rfl (Uc 20 rfl yy113 rfl (Vd 21 (.bool _) rfl (fun W hW => have hI := hY W hW; hqb _ hI) (Tw 22 rfl (We (by kernel_rfl) (Wc false rfl (Wk ?_))))))
 have hce : cntE L s c = B b 4 (boolsV x.counted).toArray := by unfold cntE; rw [hbw, hxe]
 unfold spt at hI
 replace hI := (hI.pull 4 rfl).many_out (i := c) hc
 rw [hce] at hI
 have hq11' : w.cell? ⟨L.cb, 0 + c * 15 + 11, none⟩ = some (.slice (some ⟨b, 0, none⟩) s.n s.n) := by rw [← hcv]; exact (clF_at 5 rfl hI hc).c11
 refine Wq (V9 rfl (Vb rfl (Tf 11 rfl (V5 (.slice _ _ _) rfl hq11' (V0 rfl (Tp rfl yy113 rfl ?_))))))
 refine WL_st0 (u := .bool true) (j := j) (cs' := (boolsV (x.counted.set j true)).toArray) hI rfl rfl rfl rfl rfl rfl (by kernel_rfl) rfl (by rw [boolsV_size, Nat.blt_eq]; omega) boolsV_set ?_
 intro w hI
 refine Wn ?_
 obtain ⟨cl1, hcl1⟩ : ∃ l, x.counted.set j true = l := ⟨_, rfl⟩
 rw [hcl1] at hI
 have hl1 : cl1.length = s.n := by rw [← hcl1, List.length_set]; exact hcl
 obtain ⟨s1, hs1⟩ : ∃ s1, setCl s c { s.cl c with counted := cl1 } = s1 := ⟨_, rfl⟩
 have hx1 : s1.cl c = { x with counted := cl1 } := by rw [← hs1, setCl_self, hxe]
 have hk1 : s1.k = s.k := by rw [← hs1]; rfl
 have hn1 : s1.n = s.n := by rw [← hs1]; rfl
 have hc1 : c < s1.k := by omega
 replace hI : Inv S w0 w ([B b5 192 (msgL m).toArray] ++ spt L s1) := by
  have h1 := (Inv.cput (L' := L) (s' := s1) (c := c) (b := b) (by rw [hx1]; exact hI) hc hbw (fun i _ hi => by
   unfold cntE
   rw [← hs1, show (setCl s c { s.cl c with counted := cl1 }).cl i = s.cl i from if_neg hi])).back 4
  rw [← spt_count (c := c) cl1, hs1] at h1
  subst hs1
  exact h1
 have hcv1 : cntV L s1 c = .slice (some ⟨b, 0, none⟩) s.n s.n := by unfold cntV; rw [hbw, hn1]
 have hr1 : ∀ w, Inv S w0 w ([B b5 192 (msgL m).toArray] ++ spt L s1) → ClAt w L.cb (0 + c * 15) { x with counted := cl1 } (.slice (some ⟨b, 0, none⟩) s.n s.n) := fun w hI => by
  rw [← hcv1, ← hx1]; exact sp_cl hI hc1
 have hrb : ∀ w, Inv S w0 w ([B b5 192 (msgL m).toArray] ++ spt L s1) → ∀ i, i < s.n → w.cell? ⟨b, i, none⟩ = some (.bool (cl1.getD i false)) := fun w hI i hi => by
  have h := sp_cnt (X := [_]) hI hc1 hbw
  rw [hx1] at h
  rw [h.cell]
  exact boolsV_get (by show i < cl1.length; omega)
 refine Wq (Vc rfl (Wn ?_))
 refine Wx (fun ρ w => Has ρ [(7, .int .i64 ((countT cl1 : Nat) : Int)), (0, .pointer (some ⟨L.sb, 0, none⟩)), (5, .pointer (some ⟨b5, 0, none⟩)), (6, .pointer (some ⟨L.cb, 0 + c * 15, none⟩))] ∧ Inv S w0 w ([B b5 192 (msgL m).toArray] ++ spt L s1)) ?_ ?_
 ·refine Wq (V9 rfl (Vb rfl (Tf 11 rfl (V5 (.slice _ _ _) rfl ((hr1 _ hI).c11) (Vs rfl yy113 rfl (V0 rfl (Wn (Wb ?_))))))))
  refine W_loop (fun ρ w => ∃ i : Nat, i ≤ s.n ∧ Has ρ [(52, .int .i64 (i : Int)), (51, .int .i64 (s.n : Int)), (50, .slice (some ⟨b, 0, none⟩) s.n s.n), (7, .int .i64 ((countT (cl1.take i) : Nat) : Int)), (0, .pointer (some ⟨L.sb, 0, none⟩)), (5, .pointer (some ⟨b5, 0, none⟩)), (6, .pointer (some ⟨L.cb, 0 + c * 15, none⟩))] ∧ Inv S w0 w ([B b5 192 (msgL m).toArray] ++ spt L s1)) (fun ρ _ => s.n - cnt (ρ 52))
   ⟨0, by omega, ⟨rfl, rfl, rfl, rfl, rfl, rfl, rfl, trivial⟩, hI⟩ ?_
  clear hI
  rintro ρ w ⟨i, hi, hH, hI⟩
  obtain ⟨σ, rfl⟩ := hH.open
  have hct : countT (cl1.take i) ≤ i := Nat.le_trans (countT_le _) (List.length_take_le _ _)
  by_cases hin : i < s.n
  rotate_left
  ·obtain rfl : i = s.n := by omega
   rw [List.take_of_length_le (by omega)]
   refine Wq (Vr rfl (Wn (Ws (Wc false rfl ?_))))
   refine WE ?_
   exact ⟨⟨rfl, rfl, rfl, rfl, trivial⟩, hI⟩
  have hcs := countT_succ (l := cl1) (k := i) (by omega)
  refine Wq (Vt rfl (Wn (Ws (Wc true rfl (Wk (Ws (Wb ?_)))))))
  cases hbi : cl1.getD i false with
  | true =>
   rw [if_pos hbi] at hcs
   have hz := hrb w hI i hin
   rw [hbi] at hz
   refine Wq (Tp rfl yy113 rfl (V5 (.bool _) rfl hz (V8 rfl (Wn (Wq (V6 rfl (Wn (Wc true rfl (Wr (V0 rfl (Vv rfl ?_)))))))))))
   refine Vc rfl (Wn (Wr (Vv rfl (V0 rfl (Wn ?_)))))
   refine ⟨⟨i + 1, by omega, ⟨rfl, rfl, rfl, ?_, rfl, rfl, rfl, trivial⟩, hI⟩, by show s.n - ((i + 1 : Nat) : Int).toNat < s.n - (i : Int).toNat; omega⟩
   rw [hcs]; rfl
  | false =>
   rw [if_neg (by rw [hbi]; decide)] at hcs
   have hz := hrb w hI i hin
   rw [hbi] at hz
   refine Wq (Tp rfl yy113 rfl (V5 (.bool _) rfl hz (V8 rfl (Wn (Wq (V6 rfl (Wn (Wc false rfl (Wk (Wr (Vv rfl ?_)))))))))))
   refine V0 rfl (Wn ?_)
   refine ⟨⟨i + 1, by omega, ⟨rfl, rfl, rfl, ?_, rfl, rfl, rfl, trivial⟩, hI⟩, by show s.n - ((i + 1 : Nat) : Int).toNat < s.n - (i : Int).toNat; omega⟩
   rw [hcs]; rfl
 clear hI
 rintro ρ w ⟨hH, hI⟩
 obtain ⟨σ, rfl⟩ := hH.open
 have hct := countT_le cl1
 have hhc : (heardC x j m).counted = cl1 := by
  unfold heardC
  rw [← hcl1]
  split
  ·rfl
  split <;> rfl
 rw [hhc]
 have hsame : ∀ (w : World) (s' : StS), Inv S w0 w (spt L s') → ∃ MA mc EA ec SA sc cw, Inv S w0 w (spt { L with MA := MA, mc := mc, EA := EA, ec := ec, SA := SA, sc := sc, cw := cw } s') ∧ (∀ i, i ≠ c → cw i = L.cw i) ∧ (cw c = none ↔ L.cw c = none) := fun w s' hI =>
  ⟨L.MA, L.mc, L.EA, L.ec, L.SA, L.sc, L.cw, hI, fun _ _ => rfl, Iff.rfl⟩
 cases htl : x.telling with
 | true =>
  have hh1 : setCl s c (heardC x j m) = s1 := by
   unfold heardC
   rw [if_pos htl, hcl1, ← hs1, hxe]
  rw [if_pos rfl, hh1]
  have hz := (hr1 w hI).c9
  have hz : w.cell? ⟨L.cb, 0 + c * 15 + 9, none⟩ = some (.bool true) := by rw [← htl]; exact hz
  refine Ws (Wq (V9 rfl (Vb rfl (Tf 9 rfl (V5 (.bool _) rfl hz (Wn (Wc true rfl ?_)))))))
  have hz3 : w.cell? ⟨L.sb, 3, none⟩ = some (.int .i64 (s.tell : Int)) := by
   have : w.cell? ⟨L.sb, 3, none⟩ = some (.int .i64 (s1.tell : Int)) := hI.fromB.cell 0 rfl rfl
   rw [← hs1] at this; exact this
  by_cases hte : countT cl1 = s.tell
  ·rw [if_pos hte]
   refine Ws (Wq (V0 rfl (V9 rfl (Vb rfl (V7 0 rfl (V7 3 rfl (V5 (.int .i64 _) rfl hz3 (T5 rfl (Wn (Wc true rfl (Wr (V9 rfl ?_))))))))))))
   refine V7 1 rfl (V5 (.int .i64 (c : Int)) rfl (hm1 _ _ hI) (Va [.pointer _, .int .i64 _] rfl func121 rfl ?_))
   refine (done_any L s1 c hc1 (by omega) (by rw [← hs1]; exact hel) (DLs _) _ (hI.fromB (X := [_]))).mono ?_
   rintro en w1 ⟨rfl, EA, ec, SA, sc, hJ⟩
   refine rV ?_
   have hI := hI.callB (X := [_]) hJ
   refine Wn ?_
   refine WR ?_
   exact ret0 (.inr rfl) rfl ⟨rfl, L.MA, L.mc, EA, ec, SA, sc, L.cw, hI.d0, fun _ _ => rfl, Iff.rfl⟩
  rw [if_neg hte]
  refine Ws (Wq (V0 rfl (V9 rfl (Vb rfl (V7 0 rfl (V7 3 rfl (V5 (.int .i64 _) rfl hz3 (Vw rfl (Wn (Wc false rfl (Wk ?_)))))))))))
  refine WR ?_
  exact ret0 (.inr rfl) rfl ⟨rfl, hsame _ _ hI.d0⟩
 | false =>
 rw [if_neg (by decide)]
 have hz : w.cell? ⟨L.cb, 0 + c * 15 + 9, none⟩ = some (.bool false) := by rw [← htl]; exact (hr1 w hI).c9
 refine Ws (Wq (V9 rfl (Vb rfl (Tf 9 rfl (V5 (.bool _) rfl hz (Wn (Wc false rfl (Wk ?_))))))))
 have hh0 : heardC x j m = if x.best.less m.e then { x with counted := cl1, best := m.e } else { x with counted := cl1 } := by
  unfold heardC
  rw [htl, if_neg (by decide), hcl1]
 obtain ⟨x2, hx2⟩ : ∃ x2, heardC x j m = x2 := ⟨_, rfl⟩
 rw [hx2] at hh0 ⊢
 have hx2c : x2.counted = cl1 := by rw [hh0]; split <;> rfl
 have hx2b : x2.began = x.began := by rw [hh0]; split <;> rfl
 have hx2t : x2.best.t ≤ 1000000 := by rw [hh0]; split; exact hM.2.2; exact hM.2.1
 have hx2r : x2.round = x.round := by rw [hh0]; split <;> rfl
 obtain ⟨s2, hs2⟩ : ∃ s2, setCl s c x2 = s2 := ⟨_, rfl⟩
 rw [hs2]
 have hk2 : s2.k = s.k := by rw [← hs2]; rfl
 have hn2 : s2.n = s.n := by rw [← hs2]; rfl
 have hc2 : c < s2.k := by omega
 have hx2e : s2.cl c = x2 := by rw [← hs2, setCl_self]
 refine Wx (fun ρ w => Has ρ [(7, .int .i64 ((countT cl1 : Nat) : Int)), (0, .pointer (some ⟨L.sb, 0, none⟩)), (5, .pointer (some ⟨b5, 0, none⟩)), (6, .pointer (some ⟨L.cb, 0 + c * 15, none⟩))] ∧ Inv S w0 w ([B b5 192 (msgL m).toArray] ++ spt L s2)) ?_ ?_
 ·refine Wx (fun ρ w => Has ρ [(83, .bool (decide (x.best.less m.e))), (7, .int .i64 ((countT cl1 : Nat) : Int)), (0, .pointer (some ⟨L.sb, 0, none⟩)), (5, .pointer (some ⟨b5, 0, none⟩)), (6, .pointer (some ⟨L.cb, 0 + c * 15, none⟩))] ∧ Inv S w0 w ([B b5 192 (msgL m).toArray] ++ spt L s1)) ?_ ?_
  ·have hbst : ∀ w, Inv S w0 w ([B b5 192 (msgL m).toArray] ++ spt L s1) → ∀ (k : Nat) (v : Value), (stmL x.best)[k]? = some v → w.cell? ⟨L.cb, 0 + c * 15 + 12 + k, none⟩ = some v := fun w hI => by
    have := sp_sub (X := [_]) hI hc1 12 (l := stmL (s1.cl c).best) [.int .i64 (s1.cl c).best.v] rfl
    rw [hx1] at this
    exact this
   refine Wd (by kernel_rfl) ?_
   refine Wi (T := []) hI.drew ?_
   intro Sx hY hZ
   have hI := hI.drew
   refine Vl 0 rfl (Vm 1 rfl (Th 2 12 rfl (U9 3 rfl (Uh 4 2 (stmL x.best) rfl (fun W hW => have hI := hY W hW; hbst _ hI) (Vf 5 4 rfl (U9 6 rfl (Uh 7 2 (stmL m.e) rfl (fun W hW => have hI := hY W hW; blk_sub hI.g0 4 [_] rfl) (Vu 8 rfl ?_))))))))
   refine Va [.agg _, .agg _] rfl func119 rfl ?_
   refine (less_any x.best m.e _).mono ?_
   rintro en w1 ⟨rfl, hp⟩
   refine rV ?_
   have hI := hI.pure hp
   refine Wn ⟨hZ _ hI, ?_⟩
   refine We (by kernel_rfl) ?_
   exact ⟨⟨rfl, rfl, rfl, rfl, rfl, trivial⟩, hI⟩
  clear hI
  rintro ρ w ⟨hH, hI⟩
  obtain ⟨σ, rfl⟩ := hH.open
  by_cases hl : x.best.less m.e
  ·rw [decide_eq_true hl]
   rw [if_pos hl] at hh0
   refine Wc true rfl ?_
   unfold spt at hI
   rw [← clX_start (c := c)] at hI
   refine Wr (V9 rfl (V7 4 rfl (Ug 3 (entL m.e) rfl (blk_sub hI.g0 4 [] rfl) (Vb rfl (Tf 12 rfl ?_)))))
   refine WL_stA 3 rfl (u := .agg (entL m.e).toArray) (vs := (entL m.e).toArray) (n := 3) (j := 0 + c * 15 + 12) hI rfl rfl rfl rfl rfl rfl (by kernel_rfl) rfl (by have := clX_lt (L := L) (s := s1) (x := s1.cl c) (cv := cntV L s1 c) hc1 (j := 14) (by omega); omega) rfl (clX_sp (x := s1.cl c) (cv := cntV L s1 c) (cv' := cntV L s1 c) (x' := { s1.cl c with best := m.e }) hc1 12 (by simp [entL]) rfl) ?_
   intro w hI
   refine Wn ?_
   have hfin := cl_back (X := [B b5 192 (msgL m).toArray]) (L := L) (s := s1) (x' := { s1.cl c with best := m.e }) hc1 rfl hI
   have hg : setCl s1 c { s1.cl c with best := m.e } = s2 := by rw [hx1, ← hs1, setCl_twice, ← hs2, hh0]
   rw [hg] at hfin
   exact ⟨⟨rfl, rfl, rfl, rfl, trivial⟩, hfin⟩
  rw [decide_eq_false hl]
  rw [if_neg hl] at hh0
  refine Wc false rfl (Wk ?_)
  have hg : s1 = s2 := by rw [← hs1, ← hs2, hh0, hxe]
  rw [hg] at hI
  exact ⟨⟨rfl, rfl, rfl, rfl, trivial⟩, hI⟩
 clear hI hr1 hrb
 rintro ρ w ⟨hH, hI⟩
 obtain ⟨σ, rfl⟩ := hH.open
 have hz2 : w.cell? ⟨L.sb, 2, none⟩ = some (.int .i64 (s.ask : Int)) := by
  have : w.cell? ⟨L.sb, 2, none⟩ = some (.int .i64 (s2.ask : Int)) := hI.fromB.cell 0 rfl rfl
  rw [← hs2] at this; exact this
 by_cases hask : countT cl1 < s.ask
 ·rw [if_pos hask]
  refine Ws (Wq (V0 rfl (V9 rfl (Vb rfl (V7 0 rfl (V7 2 rfl (V5 (.int .i64 _) rfl hz2 (Vt rfl (Wn (Wc true rfl ?_))))))))))
  refine WR ?_
  exact ret0 (.inr rfl) rfl ⟨rfl, hsame _ _ hI.d0⟩
 rw [if_neg hask]
 refine Ws (Wq (V0 rfl (V9 rfl (Vb rfl (V7 0 rfl (V7 2 rfl (V5 (.int .i64 _) rfl hz2 (Vr rfl (Wn (Wc false rfl (Wk ?_)))))))))))
 obtain ⟨x3, hx3⟩ : ∃ x3, newC x2 c = x3 := ⟨_, rfl⟩
 have hx3d : x3 = if x.began.kind = 2 then { x2 with best := ⟨x2.best.t + 1, c, x.began.a⟩ } else x2 := by rw [← hx3]; unfold newC; rw [hx2b]
 rw [hx3]
 obtain ⟨s3, hs3⟩ : ∃ s3, setCl s c x3 = s3 := ⟨_, rfl⟩
 rw [hs3]
 have hx3r : x3.round = x.round := by rw [hx3d]; split <;> exact hx2r
 have hx3b : x3.began = x.began := by rw [hx3d]; split <;> exact hx2b
 have hk3 : s3.k = s.k := by rw [← hs3]; rfl
 have hn3 : s3.n = s.n := by rw [← hs3]; rfl
 have hc3 : c < s3.k := by omega
 have hx3e : s3.cl c = x3 := by rw [← hs3, setCl_self]
 have hz5 : w.cell? ⟨L.cb, 0 + c * 15 + 5, none⟩ = some (.int .i64 x.began.kind) := by
  have := (sp_cl (X := [_]) hI hc2).c5
  rw [hx2e, hx2b] at this; exact this
 have hkb : ∀ (bw : Bool), bw = decide (x.began.kind = 2) → True := fun _ _ => trivial
 refine Wx (fun ρ w => Has ρ [(10, .bool (decide (x.began.kind = 2))), (0, .pointer (some ⟨L.sb, 0, none⟩)), (5, .pointer (some ⟨b5, 0, none⟩)), (6, .pointer (some ⟨L.cb, 0 + c * 15, none⟩))] ∧ Inv S w0 w ([B b5 192 (msgL m).toArray] ++ spt L s2)) ?_ ?_
 ·by_cases hkd : x.began.kind = 2
  ·refine Wr (V9 rfl (Vb rfl (Tf 2 rfl (Tf 3 rfl (V5 (.int .i64 _) rfl hz5 (T5 rfl (V8 rfl (Wn ?_))))))))
   rw [decide_eq_true hkd]
   exact ⟨⟨rfl, rfl, rfl, rfl, trivial⟩, hI⟩
  refine Wr (V9 rfl (Vb rfl (Tf 2 rfl (Tf 3 rfl (V5 (.int .i64 _) rfl hz5 (Vw rfl (V8 rfl (Wn ?_))))))))
  rw [decide_eq_false hkd]
  exact ⟨⟨rfl, rfl, rfl, rfl, trivial⟩, hI⟩
 clear hI hz2 hz5
 rintro ρ w ⟨hH, hI⟩
 obtain ⟨σ, rfl⟩ := hH.open
 refine Wx (fun ρ w => Has ρ [(10, .bool (decide (x.began.kind = 2))), (0, .pointer (some ⟨L.sb, 0, none⟩)), (5, .pointer (some ⟨b5, 0, none⟩)), (6, .pointer (some ⟨L.cb, 0 + c * 15, none⟩))] ∧ Inv S w0 w ([B b5 192 (msgL m).toArray] ++ spt L s3)) ?_ ?_
 ·by_cases hkd : x.began.kind = 2
  ·rw [if_pos hkd] at hx3d
   rw [decide_eq_true hkd]
   refine Wq (V6 rfl (Wn (Wc true rfl ?_)))
   have hat : ∀ w, Inv S w0 w ([B b5 192 (msgL m).toArray] ++ spt L s2) → w.cell? ⟨L.cb, 0 + c * 15 + 12, none⟩ = some (.int .i64 ((x2.best.t : Nat) : Int)) ∧ w.cell? ⟨L.cb, 0 + c * 15 + 6, none⟩ = some (.int .i64 x.began.a) := fun w hI => by
    have h := sp_cl (X := [_]) hI hc2
    have h12 := h.c12
    have h6 := h.c6
    rw [hx2e] at h12 h6
    rw [hx2b] at h6
    exact ⟨h12, h6⟩
   refine Wd (by kernel_rfl) ?_
   refine Wi (T := [19]) hI.drew ?_
   intro Sx hY hZ
   have hI := hI.drew
   refine Vl 0 rfl (Vl 1 rfl (Vm 2 rfl (Th 3 12 rfl (U9 4 rfl (U9 5 rfl (Vd 6 (.int .i64 ((x2.best.t : Nat) : Int)) rfl (fun W hW => have hI := hY W hW; (hat _ hI).1) ?_))))))
   refine Wt 7 rfl (fun W hW => have hI := hY W hW; (by exact rInc rfl rfl rfl (by omega))) ?_
   refine Vf 8 1 rfl (Vd 9 (.int .i64 (c : Int)) rfl (fun W hW => have hI := hY W hW; hm1 _ _ hI) (U7 10 [(0, .int .i64 _), (1, .int .i64 _)] [_, _] rfl [.int .i64 0, .int .i64 0] [0, 1] rfl (fun _ _ => fun _ => by kernel_rfl) (Vl 11 rfl (Vm 12 rfl (Th 13 2 rfl (Th 14 4 rfl (Vd 15 (.int .i64 x.began.a) rfl (fun W hW => have hI := hY W hW; (hat _ hI).2) (U7 16 [(0, .agg #[.int .i64 ((x2.best.t + 1 : Nat) : Int), .int .i64 (c : Int)]), (1, .int .i64 x.began.a)] (entL ⟨x2.best.t + 1, c, x.began.a⟩) rfl [.int .i64 0, .int .i64 0, .int .i64 0] [0, 2] rfl (fun _ _ => fun _ => by kernel_rfl) (Vm 17 rfl (Th 18 12 rfl ?_))))))))))
   refine WT_A (by kernel_rfl) ?_
   clear hZ hY
   refine T2 19 rfl ?_
   unfold spt at hI
   rw [← clX_start (c := c)] at hI
   refine WL_stA 3 rfl (u := .agg (entL ⟨x2.best.t + 1, c, x.began.a⟩).toArray) (vs := (entL ⟨x2.best.t + 1, c, x.began.a⟩).toArray) (n := 3) (j := 0 + c * 15 + 12) hI rfl rfl rfl rfl rfl rfl (by kernel_rfl) rfl (by have := clX_lt (L := L) (s := s2) (x := s2.cl c) (cv := cntV L s2 c) hc2 (j := 14) (by omega); omega) rfl (clX_sp (x := s2.cl c) (cv := cntV L s2 c) (cv' := cntV L s2 c) (x' := { s2.cl c with best := ⟨x2.best.t + 1, c, x.began.a⟩ }) hc2 12 (by simp [entL]) rfl) ?_
   intro w hI
   refine Wn ?_
   refine WA_end (by kernel_rfl) ?_
   have hfin := cl_back (X := [B b5 192 (msgL m).toArray]) (L := L) (s := s2) (x' := { s2.cl c with best := ⟨x2.best.t + 1, c, x.began.a⟩ }) hc2 rfl hI
   have hg : setCl s2 c { s2.cl c with best := ⟨x2.best.t + 1, c, x.began.a⟩ } = s3 := by rw [hx2e, ← hs2, setCl_twice, ← hs3, hx3d]
   rw [hg] at hfin
   exact ⟨⟨rfl, rfl, rfl, rfl, trivial⟩, hfin⟩
  rw [if_neg hkd] at hx3d
  rw [decide_eq_false hkd]
  refine Wq (V6 rfl (Wn (Wc false rfl (Wk ?_))))
  have hg : s2 = s3 := by rw [← hs2, ← hs3, hx3d]
  rw [hg] at hI
  exact ⟨⟨rfl, rfl, rfl, rfl, trivial⟩, hI⟩
 clear hI
 rintro ρ w ⟨hH, hI⟩
 obtain ⟨σ, rfl⟩ := hH.open
 have hz4 : w.cell? ⟨L.sb, 4, none⟩ = some (.bool s.back) := by
  have : w.cell? ⟨L.sb, 4, none⟩ = some (.bool s3.back) := hI.fromB.cell 0 rfl rfl
  rw [← hs3] at this; exact this
 have hbe : ∀ w, Inv S w0 w ([B b5 192 (msgL m).toArray] ++ spt L s3) → ∀ (k : Nat) (v : Value), (entL x3.best)[k]? = some v → w.cell? ⟨L.cb, 0 + c * 15 + 12 + k, none⟩ = some v := fun w hI => by
  have := sp_sub (X := [_]) hI hc3 12 (l := entL (s3.cl c).best) [] rfl
  rw [hx3e] at this
  exact this
 by_cases hor : x.began.kind = 2 ∨ s.back = true
 ·rw [if_pos hor]
  refine Wx (fun ρ w => Has ρ [(129, .bool true), (0, .pointer (some ⟨L.sb, 0, none⟩)), (5, .pointer (some ⟨b5, 0, none⟩)), (6, .pointer (some ⟨L.cb, 0 + c * 15, none⟩))] ∧ Inv S w0 w ([B b5 192 (msgL m).toArray] ++ spt L s3)) ?_ ?_
  ·by_cases hkd : x.began.kind = 2
   ·rw [decide_eq_true hkd]
    refine Wr (V6 rfl (V6 rfl (V4 rfl (V4 rfl (V4 rfl (V4 rfl (V4 rfl (Vk rfl (Wn ?_)))))))))
    exact ⟨⟨rfl, rfl, rfl, rfl, trivial⟩, hI⟩
   rw [decide_eq_false hkd]
   rw [hor.resolve_left hkd] at hz4
   refine Wr (V6 rfl (V6 rfl (V9 rfl (Vb rfl (V7 0 rfl (V7 4 rfl (V5 (.bool _) rfl hz4 (Ve rfl (Wn ?_)))))))))
   exact ⟨⟨rfl, rfl, rfl, rfl, trivial⟩, hI⟩
  clear hI
  rintro ρ w ⟨hH, hI⟩
  obtain ⟨σ, rfl⟩ := hH.open
  refine Wc true rfl (Wd (by kernel_rfl) ?_)
  refine Wi (T := [7]) hI.drew ?_
  intro Sx hY hZ
  have hI := hI.drew
  refine Vl 0 rfl (Vf 1 1 rfl (Vd 2 (.int .i64 (c : Int)) rfl (fun W hW => have hI := hY W hW; hm1 _ _ hI) (Vl 3 rfl (Vm 4 rfl (Th 5 12 rfl (Uh 6 3 (entL x3.best) rfl (fun W hW => have hI := hY W hW; hbe _ hI) ?_))))))
  refine WT_A (by kernel_rfl) ?_
  clear hZ hY
  refine T2 7 rfl ?_
  refine Va [.pointer _, .int .i64 _, .int .i64 _, .agg _] rfl func115 rfl ?_
  refine (ssend_any L s3 c 2 x3.best hc3 (by omega) (by omega) (by rw [hx3e, hx3r]; exact hM.1) (by rw [hx3e, hx3b]; exact hkey) (DLs _) _ (hI.fromB (X := [_]))).mono ?_
  rintro en w1 ⟨rfl, b', MA, mc, hJ⟩
  refine rV ?_
  have hI := hI.callB (X := [_]) hJ
  refine Wn ?_
  refine WA_end (by kernel_rfl) ?_
  refine ret0 (.inl rfl) rfl ⟨rfl, MA, mc, L.EA, L.ec, L.SA, L.sc, _, hI.d0, fun i hi => if_neg hi, ⟨fun h => (by rw [if_pos rfl] at h; cases h), fun h => (by rw [hbw] at h; cases h)⟩⟩
 rw [if_neg hor]
 have hkd : x.began.kind ≠ 2 := fun h => hor (.inl h)
 have hbf : s.back = false := by cases h : s.back; rfl; exact absurd (.inr h) hor
 refine Wx (fun ρ w => Has ρ [(129, .bool false), (0, .pointer (some ⟨L.sb, 0, none⟩)), (5, .pointer (some ⟨b5, 0, none⟩)), (6, .pointer (some ⟨L.cb, 0 + c * 15, none⟩))] ∧ Inv S w0 w ([B b5 192 (msgL m).toArray] ++ spt L s3)) ?_ ?_
 ·rw [decide_eq_false hkd]
  rw [hbf] at hz4
  refine Wr (V6 rfl (V6 rfl (V9 rfl (Vb rfl (V7 0 rfl (V7 4 rfl (V5 (.bool _) rfl hz4 (Ve rfl (Wn ?_)))))))))
  exact ⟨⟨rfl, rfl, rfl, rfl, trivial⟩, hI⟩
 clear hI
 rintro ρ w ⟨hH, hI⟩
 obtain ⟨σ, rfl⟩ := hH.open
 refine Wc false rfl (Wr (V9 rfl (V7 1 rfl (V5 (.int .i64 (c : Int)) rfl (hm1 _ _ hI) (Va [.pointer _, .int .i64 _] rfl func121 rfl ?_)))))
 refine (done_any L s3 c hc3 (by omega) (by rw [← hs3]; exact hel) (DLs _) _ (hI.fromB (X := [_]))).mono ?_
 rintro en w1 ⟨rfl, EA, ec, SA, sc, hJ⟩
 refine rV ?_
 have hI := hI.callB (X := [_]) hJ
 refine Wn ?_
 exact ret0 (.inl rfl) rfl ⟨rfl, L.MA, L.mc, EA, ec, SA, sc, L.cw, hI.d0, fun _ _ => rfl, Iff.rfl⟩
theorem busyN_set {s : StS} {c : Nat} {x : SCl} : ∀ {k : Nat}, (c < k → busyN (setCl s c x) k + (if (s.cl c).busy = true then 1 else 0) = busyN s k + (if x.busy = true then 1 else 0)) ∧ (k ≤ c → busyN (setCl s c x) k = busyN s k)
 | 0 => ⟨fun h => by omega, fun _ => rfl⟩
 | k + 1 => by
  obtain ⟨h1, h2⟩ := busyN_set (s := s) (c := c) (x := x) (k := k)
  rw [busyN_succ, busyN_succ]
  refine ⟨fun h => ?_, fun h => ?_⟩
  ·by_cases hck : c < k
   ·rw [show (setCl s c x).cl k = s.cl k from if_neg (by omega)]
    have := h1 hck
    omega
   obtain rfl : c = k := by omega
   rw [h2 (Nat.le_refl _), setCl_self]
   omega
  rw [h2 (by omega), show (setCl s c x).cl k = s.cl k from if_neg (by omega)]
theorem busyN_cl {s s' : StS} (h : s'.cl = s.cl) (k : Nat) : busyN s' k = busyN s k := by unfold busyN; rw [h]
theorem push_len {ms : List SMail} {m : SMail} (h : ms.length ≤ 500) : (pushM ms m).length ≤ 500 := by
 unfold pushM
 split
 ·simp; omega
 exact h
theorem sendTo_len {s : StS} {c what : Nat} {e : SEnt} (h : s.mails.length ≤ 500) : ∀ j, (sendTo s c what e j).length ≤ 500
 | 0 => h
 | j + 1 => by rw [sendTo_succ]; exact push_len (sendTo_len h j)
section
variable {L L' : StL} {s : StS} {M M' : Nat}
theorem SOk.mono (h : SOk L s M) (hM : M ≤ M') : SOk L s M' :=
 ⟨h.n1, h.k1, h.ask, h.tell, h.mlen, h.elen, h.slen, h.free, fun m hm => by have := h.mok m hm; exact ⟨this.1, this.2.1, by omega, by omega, this.2.2.2.2⟩, fun c hc => by have := h.cok c hc; exact ⟨by omega, by omega, this.2.2⟩, h.clen, fun j k hj hk => Nat.le_trans (h.eok j k hj hk) hM⟩
theorem SOk.loc (h : SOk L s M) (hw : L'.cw = L.cw) : SOk L' s M :=
 ⟨h.n1, h.k1, h.ask, h.tell, h.mlen, h.elen, h.slen, h.free, h.mok, fun c hc => by rw [hw]; exact h.cok c hc, fun c b hc hb => h.clen c b hc (by rw [← hw]; exact hb), h.eok⟩
theorem SOk.mails (h : SOk L s M) {ms : List SMail} (hm : ∀ m ∈ ms, m ∈ s.mails) (hl : ms.length ≤ 500) : SOk L { s with mails := ms } M :=
 ⟨h.n1, h.k1, h.ask, h.tell, hl, h.elen, h.slen, h.free, fun m hx => h.mok m (hm m hx), h.cok, h.clen, h.eok⟩
theorem SOk.cl (h : SOk L s M) {c : Nat} (hc : c < s.k) {x : SCl} (h1 : x.round ≤ M) (h2 : x.best.t ≤ M) (h3 : x.busy = true → L'.cw c ≠ none ∧ x.counted.length = s.n ∧ 0 ≤ x.began.key ∧ x.began.key < 8) (h4 : ∀ b, L'.cw c = some b → x.counted.length = s.n) (ho : ∀ i, i ≠ c → L'.cw i = L.cw i)
  (h5 : s.evs.length + busyN (setCl s c x) s.k ≤ 120) : SOk L' (setCl s c x) M := by
 have hcl : ∀ i, i ≠ c → (setCl s c x).cl i = s.cl i := fun i hi => if_neg hi
 refine ⟨h.n1, h.k1, h.ask, h.tell, h.mlen, h.elen, h.slen, h5, h.mok, fun i hi => ?_, fun i b hi hb => ?_, h.eok⟩
 ·by_cases hic : i = c
  ·subst hic; rw [setCl_self]; exact ⟨h1, h2, h3⟩
  rw [hcl i hic, ho i hic]; exact h.cok i hi
 by_cases hic : i = c
 ·subst hic; rw [setCl_self]; exact h4 b hb
 rw [hcl i hic]; exact h.clen i b hi (by rw [← ho i hic]; exact hb)
theorem SOk.node (h : SOk L s M) {j : Nat} {m : SMsg} (hj : j < s.n) (hc : m.client < s.k) (hk : m.key < 8) (hr : m.round ≤ M) (ht : m.e.t ≤ M) : SOk L (nodeF s j m) M := by
 have hown : (ownN s j m).t ≤ M := by
  unfold ownN
  split
  ·exact ht
  exact h.eok j m.key hj hk
 refine ⟨h.n1, h.k1, h.ask, h.tell, push_len h.mlen, h.elen, h.slen, h.free, fun x hx => ?_, h.cok, h.clen, fun a b ha hb => ?_⟩
 ·rcases mem_push hx with hx | rfl
  ·exact h.mok x hx
  exact ⟨hc, hk, hr, hown, Nat.le_refl _, .inr ⟨hj, rfl⟩⟩
 show (if a = j ∧ b = m.key then ownN s j m else s.ent a b).t ≤ M
 split
 ·exact hown
 exact h.eok a b ha hb
theorem SOk.send (h : SOk L s M) {c what : Nat} {e : SEnt} (hc : c < s.k) (hw : what ≤ 3) (hr : (s.cl c).round + 1 ≤ M) (he : e.t ≤ M) (hk : 0 ≤ (s.cl c).began.key ∧ (s.cl c).began.key < 8) (hcw : L'.cw c ≠ none) (ho : ∀ i, i ≠ c → L'.cw i = L.cw i) : SOk L' (sendF s c what e) M := by
 have hb := (busyN_set (s := s) (c := c) (x := roundC s c what) (k := s.k)).1 hc
 have hbb : (roundC s c what).busy = (s.cl c).busy := rfl
 rw [hbb] at hb
 have h1 : SOk L' (setCl s c (roundC s c what)) M := h.cl hc hr (h.cok c hc).2.1 (fun _ => ⟨hcw, by simp [roundC], hk⟩) (fun _ _ => by simp [roundC]) ho (by have := h.free; omega)
 refine ⟨h1.n1, h1.k1, h1.ask, h1.tell, sendTo_len h.mlen _, h1.elen, h1.slen, h1.free, fun x hx => ?_, h1.cok, h1.clen, h1.eok⟩
 rcases mem_send hx with hx | ⟨i, hi, rfl⟩
 ·exact h.mok x hx
 exact ⟨hc, by show keyC s c < 8; unfold keyC; omega, hr, he, hw, .inl ⟨hi, rfl⟩⟩
theorem SOk.done (h : SOk L s M) {c : Nat} (hc : c < s.k) (hb : (s.cl c).busy = true) (hw : L'.cw = L.cw) : SOk L' (doneS s c) M := by
 have hbn := (busyN_set (s := obsF s (evD (s.cl c)) ⟨(s.cl c).best.t, (s.cl c).best.c, 0⟩) (c := c) (x := { s.cl c with busy := false }) (k := s.k)).1 hc
 rw [busyN_cl (s := s) (s' := obsF s (evD (s.cl c)) ⟨(s.cl c).best.t, (s.cl c).best.c, 0⟩) rfl] at hbn
 rw [if_pos (show ((obsF s (evD (s.cl c)) ⟨(s.cl c).best.t, (s.cl c).best.c, 0⟩).cl c).busy = true from hb), if_neg (by simp)] at hbn
 have hf := h.free
 have he : (s.evs ++ [evD (s.cl c)]).length = s.evs.length + 1 := by simp
 have hbn' : busyN (doneS s c) s.k + 1 = busyN s s.k + 0 := hbn
 have hcx := h.cok c hc
 refine ⟨h.n1, h.k1, h.ask, h.tell, h.mlen, by show (s.evs ++ [evD (s.cl c)]).length ≤ 120; omega, by show (s.sts ++ [_]).length = (s.evs ++ [evD (s.cl c)]).length; simp [h.slen], by show (s.evs ++ [evD (s.cl c)]).length + busyN (doneS s c) s.k ≤ 120; omega, h.mok, fun i hi => ?_, fun i b hi hbb => ?_, h.eok⟩
 ·by_cases hic : i = c
  ·subst hic
   rw [show (doneS s i).cl i = { s.cl i with busy := false } from setCl_self]
   exact ⟨hcx.1, hcx.2.1, fun h => by cases h⟩
  rw [show (doneS s c).cl i = s.cl i from if_neg hic, hw]; exact h.cok i hi
 rw [hw] at hbb
 by_cases hic : i = c
 ·subst hic
  rw [show (doneS s i).cl i = { s.cl i with busy := false } from setCl_self]
  exact h.clen i b hi hbb
 rw [show (doneS s c).cl i = s.cl i from if_neg hic]; exact h.clen i b hi hbb
theorem SOk.give (h : SOk L s M) {c : Nat} (hc : c < s.k) (hb : (s.cl c).busy = true) (hw : L'.cw = L.cw) : SOk L' (giveF s c) M := by
 have hbn := (busyN_set (s := obsF s { (s.cl c).began with ty := 4 } ⟨0, 0, 0⟩) (c := c) (x := { s.cl c with busy := false, gone := true }) (k := s.k)).1 hc
 rw [busyN_cl (s := s) (s' := obsF s { (s.cl c).began with ty := 4 } ⟨0, 0, 0⟩) rfl] at hbn
 rw [if_pos (show ((obsF s { (s.cl c).began with ty := 4 } ⟨0, 0, 0⟩).cl c).busy = true from hb), if_neg (by simp)] at hbn
 have hf := h.free
 have he : (s.evs ++ [{ (s.cl c).began with ty := 4 }]).length = s.evs.length + 1 := by simp
 have hcx := h.cok c hc
 refine ⟨h.n1, h.k1, h.ask, h.tell, h.mlen, by show (s.evs ++ [{ (s.cl c).began with ty := 4 }]).length ≤ 120; omega, by show (s.sts ++ [_]).length = (s.evs ++ [{ (s.cl c).began with ty := 4 }]).length; simp [h.slen], by show (s.evs ++ [{ (s.cl c).began with ty := 4 }]).length + busyN (giveF s c) s.k ≤ 120; have hbn' : busyN (giveF s c) s.k + 1 = busyN s s.k + 0 := hbn; omega, h.mok, fun i hi => ?_, fun i b hi hbb => ?_, h.eok⟩
 ·by_cases hic : i = c
  ·subst hic
   rw [show (giveF s i).cl i = { s.cl i with busy := false, gone := true } from setCl_self]
   exact ⟨hcx.1, hcx.2.1, fun h => by cases h⟩
  rw [show (giveF s c).cl i = s.cl i from if_neg hic, hw]; exact h.cok i hi
 rw [hw] at hbb
 by_cases hic : i = c
 ·subst hic
  rw [show (giveF s i).cl i = { s.cl i with busy := false, gone := true } from setCl_self]
  exact h.clen i b hi hbb
 rw [show (giveF s c).cl i = s.cl i from if_neg hic]; exact h.clen i b hi hbb
theorem SOk.begin (h : SOk L s M) {c key : Nat} {write : Bool} {value : Int} (hc : c < s.k) (hb : (s.cl c).busy = false) (hroom : s.evs.length + 2 + busyN s s.k ≤ 120) (hk : key < 8) (hcw : L'.cw c ≠ none) (ho : ∀ i, i ≠ c → L'.cw i = L.cw i) : SOk L' (begS s c key write value) (M + 1) := by
 have hcx := h.cok c hc
 have hbn := (busyN_set (s := obsF s (evB c key write value) ⟨0, 0, 0⟩) (c := c) (x := { (obsF s (evB c key write value) ⟨0, 0, 0⟩).cl c with busy := true, began := evB c key write value, best := ⟨0, -2, 0⟩ }) (k := s.k)).1 hc
 rw [busyN_cl (s := s) (s' := obsF s (evB c key write value) ⟨0, 0, 0⟩) rfl] at hbn
 rw [if_neg (show ¬ ((obsF s (evB c key write value) ⟨0, 0, 0⟩).cl c).busy = true by show ¬ (s.cl c).busy = true; rw [hb]; decide), if_pos rfl] at hbn
 have he : (s.evs ++ [evB c key write value]).length = s.evs.length + 1 := by simp
 -- the state ahead of the round: only the client that begins lacks its row
 obtain ⟨s1, hs1⟩ : ∃ s1, obsF s (evB c key write value) ⟨0, 0, 0⟩ = s1 := ⟨_, rfl⟩
 have hb2 := (busyN_set (s := setCl s1 c { s1.cl c with busy := true, began := evB c key write value, best := ⟨0, -2, 0⟩ }) (c := c) (x := roundC (setCl s1 c { s1.cl c with busy := true, began := evB c key write value, best := ⟨0, -2, 0⟩ }) c 1) (k := s.k)).1 hc
 have hbb : (roundC (setCl s1 c { s1.cl c with busy := true, began := evB c key write value, best := ⟨0, -2, 0⟩ }) c 1).busy = true := by
  show ((setCl s1 c _).cl c).busy = true
  rw [setCl_self]
 rw [setCl_self, if_pos rfl, if_pos hbb] at hb2
 rw [hs1] at hbn
 have hcl1 : s1.cl = s.cl := by rw [← hs1]; rfl
 have hev1 : s1.evs = s.evs ++ [evB c key write value] := by rw [← hs1]; rfl
 have hst1 : s1.sts = s.sts ++ [⟨0, 0, 0⟩] := by rw [← hs1]; rfl
 have hm1 : s1.mails = s.mails := by rw [← hs1]; rfl
 have hn1 : s1.n = s.n ∧ s1.k = s.k ∧ s1.ask = s.ask ∧ s1.tell = s.tell ∧ s1.ent = s.ent := by rw [← hs1]; exact ⟨rfl, rfl, rfl, rfl, rfl⟩
 have hbeg : begS s c key write value = sendF (setCl s1 c { s1.cl c with busy := true, began := evB c key write value, best := ⟨0, -2, 0⟩ }) c 1 ⟨0, 0, 0⟩ := by rw [← hs1]; rfl
 rw [hbeg]
 obtain ⟨x1, hx1⟩ : ∃ x1, { s1.cl c with busy := true, began := evB c key write value, best := ⟨0, -2, 0⟩ } = x1 := ⟨_, rfl⟩
 rw [hx1] at hb2 hbn ⊢
 have hxr : x1.round ≤ M := by rw [← hx1, hcl1]; exact hcx.1
 have hxb : x1.best.t = 0 := by rw [← hx1]
 have hxk : x1.began.key = (key : Int) := by rw [← hx1]; rfl
 have hR : roundC (setCl s1 c x1) c 1 = { x1 with round := x1.round + 1, telling := decide ((1 : Nat) = 2), counted := List.replicate s1.n false } := by
  unfold roundC
  rw [setCl_self]; rfl
 refine ⟨by show 1 ≤ s1.n ∧ s1.n ≤ 7; rw [hn1.1]; exact h.n1, by show 1 ≤ s1.k ∧ s1.k ≤ 8; rw [hn1.2.1]; exact h.k1, by show 1 ≤ s1.ask ∧ s1.ask ≤ s1.n; rw [hn1.2.2.1, hn1.1]; exact h.ask, by show 1 ≤ s1.tell ∧ s1.tell ≤ s1.n; rw [hn1.2.2.2.1, hn1.1]; exact h.tell, sendTo_len (by show s1.mails.length ≤ 500; rw [hm1]; exact h.mlen) _, by show s1.evs.length ≤ 120; rw [hev1]; omega, by show s1.sts.length = s1.evs.length; rw [hst1, hev1]; simp [h.slen], ?_, fun x hx => ?_, fun i hi => ?_, fun i b hi hbc => ?_, fun a b ha hb' => ?_⟩
 ·show s1.evs.length + busyN (setCl (setCl s1 c x1) c (roundC (setCl s1 c x1) c 1)) s1.k ≤ 120
  rw [hev1, hn1.2.1]
  omega
 ·rcases mem_send hx with hx | ⟨i, hi, rfl⟩
  ·have hx : x ∈ s1.mails := hx
   rw [hm1] at hx
   have := h.mok x hx
   refine ⟨by show x.m.client < s1.k; rw [hn1.2.1]; exact this.1, this.2.1, by omega, by omega, this.2.2.2.2.1, ?_⟩
   show (x.dst < s1.n ∧ x.src = s1.n + _) ∨ (x.src < s1.n ∧ x.dst = s1.n + _)
   rw [hn1.1]; exact this.2.2.2.2.2
  refine ⟨by show c < s1.k; rw [hn1.2.1]; exact hc, ?_, ?_, Nat.zero_le _, by show 1 ≤ 3; omega, .inl ⟨hi, rfl⟩⟩
  ·show keyC (setCl s1 c x1) c < 8
   unfold keyC
   rw [setCl_self, hxk]; omega
  show ((setCl s1 c x1).cl c).round + 1 ≤ M + 1
  rw [setCl_self]; omega
 ·have hi : i < s1.k := hi
  rw [hn1.2.1] at hi
  by_cases hic : i = c
  ·subst hic
   rw [show (sendF (setCl s1 i x1) i 1 ⟨0, 0, 0⟩).cl i = roundC (setCl s1 i x1) i 1 from setCl_self, hR]
   refine ⟨by show x1.round + 1 ≤ M + 1; omega, by show x1.best.t ≤ M + 1; omega, fun _ => ⟨hcw, ?_, ?_⟩⟩
   ·show (List.replicate s1.n false).length = s1.n
    simp
   show 0 ≤ x1.began.key ∧ x1.began.key < 8
   omega
  rw [show (sendF (setCl s1 c x1) c 1 ⟨0, 0, 0⟩).cl i = (setCl s1 c x1).cl i from if_neg hic, show (setCl s1 c x1).cl i = s1.cl i from if_neg hic, hcl1, ho i hic]
  have := h.cok i hi
  refine ⟨by omega, by omega, fun hb => ?_⟩
  have := this.2.2 hb
  refine ⟨this.1, ?_, this.2.2⟩
  show _ = s1.n
  rw [hn1.1]; exact this.2.1
 ·have hi : i < s1.k := hi
  rw [hn1.2.1] at hi
  show _ = s1.n
  by_cases hic : i = c
  ·subst hic
   rw [show (sendF (setCl s1 i x1) i 1 ⟨0, 0, 0⟩).cl i = roundC (setCl s1 i x1) i 1 from setCl_self, hR]
   simp
  rw [show (sendF (setCl s1 c x1) c 1 ⟨0, 0, 0⟩).cl i = (setCl s1 c x1).cl i from if_neg hic, show (setCl s1 c x1).cl i = s1.cl i from if_neg hic, hcl1, hn1.1]
  exact h.clen i b hi (by rw [← ho i hic]; exact hbc)
 have ha : a < s1.n := ha
 show (s1.ent a b).t ≤ M + 1
 rw [hn1.2.2.2.2]
 exact Nat.le_trans (h.eok a b (by omega) hb') (by omega)
theorem SOk.loc2 (h : SOk L s M) {c : Nat} (ho : ∀ i, i ≠ c → L'.cw i = L.cw i) (hi : L'.cw c = none ↔ L.cw c = none) : SOk L' s M := by
 have hiff : ∀ i, L'.cw i = none ↔ L.cw i = none := fun i => by
  by_cases hic : i = c
  ·subst hic; exact hi
  rw [ho i hic]
 refine ⟨h.n1, h.k1, h.ask, h.tell, h.mlen, h.elen, h.slen, h.free, h.mok, fun i hk => ?_, fun i b hk hb => ?_, h.eok⟩
 ·have := h.cok i hk
  exact ⟨this.1, this.2.1, fun hb => ⟨fun hn => (this.2.2 hb).1 ((hiff i).1 hn), (this.2.2 hb).2⟩⟩
 cases hl : L.cw i with
 | none => rw [(hiff i).2 hl] at hb; cases hb
 | some b' => exact h.clen i b' hk hl
theorem SOk.clB (h : SOk L s M) {c : Nat} (hc : c < s.k) (hb : (s.cl c).busy = true) {x : SCl} (h0 : x.busy = true) (h1 : x.round ≤ M) (h2 : x.best.t ≤ M) (h3 : L'.cw c ≠ none ∧ x.counted.length = s.n ∧ 0 ≤ x.began.key ∧ x.began.key < 8) (ho : ∀ i, i ≠ c → L'.cw i = L.cw i) : SOk L' (setCl s c x) M := by
 refine h.cl hc h1 h2 (fun _ => h3) (fun _ _ => h3.2.1) ho ?_
 have hbn := (busyN_set (s := s) (c := c) (x := x) (k := s.k)).1 hc
 rw [if_pos hb, if_pos h0] at hbn
 have := h.free
 omega
theorem heardC_facts (x : SCl) (j : Nat) (m : SMsg) : (heardC x j m).busy = x.busy ∧ (heardC x j m).gone = x.gone ∧ (heardC x j m).began = x.began ∧ (heardC x j m).telling = x.telling ∧ (heardC x j m).round = x.round ∧ (heardC x j m).counted = x.counted.set j true ∧ ((heardC x j m).best = x.best ∨ (heardC x j m).best = m.e) := by
 unfold heardC
 dsimp only
 split
 ·exact ⟨rfl, rfl, rfl, rfl, rfl, rfl, .inl rfl⟩
 split
 ·exact ⟨rfl, rfl, rfl, rfl, rfl, rfl, .inr rfl⟩
 exact ⟨rfl, rfl, rfl, rfl, rfl, rfl, .inl rfl⟩
theorem SOk.hear (h : SOk L s M) {j : Nat} {m : SMsg} (hc : m.client < s.k) (ht : m.e.t ≤ M) (ho : ∀ i, i ≠ m.client → L'.cw i = L.cw i) (hi : L'.cw m.client = none ↔ L.cw m.client = none) : SOk L' (hearF s j m) (M + 1) := by
 obtain ⟨c, hcc⟩ : ∃ c, m.client = c := ⟨_, rfl⟩
 unfold hearF
 rw [hcc] at hc ho hi ⊢
 have hcx := h.cok c hc
 obtain ⟨x, hx⟩ : ∃ x, s.cl c = x := ⟨_, rfl⟩
 dsimp only
 split
 ·exact (h.loc2 ho hi).mono (by omega)
 rename_i hbad
 rw [hx] at hbad hcx ⊢
 have hb : x.busy = true := by
  cases hb : x.busy with
  | true => rfl
  | false => exact absurd (.inl hb) hbad
 have hsb : (s.cl c).busy = true := by rw [hx]; exact hb
 obtain ⟨f1, f2, f3, f4, f5, f6, f7⟩ := heardC_facts x j m
 have g := hcx.2.2 hb
 obtain ⟨x1, hx1⟩ : ∃ x1, heardC x j m = x1 := ⟨_, rfl⟩
 rw [hx1] at f1 f2 f3 f4 f5 f6 f7 ⊢
 have hb1 : x1.best.t ≤ M := by
  rcases f7 with e | e <;> rw [e]
  ·exact hcx.2.1
  exact ht
 have hcw' : L'.cw c ≠ none := fun hn => g.1 (hi.1 hn)
 have h3 : L'.cw c ≠ none ∧ x1.counted.length = s.n ∧ 0 ≤ x1.began.key ∧ x1.began.key < 8 := by
  rw [f3, f6, List.length_set]; exact ⟨hcw', g.2⟩
 have hS : SOk L' (setCl s c x1) M := h.clB hc hsb (f1.trans hb) (by rw [f5]; exact hcx.1) hb1 h3 ho
 have hS1 : (setCl s c x1).cl c = x1 := setCl_self
 split
 ·split
  ·exact (hS.done (L' := L') hc (by rw [hS1]; exact f1.trans hb) rfl).mono (by omega)
  exact hS.mono (by omega)
 split
 ·exact hS.mono (by omega)
 obtain ⟨x2, hx2⟩ : ∃ x2, newC x1 c = x2 := ⟨_, rfl⟩
 rw [hx2]
 have k1 : x2.busy = x1.busy ∧ x2.began = x1.began ∧ x2.round = x1.round ∧ x2.counted = x1.counted ∧ x2.best.t ≤ M + 1 := by
  rw [← hx2]; unfold newC
  split
  ·exact ⟨rfl, rfl, rfl, rfl, by show x1.best.t + 1 ≤ M + 1; omega⟩
  exact ⟨rfl, rfl, rfl, rfl, by omega⟩
 obtain ⟨k1, k2, k3, k4, k5⟩ := k1
 have hT : SOk L' (setCl s c x2) (M + 1) := (h.mono (M' := M + 1) (by omega)).clB hc hsb (k1.trans (f1.trans hb)) (by rw [k3, f5]; have := hcx.1; omega) k5 (by rw [k2, k4]; exact h3) ho
 have hT1 : (setCl s c x2).cl c = x2 := setCl_self
 split
 ·exact hT.send (L' := L') hc (by omega) (by rw [hT1, k3, f5]; have := hcx.1; omega) k5 (by rw [hT1, k2]; exact h3.2.2) hcw' (fun _ _ => rfl)
 exact hT.done (L' := L') hc (by rw [hT1]; exact k1.trans (f1.trans hb)) rfl
end
def Mv (s s' : StS) : Prop :=
 (∃ ms : List SMail, (∀ m ∈ ms, m ∈ s.mails) ∧ s' = { s with mails := ms }) ∨
 (∃ (c key : Nat) (write : Bool) (value : Int), c < s.k ∧ (s.cl c).busy = false ∧ (s.cl c).gone = false ∧ key < 8 ∧ (-1000000 ≤ value ∧ value ≤ 1000000) ∧ s' = begS s c key write value) ∨
 (∃ c, c < s.k ∧ (s.cl c).busy = true ∧ s' = giveF s c) ∨
 (∃ (j : Nat) (m : SMail), s.mails[j]? = some m ∧ s' = deliverF s j m)
theorem Mv.refl (s : StS) : Mv s s := .inl ⟨s.mails, fun _ h => h, rfl⟩
def MvPost (L : StL) (s : StS) (M : Nat) (S : Nat → Prop) (w0 : World) (en : Ending) (w' : World) : Prop :=
 (∃ v, en = .returned v) ∧ ∃ L' s', Mv s s' ∧ SOk L' s' (M + 1) ∧ L'.sb = L.sb ∧ Inv S w0 w' (spt L' s')
theorem giveupM (L : StL) (s : StS) (M : Nat) (h : SOk L s M) (S : Nat → Prop) (w0 : World) (hI : Inv S w0 w0 (spt L s)) (c : Int) : Cq 86 #[.pointer (some ⟨L.sb, 0, none⟩), .int .i64 c] w0 (MvPost L s M S w0) := by
 refine (giveup_any L s c h.k1.2 ⟨by have := h.elen; omega, by have := h.elen; have := h.slen; omega⟩ S w0 hI).mono ?_
 rintro e w' ⟨hv, EA, ec, SA, sc, s', hs, hJ⟩
 refine ⟨hv, { L with EA := EA, ec := ec, SA := SA, sc := sc }, s', ?_, ?_, rfl, hJ⟩
 ·rcases hs with rfl | ⟨c', h1, h2, rfl⟩
  ·exact Mv.refl _
  exact .inr (.inr (.inl ⟨c', h1, h2, rfl⟩))
 rcases hs with rfl | ⟨c', h1, h2, rfl⟩
 ·exact (h.loc (L' := { L with EA := EA, ec := ec, SA := SA, sc := sc }) rfl).mono (by omega)
 exact (h.give (L' := { L with EA := EA, ec := ec, SA := SA, sc := sc }) h1 h2 rfl).mono (by omega)
theorem dropM (L : StL) (s : StS) (M : Nat) (h : SOk L s M) (S : Nat → Prop) (w0 : World) (hI : Inv S w0 w0 (spt L s)) (i : Int) : Cq 38 #[.pointer (some ⟨L.sb, 0, none⟩), .int .i64 i] w0 (MvPost L s M S w0) := by
 refine Vn func38 rfl ?_
 refine Wq (Vj rfl (Wn (Ws (Wq (V9 rfl ?_)))))
 refine Wv rfl (rPtrEq rfl yy46 rfl rfl) ?_
 refine Wn (Wc false rfl (Wk (Wq (V9 rfl (Vb rfl (V7 7 rfl (V0 rfl (Va [.pointer _, .int .i64 _] rfl func80 rfl ?_))))))))
 refine (ndrop_any L s i h.mlen (DLs _) _ (hI.fromB (X := []))).mono ?_
 rintro en w1 ⟨⟨v, rfl⟩, MA, mc, ms, hms, hJ⟩
 refine rV ?_
 have hI := hI.callB (X := []) hJ
 refine Tn rfl (Wn ?_)
 refine WR ?_
 have hsub : ∀ m ∈ ms, m ∈ s.mails := by
  rcases hms with rfl | ⟨j, _, rfl⟩
  ·exact fun _ h => h
  exact fun m hm => List.mem_of_mem_eraseIdx hm
 have hlen : ms.length ≤ 500 := by
  rcases hms with rfl | ⟨j, hj, rfl⟩
  ·exact h.mlen
  rw [List.length_eraseIdx, if_pos hj]; have := h.mlen; omega
 exact r1_ 4 rfl ⟨⟨_, rfl⟩, _, _, .inl ⟨ms, hsub, rfl⟩, ((h.mails hsub hlen).loc (L' := { L with MA := MA, mc := mc }) rfl).mono (by omega), rfl, hI⟩
theorem doubleM (L : StL) (s : StS) (M : Nat) (h : SOk L s M) (S : Nat → Prop) (w0 : World) (hI : Inv S w0 w0 (spt L s)) (i : Int) : Cq 39 #[.pointer (some ⟨L.sb, 0, none⟩), .int .i64 i] w0 (MvPost L s M S w0) := by
 refine Vn func39 rfl ?_
 refine Wq (Vj rfl (Wn (Ws (Wq (V9 rfl ?_)))))
 refine Wv rfl (rPtrEq rfl yy46 rfl rfl) ?_
 refine Wn (Wc false rfl (Wk (Wq (V9 rfl (Vb rfl (V7 7 rfl (V0 rfl (Va [.pointer _, .int .i64 _] rfl func81 rfl ?_))))))))
 refine (ndouble_any L s i (DLs _) _ (hI.fromB (X := []))).mono ?_
 rintro en w1 ⟨⟨v, rfl⟩, MA, mc, ms, hms, hJ⟩
 refine rV ?_
 have hI := hI.callB (X := []) hJ
 refine Tn rfl (Wn ?_)
 refine WR ?_
 have hsub : ∀ m ∈ ms, m ∈ s.mails := by
  rcases hms with rfl | ⟨m0, h0, rfl⟩
  ·exact fun _ h => h
  exact fun m hm => by rcases mem_push hm with hm | rfl; exact hm; exact h0
 have hlen : ms.length ≤ 500 := by
  rcases hms with rfl | ⟨m0, h0, rfl⟩
  ·exact h.mlen
  exact push_len h.mlen
 exact r1_ 4 rfl ⟨⟨_, rfl⟩, _, _, .inl ⟨ms, hsub, rfl⟩, ((h.mails hsub hlen).loc (L' := { L with MA := MA, mc := mc }) rfl).mono (by omega), rfl, hI⟩
theorem deliverM (L : StL) (s : StS) (M : Nat) (h : SOk L s M) (hM : M ≤ 100000) (S : Nat → Prop) (w0 : World) (hI : Inv S w0 w0 (spt L s)) (i : Int) : Cq 36 #[.pointer (some ⟨L.sb, 0, none⟩), .int .i64 i] w0 fun en w' => ∃ v L' s', en = .returned v ∧ Mv s s' ∧ SOk L' s' (M + 1) ∧ L'.sb = L.sb ∧ L'.cut = L.cut ∧ Inv S w0 w' (spt L' s') ∧ (∀ (j : Nat) (m : SMail), L.cut = false → i = (j : Int) → s.mails[j]? = some m → v = .nilIface ∧ s' = deliverF s j m) := by
 have hn := h.n1
 have hk := h.k1
 refine Vn func36 rfl ?_
 refine Wq (Vj rfl (Wn (Ws (Wq (V9 rfl ?_)))))
 refine Wv rfl (rPtrEq rfl yy46 rfl rfl) ?_
 refine Wn (Wc false rfl (Wk ?_))
 have hmo : ∀ m ∈ s.mails, m.src < 1000 ∧ m.dst < 1000 := fun m hm => by
  have := h.mok m hm
  omega
 have hz9 : zero9.size = 9 := rfl
 refine Wq (V9 rfl (Vb rfl (V7 7 rfl (V0 rfl (Va [.pointer _, .int .i64 _] rfl func76 rfl ?_)))))
 refine (take_any L s i h.mlen hmo (DLs _) _ (hI.fromB (X := []))).mono ?_
 rintro en w1 hcase
 obtain ⟨ag, er, L1, s1, rfl, hag, hone, hsb, hcs, hJ⟩ : ∃ (ag : Array Value) (er : Value) (L1 : StL) (s1 : StS), en = .returned (.tuple #[.agg ag, er]) ∧ ag.size = 9 ∧ ag.toList.all (·.oneCell') = true ∧ L1.sb = L.sb ∧
   (((∃ n, er = .iface 45 (.int .i64 n)) ∧ (L.cut = false → ¬ (0 ≤ i ∧ i < (s.mails.length : Int))) ∧ L1 = L ∧ s1 = s) ∨ (er = .nilIface ∧ ∃ (j : Nat) (m : SMail) (MA : Option Addr) (mc : Nat), i = (j : Int) ∧ s.mails[j]? = some m ∧ ag = (mailL m).toArray ∧ L1 = { L with MA := MA, mc := mc } ∧ s1 = { s with mails := s.mails.eraseIdx j })) ∧ Inv (DLs (spt L s)) w0 w1 (spt L1 s1) := by
  rcases hcase with ⟨n, rfl, hct, hJ⟩ | ⟨j, m, MA, mc, hij, hm, rfl, hJ⟩
  ·exact ⟨_, _, L, s, rfl, rfl, rfl, rfl, .inl ⟨⟨n, rfl⟩, hct, rfl, rfl⟩, hJ⟩
  exact ⟨_, _, { L with MA := MA, mc := mc }, { s with mails := s.mails.eraseIdx j }, rfl, rfl, rfl, rfl, .inr ⟨rfl, j, m, MA, mc, hij, hm, rfl, rfl, rfl⟩, hJ⟩
 refine ⟨_, rfl, ?_⟩
 replace hI := hI.callB (X := []) hJ
 refine Vz rfl (Vg rfl (Vg rfl (T1 (.agg zero9) zero9 hI rfl ?_)))
 clear hI; rintro b5 w - - hI
 refine WL_stw0 (u := .agg ag) (vs := ag) (n := 9) hI rfl rfl rfl rfl rfl rfl (by kernel_rfl) hag rfl hone ?_
 clear hI; intro w hI
 refine Tn rfl (Wn ?_)
 rcases hcs with ⟨⟨n, rfl⟩, hct, rfl, rfl⟩ | ⟨rfl, j, m, MA, mc, hij, hm, rfl, rfl, rfl⟩
 ·refine Ws (Wq (Vy rfl (Tl rfl yy34 rfl (Wn (Wc true rfl (Wq (Vy rfl (Vp rfl (Wn ?_)))))))))
  exact WR (r1_ 4 rfl ⟨_, L1, s1, rfl, Mv.refl _, h.mono (by omega), rfl, rfl, hI.d0, fun j m hc hj hm => absurd (show 0 ≤ i ∧ i < (s1.mails.length : Int) by have := (List.getElem?_eq_some_iff.1 hm).1; omega) (hct hc)⟩)
 have hgd : ∀ (j' : Nat) (m' : SMail), L.cut = false → i = (j' : Int) → s.mails[j']? = some m' → (Value.nilIface : Value) = .nilIface ∧ deliverF s j m = deliverF s j' m' := fun j' m' _ hj' hm' => by
  obtain rfl : j = j' := by omega
  rw [hm] at hm'
  injection hm' with hm'
  exact ⟨rfl, by rw [hm']⟩
 have hmm := h.mok m (List.mem_of_getElem? hm)
 obtain ⟨s1, hs1⟩ : ∃ s1 : StS, { s with mails := s.mails.eraseIdx j } = s1 := ⟨_, rfl⟩
 obtain ⟨L1, hL1⟩ : ∃ L1 : StL, { L with MA := MA, mc := mc } = L1 := ⟨_, rfl⟩
 have h1 : SOk L1 s1 M := by
  rw [← hs1, ← hL1]
  exact (h.mails (fun x hx => List.mem_of_mem_eraseIdx hx) (by rw [List.length_eraseIdx]; have := h.mlen; split <;> omega)).loc rfl
 have hn1 : s1.n = s.n ∧ s1.k = s.k := by rw [← hs1]; exact ⟨rfl, rfl⟩
 rw [hs1, hL1] at hI
 have hsbe : L1.sb = L.sb := by rw [← hL1]
 have hcute : L1.cut = L.cut := by rw [← hL1]
 have hdel : deliverF s j m = if m.dst < s.n then nodeF s1 m.dst m.m else hearF s1 m.src m.m := by rw [← hs1]; rfl
 have hc0 : ∀ w, Inv S w0 w ([B b5 194 (mailL m).toArray] ++ spt L1 s1) → w.cell? ⟨L.sb, 0, none⟩ = some (.int .i64 (s.n : Int)) := fun w hI => by
  have := sp_c0 (X := [_]) hI
  rw [hsbe, hn1.1] at this; exact this
 have hcl1 := h1.cok m.m.client (by have := hmm.1; omega)
 refine Ws (Wq (T8 rfl (Te rfl yy34 rfl (Wn (Wc false rfl (Wk ?_))))))
 by_cases hd : m.dst < s.n
 ·rw [if_pos hd] at hdel
  refine Ws (Ws (Wd (by kernel_rfl) ?_))
  refine Wi (T := []) hI.drew ?_
  intro Sx hY hZ
  replace hI := hI.drew
  refine Vf 0 1 rfl (Vd 1 (.int .i64 _) rfl (fun W hW => (hY W hW).c0 rfl) (Vl 2 rfl (Vm 3 rfl (Vf 4 0 rfl (Vf 5 0 rfl (Vd 6 (.int .i64 (s.n : Int)) rfl (fun W hW => have hI := hY W hW; hc0 _ hI) ?_))))))
  refine Wt 7 rfl (fun W hW => have hI := hY W hW; (by exact rLssT rfl rfl rfl (by omega))) ?_
  refine We (by kernel_rfl) (Wc true rfl (Wr (V9 rfl (V7 1 rfl (V5 (.int .i64 _) rfl (hI.c0 rfl) (V7 2 rfl (Ug 7 (msgL m.m) rfl (blk_sub hI.g0 2 [] rfl) (Va [.pointer _, .int .i64 _, .agg _] rfl func77 rfl ?_))))))))
  rw [← hsbe]
  refine (node_any L1 s1 m.dst m.m (by omega) (by omega) hmm.2.1 (by have := hmm.1; omega) (DLs _) _ (hI.fromB (X := [_]))).mono ?_
  rintro en w1 ⟨rfl, MA', mc', hJ⟩
  refine ⟨_, rfl, ?_⟩
  replace hI := hI.callB (X := [_]) hJ
  refine Wn (Wq (Vj rfl (Wn ?_)))
  exact WR (r1_ 4 rfl ⟨_, { L1 with MA := MA', mc := mc' }, deliverF s j m, rfl, .inr (.inr (.inr ⟨j, m, hm, rfl⟩)), by rw [hdel]; exact ((h1.node (j := m.dst) (m := m.m) (by omega) (by have := hmm.1; omega) hmm.2.1 hmm.2.2.1 hmm.2.2.2.1).loc (L' := { L1 with MA := MA', mc := mc' }) rfl).mono (by omega), rfl, hcute, by rw [hdel]; exact hI.d0, hgd⟩)
 rw [if_neg hd] at hdel
 have hsrc : m.src < s.n := by rcases hmm.2.2.2.2.2 with h | h; exact absurd h.1 hd; exact h.1
 refine Ws (Ws (Wd (by kernel_rfl) ?_))
 refine Wi (T := []) hI.drew ?_
 intro Sx hY hZ
 replace hI := hI.drew
 refine Vf 0 1 rfl (Vd 1 (.int .i64 _) rfl (fun W hW => (hY W hW).c0 rfl) (Vl 2 rfl (Vm 3 rfl (Vf 4 0 rfl (Vf 5 0 rfl (Vd 6 (.int .i64 (s.n : Int)) rfl (fun W hW => have hI := hY W hW; hc0 _ hI) ?_))))))
 refine Wt 7 rfl (fun W hW => have hI := hY W hW; (by exact rLssF rfl rfl rfl (by omega))) ?_
 refine We (by kernel_rfl) (Wc false rfl (Wr (V9 rfl (V7 0 rfl (V5 (.int .i64 _) rfl (hI.c0 rfl) (V7 2 rfl (Ug 7 (msgL m.m) rfl (blk_sub hI.g0 2 [] rfl) (Va [.pointer _, .int .i64 _, .agg _] rfl func78 rfl ?_))))))))
 rw [← hsbe]
 refine (hear_any L1 s1 m.src m.m (by omega) (by omega) (by omega) (by have := hmm.1; omega) ⟨by have := h1.elen; omega, by have := h1.elen; have := h1.slen; omega⟩ (fun hb => ⟨(hcl1.2.2 hb).1, (hcl1.2.2 hb).2.1, (hcl1.2.2 hb).2.2.1⟩) ⟨by have := hcl1.1; omega, by have := hcl1.2.1; omega, by have := hmm.2.2.2.1; omega⟩ (DLs _) _ (hI.fromB (X := [_]))).mono ?_
 rintro en w1 ⟨rfl, MA', mc', EA, ec, SA, sc, cw, hJ, ho, hi⟩
 refine ⟨_, rfl, ?_⟩
 replace hI := hI.callB (X := [_]) hJ
 refine Wn (Wq (Vj rfl (Wn ?_)))
 exact WR (r1_ 4 rfl ⟨_, { L1 with MA := MA', mc := mc', EA := EA, ec := ec, SA := SA, sc := sc, cw := cw }, deliverF s j m, rfl, .inr (.inr (.inr ⟨j, m, hm, rfl⟩)), by rw [hdel]; exact h1.hear (by have := hmm.1; omega) hmm.2.2.2.1 ho hi, rfl, hcute, by rw [hdel]; exact hI.d0, hgd⟩)
theorem beginM (L : StL) (s : StS) (M : Nat) (h : SOk L s M) (hM : M ≤ 100000) (S : Nat → Prop) (w0 : World) (hI : Inv S w0 w0 (spt L s)) (c key : Int) (write : Bool) (value : Int) :
  Cq 75 #[.pointer (some ⟨L.sb, 0, none⟩), .int .i64 c, .int .i64 key, .bool write, .int .i64 value] w0 fun en w' => ∃ v L' s', en = .returned v ∧ Mv s s' ∧ SOk L' s' (M + 1) ∧ L'.sb = L.sb ∧ L'.cut = L.cut ∧ Inv S w0 w' (spt L' s') ∧ (∀ c' kn : Nat, MayB s c c' → key = (kn : Int) → kn < 8 → -1000000 ≤ value → value ≤ 1000000 → (write = false → value = 0) → v = .nilIface ∧ s' = begS s c' kn write value) ∧ (((∃ n : Int, v = .iface 45 (.int .i64 n)) ∧ s' = s ∧ L' = L) ∨ (v = .nilIface ∧ ∃ c' kn : Nat, MayB s c c' ∧ key = (kn : Int) ∧ kn < 8 ∧ (-1000000 ≤ value ∧ value ≤ 1000000) ∧ (write = false → value = 0) ∧ s' = begS s c' kn write value)) := by
 have hel := h.elen
 refine Vn func75 rfl ?_
 refine Wq (Vj rfl (Wn ?_))
 by_cases hbad : key < 0 ∨ 8 ≤ key ∨ value < -1000000 ∨ 1000000 < value ∨ (write = false ∧ value ≠ 0)
 ·refine Ws ?_
  refine Wx (fun ρ w => ρ 35 = .bool true ∧ Inv S w0 w (spt L s)) ?_ ?_
  ·by_cases h1 : key < 0
   ·refine Wr (V0 rfl (Vt rfl (V6 rfl (V4 rfl (V4 rfl (Vk rfl (V6 rfl (V4 rfl (V4 rfl (Vk rfl (V6 rfl (V4 rfl (V4 rfl ?_)))))))))))))
    refine Vk rfl (V6 rfl (V4 rfl (V4 rfl (V4 rfl (V4 rfl (V4 rfl (V4 rfl (Vk rfl (Wn ?_)))))))))
    exact ⟨rfl, hI⟩
   by_cases h2 : 8 ≤ key
   ·refine Wr (V0 rfl (Vr rfl (V6 rfl (V0 rfl (To rfl (Ve rfl (V6 rfl (V4 rfl (V4 rfl (Vk rfl (V6 rfl (V4 rfl (V4 rfl ?_)))))))))))))
    refine Vk rfl (V6 rfl (V4 rfl (V4 rfl (V4 rfl (V4 rfl (V4 rfl (V4 rfl (Vk rfl (Wn ?_)))))))))
    exact ⟨rfl, hI⟩
   by_cases h3 : value < -1000000
   ·refine Wr (V0 rfl (Vr rfl (V6 rfl (V0 rfl (U5 rfl (Ve rfl (V6 rfl (V0 rfl (Vt rfl (Ve rfl (V6 rfl (V4 rfl (V4 rfl ?_)))))))))))))
    refine Vk rfl (V6 rfl (V4 rfl (V4 rfl (V4 rfl (V4 rfl (V4 rfl (V4 rfl (Vk rfl (Wn ?_)))))))))
    exact ⟨rfl, hI⟩
   by_cases h4 : 1000000 < value
   ·refine Wr (V0 rfl (Vr rfl (V6 rfl (V0 rfl (U5 rfl (Ve rfl (V6 rfl (V0 rfl (Vr rfl (Ve rfl (V6 rfl (V0 rfl (Tq rfl ?_)))))))))))))
    refine Ve rfl (V6 rfl (V4 rfl (V4 rfl (V4 rfl (V4 rfl (V4 rfl (V4 rfl (Vk rfl (Wn ?_)))))))))
    exact ⟨rfl, hI⟩
   obtain ⟨rfl, h5⟩ : write = false ∧ value ≠ 0 := by
    rcases hbad with h | h | h | h | h
    ·exact absurd h h1
    ·exact absurd h h2
    ·exact absurd h h3
    ·exact absurd h h4
    exact h
   refine Wr (V0 rfl (Vr rfl (V6 rfl (V0 rfl (U5 rfl (Ve rfl (V6 rfl (V0 rfl (Vr rfl (Ve rfl (V6 rfl (V0 rfl (Tc rfl ?_)))))))))))))
   refine Ve rfl (V6 rfl (V6 rfl (Ti rfl (V6 rfl (V0 rfl (U1 rfl (Vk rfl (Ve rfl (Wn ?_)))))))))
   exact ⟨rfl, hI⟩
  clear hI
  rintro ρ w ⟨h35, hI⟩
  refine Wc true h35 (Wq (T6 rfl yy45 rfl (Vp rfl (Wn ?_))))
  refine WR ?_
  exact r1_ 10 rfl ⟨_, L, s, rfl, Mv.refl _, h.mono (by omega), rfl, rfl, hI, fun c' kn _ h1 h2 h3 h4 h5 => absurd hbad (fun hb => by
   rcases hb with h | h | h | h | h
   ·omega
   ·omega
   ·omega
   ·omega
   exact h.2 (h5 h.1)), .inl ⟨⟨_, rfl⟩, rfl, rfl⟩⟩
 have hg1 : 0 ≤ key ∧ key < 8 ∧ -1000000 ≤ value ∧ value ≤ 1000000 := by omega
 have hw00 : write = false → value = 0 := fun hw => Classical.byContradiction fun hv => hbad (.inr (.inr (.inr (.inr ⟨hw, hv⟩))))
 refine Wx (fun ρ w => Has ρ [(0, .pointer (some ⟨L.sb, 0, none⟩)), (1, .int .i64 c), (2, .int .i64 key), (3, .bool write), (4, .int .i64 value)] ∧ Inv S w0 w (spt L s)) ?_ ?_
 ·cases write with
  | true =>
   refine Wq (V0 rfl (Vr rfl (V6 rfl (V0 rfl (U5 rfl (Ve rfl (V6 rfl (V0 rfl (Vr rfl (Ve rfl (V6 rfl (V0 rfl ?_))))))))))))
   refine Tc rfl (Ve rfl (V6 rfl (V6 rfl (T9 rfl (V6 rfl (V4 rfl (V4 rfl (Ve rfl (Ve rfl (Wn (Wc false rfl (Wk ?_))))))))))))
   exact ⟨⟨rfl, rfl, rfl, rfl, rfl, trivial⟩, hI⟩
  | false =>
   have h0 : value = 0 := Classical.byContradiction fun hv => hbad (.inr (.inr (.inr (.inr ⟨rfl, hv⟩))))
   refine Wq (V0 rfl (Vr rfl (V6 rfl (V0 rfl (U5 rfl (Ve rfl (V6 rfl (V0 rfl (Vr rfl (Ve rfl (V6 rfl (V0 rfl ?_))))))))))))
   refine Tc rfl (Ve rfl (V6 rfl (V6 rfl (Ti rfl (V6 rfl (V0 rfl (U2 rfl (Vk rfl (Ve rfl (Wn (Wc false rfl (Wk ?_))))))))))))
   exact ⟨⟨rfl, rfl, rfl, rfl, rfl, trivial⟩, hI⟩
 clear hI
 rintro ρ w ⟨hH, hI⟩
 obtain ⟨σ, rfl⟩ := hH.open
 obtain ⟨kn, rfl⟩ : ∃ kn : Nat, key = (kn : Int) := ⟨key.toNat, by omega⟩
 have hkn : kn < 8 := by omega
 refine Ws (Wq (V9 rfl (V0 rfl (Va [.pointer _, .int .i64 _] rfl func74 rfl ?_))))
 refine (free_any L s c h.k1.2 (by omega) (DLs _) _ (hI.fromB (X := []))).mono ?_
 rintro en w1 ⟨hcase, hJ⟩
 obtain ⟨v, rfl, hv⟩ : ∃ v, en = .returned v ∧ ((v = .nilIface ∧ ∃ c', MayB s c c') ∨ ((∃ n, v = .iface 45 (.int .i64 n)) ∧ ∀ c', ¬ MayB s c c')) := by
  rcases hcase with ⟨rfl, hm⟩ | ⟨⟨n, rfl⟩, hno⟩
  ·exact ⟨_, rfl, .inl ⟨rfl, hm⟩⟩
  exact ⟨_, rfl, .inr ⟨⟨n, rfl⟩, hno⟩⟩
 refine rV ?_
 have hI := hI.callB (X := []) hJ
 refine Tn rfl (Wn ?_)
 rcases hv with ⟨rfl, c', hmb⟩ | ⟨⟨n, rfl⟩, hno⟩
 rotate_left
 ·refine Wq (Vy rfl (Tl rfl yy34 rfl (Wn (Wc true rfl (Wq (Vy rfl (Vp rfl (Wn ?_))))))))
  exact WR (r1_ 10 rfl ⟨_, L, s, rfl, Mv.refl _, h.mono (by omega), rfl, rfl, hI, fun c' _ hm => absurd hm (hno c'), .inl ⟨⟨_, rfl⟩, rfl, rfl⟩⟩)
 obtain ⟨rfl, hc, hb, hgn, hroom⟩ := hmb
 have hcx := h.cok c' hc
 refine Wq (T8 rfl (Te rfl yy34 rfl (Wn (Wc false rfl (Wk (Wq (V0 rfl (V0 rfl (Td [(0, .int .i64 _), (1, .int .i64 _), (2, .int .i64 _), (3, .int .i64 _)] [_, _, _, _, _, _, _] rfl [.int .i64 0, .int .i64 0, .int .i64 0, .int .i64 0, .int .i64 0, .int .i64 0, .int .i64 0] [0, 1, 2, 3] rfl (fun _ => by kernel_rfl) (T1 (.agg zI7) (zI7) hI rfl ?_))))))))))
 rintro b12 w - - hI
 refine T7 7 (#[_, _, _, _, _, _, _]) (.agg _) hI rfl ?_
 intro w hI
 refine Wn ?_
 refine Wx (fun ρ w => Has ρ [(12, .pointer (some ⟨b12, 0, none⟩)), (0, .pointer (some ⟨L.sb, 0, none⟩)), (1, .int .i64 (c' : Int))] ∧ Inv S w0 w ([B b12 70 (evL (evB c' kn write value)).toArray] ++ spt L s)) ?_ ?_
 ·cases write with
  | true =>
   refine Wq (V6 rfl (Wn (Wc true rfl (Wr (V0 rfl (V7 3 rfl (Ue (.int .i64 _) hI rfl ?_)))))))
   intro w hI
   refine V7 4 rfl (Ue (.int .i64 _) hI rfl ?_)
   intro w hI
   refine Wn ?_
   exact ⟨⟨rfl, rfl, rfl, trivial⟩, hI⟩
  | false =>
   refine Wq (V6 rfl (Wn (Wc false rfl (Wk ?_))))
   exact ⟨⟨rfl, rfl, rfl, trivial⟩, hI⟩
 clear hI
 rintro ρ w ⟨hH, hI⟩
 obtain ⟨σ, rfl⟩ := hH.open
 obtain ⟨ev, hev⟩ : ∃ ev, evB c' kn write value = ev := ⟨_, rfl⟩
 rw [hev] at hI
 refine Wq (V9 rfl ?_)
 refine Ug 7 (evL ev) rfl (fun k u hk => hI.cell 0 rfl (by rw [Nat.zero_add, List.getElem?_toArray]; exact hk)) ?_
 refine Td [] [.int .i64 0, .int .i64 0] rfl [.int .i64 0, .int .i64 0] [] rfl (fun _ => by kernel_rfl) (Va [.pointer _, .agg _, .agg _] rfl func114 rfl ?_)
 refine (see_any L s ev ⟨0, 0, 0⟩ (DLs _) _ (hI.fromB (X := [_])) ⟨by omega, by have := h.slen; omega⟩).mono ?_
 rintro en w1 ⟨rfl, EA, ec, SA, sc, hJ⟩
 refine rV ?_
 have hI := hI.callB (X := [_]) hJ
 refine Wn ?_
 obtain ⟨s1, hs1⟩ : ∃ s1, obsF s ev ⟨0, 0, 0⟩ = s1 := ⟨_, rfl⟩
 obtain ⟨L1, hL1⟩ : ∃ L1 : StL, { L with EA := EA, ec := ec, SA := SA, sc := sc } = L1 := ⟨_, rfl⟩
 have hk1 : s1.k = s.k := by rw [← hs1]; rfl
 have hn1 : s1.n = s.n := by rw [← hs1]; rfl
 have hcb1 : L1.cb = L.cb := by rw [← hL1]
 have hsb1 : L1.sb = L.sb := by rw [← hL1]
 have hcl1 : s1.cl = s.cl := by rw [← hs1]; rfl
 have hc1 : c' < s1.k := by omega
 rw [hs1, hL1] at hI
 have h6 : ∀ w, Inv S w0 w ([B b12 70 (evL ev).toArray] ++ spt L1 s1) → w.cell? ⟨L.sb, 6, none⟩ = some (.slice (some ⟨L1.cb, 0, none⟩) s1.k s1.k) := fun w hI => by rw [← hsb1]; exact sp_c6 hI
 refine Wq (V9 rfl (Vb rfl (V7 6 rfl (V5 (.slice _ _ _) rfl (h6 _ hI) (V0 rfl (Tt 15 rfl yy85 rfl (Tm rfl (Wn ?_))))))))
 unfold spt at hI
 rw [← clX_start (c := c')] at hI
 refine Ws (Wd (by kernel_rfl) ?_)
 refine Wi (T := []) hI.d3.drew ?_
 intro Sx hY hZ
 have hI := hI.drew
 refine Vl 0 rfl (Vl 1 rfl (Vl 2 rfl ?_))
 refine Uh 3 7 (evL ev) rfl (fun W hW => have hI := hY W hW; fun k u hk => hI.cell 0 rfl (by rw [Nat.zero_add, List.getElem?_toArray]; exact hk)) ?_
 refine U7 4 [(1, .int .i64 _)] [_, _] rfl [.int .i64 0, .int .i64 0] [1] rfl (fun _ _ => fun _ => by kernel_rfl) (U7 5 [(0, .agg #[_, _])] [_, _, _] rfl [.int .i64 0, .int .i64 0, .int .i64 0] [0] rfl (fun _ _ => fun _ => by kernel_rfl) (Vm 6 rfl (U9 7 rfl (Vu 8 rfl ?_))))
 refine WL_st 3 rfl (u := .bool true) (j := 0 + c' * 15) hI rfl rfl rfl rfl rfl rfl (by kernel_rfl) rfl (clX_blt0 hc1) (clX_set0 (x := s1.cl c') (cv := cntV L1 s1 c') (cv' := cntV L1 s1 c') (x' := { s1.cl c' with busy := true }) hc1 rfl) ?_
 intro w hI
 refine Wn ⟨hZ _ hI.d3, ?_⟩
 refine Vm 9 rfl (Th 10 2 rfl (Vu 11 rfl ?_))
 refine WL_stA 3 rfl (u := .agg (evL ev).toArray) (vs := (evL ev).toArray) (n := 7) (j := 0 + c' * 15 + 2) hI rfl rfl rfl rfl rfl rfl (by kernel_rfl) rfl (by have := clX_lt (L := L1) (s := s1) (x := { s1.cl c' with busy := true }) (cv := cntV L1 s1 c') hc1 (j := 14) (by omega); omega) rfl (clX_sp (x := { s1.cl c' with busy := true }) (cv := cntV L1 s1 c') (cv' := cntV L1 s1 c') (x' := { s1.cl c' with busy := true, began := ev }) hc1 2 (by simp [evL]) rfl) ?_
 intro w hI
 refine Wn ⟨hZ _ hI.d3, ?_⟩
 refine Vm 12 rfl (Th 13 12 rfl (Vu 14 rfl ?_))
 refine WL_stA 3 rfl (u := .agg (entL ⟨0, -2, 0⟩).toArray) (vs := (entL ⟨0, -2, 0⟩).toArray) (n := 3) (j := 0 + c' * 15 + 12) hI rfl rfl rfl rfl rfl rfl (by kernel_rfl) rfl (by have := clX_lt (L := L1) (s := s1) (x := { s1.cl c' with busy := true, began := ev }) (cv := cntV L1 s1 c') hc1 (j := 14) (by omega); omega) rfl (clX_sp (x := { s1.cl c' with busy := true, began := ev }) (cv := cntV L1 s1 c') (cv' := cntV L1 s1 c') (x' := { s1.cl c' with busy := true, began := ev, best := ⟨0, -2, 0⟩ }) hc1 12 (by simp [entL]) rfl) ?_
 intro w hI
 refine Wn ⟨hZ _ hI.d3, ?_⟩
 refine We (by kernel_rfl) ?_
 replace hI := cl_back (X := [B b12 70 (evL ev).toArray]) (L := L1) (s := s1) (x' := { s1.cl c' with busy := true, began := ev, best := ⟨0, -2, 0⟩ }) hc1 rfl hI
 obtain ⟨s2, hs2⟩ : ∃ s2, setCl s1 c' { s1.cl c' with busy := true, began := ev, best := ⟨0, -2, 0⟩ } = s2 := ⟨_, rfl⟩
 rw [hs2] at hI
 have hk2 : s2.k = s.k := by rw [← hs2]; exact hk1
 have hn2 : s2.n = s.n := by rw [← hs2]; exact hn1
 have hx2 : s2.cl c' = { s1.cl c' with busy := true, began := ev, best := ⟨0, -2, 0⟩ } := by rw [← hs2, setCl_self]
 have hbeg : begS s c' kn write value = sendF s2 c' 1 ⟨0, 0, 0⟩ := by rw [← hs2, ← hs1, ← hev]; rfl
 have hn := h.n1
 have hk8 := h.k1
 refine Wq (V9 rfl (V0 rfl (Td [] [.int .i64 0, .int .i64 0, .int .i64 0] rfl [.int .i64 0, .int .i64 0, .int .i64 0] [] rfl (fun _ => by kernel_rfl) (Va [.pointer _, .int .i64 _, .int .i64 _, .agg _] rfl func115 rfl ?_))))
 rw [← hsb1]
 refine (ssend_any L1 s2 c' 1 ⟨0, 0, 0⟩ (by omega) (by omega) (by omega) (by rw [hx2]; show (s1.cl c').round ≤ 1000000; rw [hcl1]; have := hcx.1; omega) (by rw [hx2, ← hev]; show (0 : Int) ≤ (kn : Int); omega) (DLs _) _ (hI.fromB (X := [_]))).mono ?_
 rintro en w1 ⟨rfl, b', MA, mc, hJ⟩
 refine rV ?_
 have hI := hI.callB (X := [_]) hJ
 refine Wn (Wq (Vj rfl (Wn ?_)))
 refine WR ?_
 refine r1_ 10 rfl ⟨_, { L1 with cw := fun i => if i = c' then some b' else L1.cw i, MA := MA, mc := mc }, begS s c' kn write value, rfl, .inr (.inl ⟨c', kn, write, value, hc, hb, hgn, hkn, ⟨hg1.2.2.1, hg1.2.2.2⟩, rfl⟩), ?_, rfl, by rw [← hL1], by rw [hbeg]; exact hI.d0, fun c2 k2 hm2 hk2 _ _ _ _ => by
  obtain rfl : c' = c2 := by have := hm2.eq; omega
  obtain rfl : kn = k2 := by omega
  exact ⟨rfl, rfl⟩, .inr ⟨rfl, c', kn, ⟨rfl, hc, hb, hgn, hroom⟩, rfl, hkn, ⟨hg1.2.2.1, hg1.2.2.2⟩, hw00, rfl⟩⟩
 exact (h.loc (L' := L1) (by rw [← hL1])).begin hc hb hroom hkn (by show (if c' = c' then some b' else L1.cw c') ≠ none; rw [if_pos rfl]; exact fun h => by cases h) (fun i hi => if_neg hi)
end Go.Proofs.YtlkobbighkiojaaGreatDoor
