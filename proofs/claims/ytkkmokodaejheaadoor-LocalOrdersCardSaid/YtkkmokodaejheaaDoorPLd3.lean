/- Texts of the proof, merged: Lp7, Ls7, Lc1, Lc2, Lc3, Lc4, Lc5, Bse, Lc6, Lc7, Lc8, Lc9, Ld1, Ld2, Ld3. -/
import Derived.Test.YtkkmokodaejheaaDoorPLaidL
import Derived.Test.YtkkmokodaejheaaDoorPGow
import Derived.Conc.TokenWalk
set_option linter.unusedVariables false
set_option linter.unusedSimpArgs false
set_option linter.unusedSectionVars false
set_option maxRecDepth 100000
namespace Go.Proofs.YtkkmokodaejheaaDoor
open Go.RowKit
section
variable {P : Program} {N : Nat} {ops : Array Oper} {Q : A9} {rest : List Oper} {ρ : Env} {o : Oper} {w0 w w' : World} {S : Nat → Prop} {H : List Ent} {d g t tt : Nat} {cs : Array Value} {v : Value}
theorem XY {x y : Operand} {e n m by_ : Nat} {z : Value} (zs : Array Value) (hI : Inv S w0 w H) (hw : Ag ops ρ o = true) (hd : o.dst = some d) (hN : Nat.blt d N = true) (ho : o.op = .makeSlice t x y) (hx : ev ρ x = .int .i64 (n : Int)) (hy : ev ρ y = .int .i64 (n : Int))
  (ht : P.underlying t = some (.slice e)) (hi : (P.info? e).map (fun i => (i.zero, i.size, i.bytes)) = some (some z, m, by_)) (hc : madeCells z.cells (n * m) = zs) (hb : by_ * n ≤ 281474976710656) (h63 : n ≤ 9223372036854775807)
  (h : ∀ g w', Pure w w' → g = w.heap.size → Inv S w0 w' (B g e zs :: H) → WL P N ops Q rest (upd ρ d (.slice (some ⟨g, 0, none⟩) n n)) w') : WL P N ops Q (o :: rest) ρ w := by
 cases hp : P.info? e with
 | none => simp [hp] at hi
 | some i =>
  simp only [hp, Option.map_some, Option.some.injEq, Prod.mk.injEq] at hi
  obtain ⟨h1, h2, h3⟩ := hi
  subst h2 h3
  have hb : (i.bytes : Int) * (n : Int) ≤ 281474976710656 := by
   have h : ((i.bytes * n : Nat) : Int) ≤ 281474976710656 := by omega
   rwa [Int.natCast_mul] at h
  have hr := run_make (P := P) w t e i z ht hp h1 .i64 .i64 n n (by omega) (by omega) hb (by omega)
  rw [Int.toNat_natCast, hc] at hr
  exact Fg hw hd hN (by simp [execOp, ho, hx, hy, hr]) (h _ _ ((Pure.refl w).alloc _) rfl (hI.box e _))
end
noncomputable def Aq : Code := Tryd.f7.body.getD .skip
noncomputable def s8 : Code := match Aq with | .seq _ (.seq _ (.seq _ (.seq _ (.seq _ c)))) => c | _ => .skip
noncomputable def Uv : Code := match Aq with | .seq a (.seq b (.seq c (.seq d (.seq e _)))) => .seq a (.seq b (.seq c (.seq d (.seq e .skip)))) | _ => .skip
theorem gr7 : Gr Tryd.prog lcS s8 Uv Aq := by
 unfold s8 Uv Aq
 rw [Tryd.f7]
 dsimp only [Option.getD_some]
 exact .seq (by kernel_rfl) (.seq (by kernel_rfl) (.seq (by kernel_rfl) (.seq (by kernel_rfl) (.seq (by kernel_rfl) .fin))))
structure ZH (o bud wk : Int) (l : List Op8) (b4 b6 b8 b12 b14 gp gn gf : Nat) (As : Nat → Option Addr) (cs : Nat → Nat) (Bs : Nat → Option Addr) (ds : Nat → Nat) (ρ : Env) : Prop where
 has : Has ρ [(3, .int .i64 wk), (4, .pointer (some ⟨b4, 0, none⟩)), (6, .pointer (some ⟨b6, 0, none⟩)), (8, .pointer (some ⟨b8, 0, none⟩)), (9, .nilIface), (12, .pointer (some ⟨b12, 0, none⟩)), (13, .slice (some ⟨gn, 0, none⟩) 8 8), (14, .pointer (some ⟨b14, 0, none⟩))]
def zV : List Value := [.int .i64 0, .int .i64 0, .slice none 0 0]
def zF : List Value := [.int .i64 0, .slice none 0 0, .int .i64 0]
def zF8 : Array Value := (zF ++ zF ++ zF ++ zF ++ zF ++ zF ++ zF ++ zF).toArray
def H7 (o bud : Int) (l : List Op8) (b4 b6 b8 b12 b14 gp gn gf : Nat) (As : Nat → Option Addr) (cs : Nat → Nat) (Bs : Nat → Option Addr) (ds : Nat → Nat) : List Ent :=
 [B b14 49 #[.slice (some ⟨gf, 0, none⟩) 8 8], B gf 26 zF8, B b12 39 #[.slice (some ⟨gp, 0, none⟩) 8 8], AY 8 (pE l As cs l.length), AY 8 (nE l Bs ds l.length), B gp 22 (slC l As cs l.length), B gn 24 (slC l Bs ds l.length), B b8 33 zV.toArray, B b6 3 #[.int .i64 bud], B b4 3 #[.int .i64 o]]
set_option maxHeartbeats 4000000 in
theorem Uu (o : Int) (A : Option Addr) (n c : Nat) (l : List Op8) (bud wk : Int) (D : Nat → Prop) (w0 : World) (h : BK w0 D (.slice A n c) l) (hb : l.length ≤ 10000) (hk : Dq w0) (hb0 : 0 ≤ bud) (hb1 : bud ≤ 1000000) (hw0 : 1 ≤ wk) (hw1 : wk ≤ 64) :
  W Tryd.prog Tryd.f7.ntmps Uv (NK Tryd.prog Tryd.f7 (fun en w' => ¬ BA o l 0 ∧ ∃ x, FZ x ∧ en = .returned (.tuple #[.agg zV.toArray, x]))
   (fun ρ w' => BA o l 0 ∧ ∃ b4 b6 b8 b12 b14 gp gn gf As cs Bs ds, ZH o bud wk l b4 b6 b8 b12 b14 gp gn gf As cs Bs ds ρ ∧ Inv (fun _ => False) w0 w' (H7 o bud l b4 b6 b8 b12 b14 gp gn gf As cs Bs ds)))
   (entry #[.int .i64 o, .slice A n c, .int .i64 bud, .int .i64 wk]) w0 := by
 have hI := Inv.start (fun _ => False) w0
 unfold Uv Aq
 rw [Tryd.f7]
 dsimp only [Option.getD_some]
 refine Ac (Ab ?_)
 refine JD (u := .int .i64 _) (vs := #[_]) hI rfl rfl rfl rfl rfl rfl ?_
 clear hI; rintro b4 w - - hI
 refine JD (u := .int .i64 _) (vs := #[_]) hI rfl rfl rfl rfl rfl rfl ?_
 clear hI; rintro b6 w - - hI
 refine Vw (.agg #[.int .i64 0, .int .i64 0, .slice none 0 0]) (#[.int .i64 0, .int .i64 0, .slice none 0 0]) hI rfl ?_
 clear hI; rintro b8 w - - hI
 refine Vy rfl (Aa ?_)
 by_cases hok : BA o l 0
 rotate_left
 ·refine Ac (Ac (Ab (V3 (.int .i64 _) rfl (hI.c2 rfl) (V8 rfl (Va [.int .i64 _, .slice _ _ _, .slice _ _ _] rfl Tryd.func11 rfl ?_)))))
  refine (Je o A n c l none 0 [] D (fun _ => True) _ (h.pure hI.pu) ⟨none, 0, rfl, Nat.le_refl _, by simp, rfl, fun hh => by simp at hh⟩ (by simp) (hk.pure hI.pu)).mono ?_
  rintro e w1 ⟨hp, ⟨hg, _⟩ | ⟨_, x, ⟨u, rfl⟩, rfl⟩⟩
  ·exact absurd hg hok
  refine ⟨_, rfl, ?_⟩
  replace hI := hI.pure hp
  refine Ta rfl (Vk rfl (Vk rfl (V6 rfl (T6 rfl (Aa (Ac (Ab ?_)))))))
  refine Af rfl rfl rfl (by exact EH rfl rfl) ?_
  refine Af rfl rfl rfl (by exact Fv rfl Tryd.underlying28 rfl rfl) ?_
  refine Aa (Ad true rfl (Ac (Ab ?_)))
  refine Af rfl rfl rfl (EI (qs := []) (vs := [_, _, _]) [.int .i64 0, .int .i64 0, .slice none 0 0] [] rfl rfl rfl (fun _ => by kernel_rfl)) ?_
  refine Af rfl rfl rfl (by exact EH rfl rfl) ?_
  refine Vz 3 (#[_, _, _]) (.agg _) hI rfl ?_
  clear hI; intro w hI
  refine T6 rfl (Aa ?_)
  refine Aj ?_
  refine JQ (n := 3) (t := 33) (.inr rfl) rfl rfl (by kernel_rfl) (by kernel_rfl) rfl hI.g0 ?_
  exact ⟨hok, _, ⟨_, rfl⟩, rfl⟩
 refine Ac (Ac (Ab (V3 (.int .i64 _) rfl (hI.c2 rfl) (V8 rfl (Va [.int .i64 _, .slice _ _ _, .slice _ _ _] rfl Tryd.func11 rfl ?_)))))
 refine (Je o A n c l none 0 [] D (fun _ => True) _ (h.pure hI.pu) ⟨none, 0, rfl, Nat.le_refl _, by simp, rfl, fun hh => by simp at hh⟩ (by simp) (hk.pure hI.pu)).mono ?_
 rintro e w1 ⟨hp, ⟨_, bb, rfl, _⟩ | ⟨hg, _⟩⟩
 rotate_left
 ·exact absurd hok hg
 refine ⟨_, rfl, ?_⟩
 replace hI := hI.pure hp
 refine Ta rfl (Vk rfl (Vk rfl (V6 rfl (Vy rfl (Aa (Ac (Ab ?_)))))))
 refine Af rfl rfl rfl (by exact Fb rfl rfl) ?_
 refine Af rfl rfl rfl (by exact Hg rfl Tryd.underlying28 rfl) ?_
 refine Aa (Ad false rfl (Ah (Ac (Ac (Ab (V3 (.int .i64 _) rfl (hI.c1 rfl) (Vo rfl (V5 rfl (V3 (.int .i64 _) rfl (hI.c1 rfl) ?_)))))))))
 refine Af rfl rfl rfl (by exact JR rfl rfl rfl (by omega)) ?_
 refine Vd rfl (V5 rfl (V0 rfl (Vo rfl (Vd rfl (V5 rfl (V0 rfl ?_))))))
 refine Af rfl rfl rfl (by exact JR rfl rfl rfl (by omega)) ?_
 refine Vd rfl (Aa (Ad false rfl (Ah (Ac (Ab (V8 rfl (Va [.slice _ _ _] rfl Tryd.func10 rfl ?_)))))))
 refine (Ms A n c l D _ (h.pure hI.pu) hb).mono ?_
 rintro e w1 ⟨gp, gn, As, cs, Bs, ds, rfl, hT⟩
 refine ⟨_, rfl, ?_⟩
 replace hI := hI.app hT
 refine Ta rfl (Vk rfl (Vk rfl (Vw (.slice none 0 0) (#[.slice none 0 0]) hI rfl ?_)))
 clear hI; rintro b12 w - - hI
 refine Vz 1 #[_] (.slice _ _ _) hI rfl ?_
 clear hI; intro w hI
 refine Vf rfl (Aa (Ac (Ab (V3 (.slice _ _ _) rfl (hI.c0 rfl) (Vi rfl Tryd.underlying39 rfl ?_)))))
 refine XY (n := 8) (m := 3) (by_ := 40) (z := .agg #[.int .i64 0, .slice none 0 0, .int .i64 0]) zF8 hI rfl rfl rfl rfl rfl rfl Tryd.underlying49 (by kernel_rfl) (by kernel_rfl) (by omega) (by omega) ?_
 clear hI; rintro gf w - - hI
 refine Vw (.slice none 0 0) (#[.slice none 0 0]) hI rfl ?_
 clear hI; rintro b14 w - - hI
 refine Vz 1 #[_] (.slice _ _ _) hI rfl ?_
 clear hI; intro w hI
 refine Aa (Ah ?_)
 exact ⟨hok, _, _, _, _, _, gp, gn, _, As, cs, Bs, ds, ⟨⟨rfl, rfl, rfl, rfl, rfl, rfl, rfl, rfl, trivial⟩⟩, hI⟩
noncomputable def s22 : Code := match s8 with | .seq _ (.seq _ (.seq _ (.seq _ (.seq _ (.seq _ c))))) => c | _ => .skip
structure RB (w0 : World) (b8 b14 gf gn : Nat) (code : Nat → Int) (ord : Nat → List Int) (ent : Nat → Int) (As : Nat → Option Addr) (cs : Nat → Nat) (num : Nat → List Int) (Bs : Nat → Option Addr) (ds : Nat → Nat) : Prop where
 box : w0.cell? ⟨b14, 0, none⟩ = some (.slice (some ⟨gf, 0, none⟩) 8 8)
 cCell : ∀ k, k < 8 → w0.cell? ⟨gf, 0 + k * 3, none⟩ = some (.int .i64 (code k))
 oCell : ∀ k, k < 8 → w0.cell? ⟨gf, 0 + k * 3 + 1, none⟩ = some (.slice (As k) (ord k).length (cs k))
 eCell : ∀ k, k < 8 → w0.cell? ⟨gf, 0 + k * 3 + 2, none⟩ = some (.int .i64 (ent k))
 nCell : ∀ k, k < 8 → w0.cell? ⟨gn, k, none⟩ = some (.slice (Bs k) (num k).length (ds k))
 ordR : ∀ k, k < 8 → Rd w0 (fun b => b ≠ b8) 1 (.slice (As k) (ord k).length (cs k)) (ord k).length (Ba (ord k))
 numR : ∀ k, k < 8 → Rd w0 (fun b => b ≠ b8) 1 (.slice (Bs k) (num k).length (ds k)) (num k).length (Ba (num k))
 n14 : b14 ≠ b8
 nf : gf ≠ b8
 nn : gn ≠ b8
 res : Blk w0 b8 33 zV.toArray
 one : ∀ k, k < 8 → code k = 1 ∨ code k = 2
 idx : ∀ k, k < 8 → ∀ i ∈ ord k, 0 ≤ i ∧ i < ((num k).length : Int)
 few : ∀ k, k < 8 → (ord k).length ≤ 10000
def Jm (ord num : Nat → List Int) (k : Nat) : List Int := (ord k).map fun i => (num k).getD i.toNat 0
def OQ (ord num : Nat → List Int) (Cs : Nat → Option Addr) (es : Nat → Nat) (k : Nat) : Ent := Row 0 3 1 (Cs k) (ord k).length (es k) (Ba (Jm ord num k))
def EJ (ord : Nat → List Int) (Cs : Nat → Option Addr) (es : Nat → Nat) (k : Nat) : List Value := (List.range k).map fun j => Value.slice (Cs j) (ord j).length (es j)
theorem OP (ord : Nat → List Int) (Cs : Nat → Option Addr) (es : Nat → Nat) (k : Nat) (A : Option Addr) (c : Nat) : EJ ord (fun j => if j = k then A else Cs j) (fun j => if j = k then c else es j) (k + 1) = EJ ord Cs es k ++ [.slice A (ord k).length c] := by
 unfold EJ
 rw [List.range_succ, List.map_append]
 congr 1
 ·refine List.map_congr_left fun j hj => ?_
  have : j ≠ k := by have := List.mem_range.1 hj; omega
  simp [this]
 ·simp
def Wi (b8 : Nat) (code : Nat → Int) (ord num : Nat → List Int) (w0 : World) (en : Ending) (w' : World) : Prop :=
 (∃ k : Nat, k < 8 ∧ code k = 2 ∧ (∀ j, j < k → code j = 1) ∧ en = .returned (.tuple #[.agg #[.int .i64 2, .int .i64 (k : Int), .slice none 0 0], .nilIface]) ∧ Chg (fun k => k = b8) w0 w') ∨
 ((∀ k, k < 8 → code k = 1) ∧ ∃ A c Cs es, en = .returned (.tuple #[.agg #[.int .i64 1, .int .i64 (-1), .slice A 8 c], .nilIface]) ∧ Inv (fun k => k = b8) w0 w' [Row 0 24 1 A 8 c (EJ ord Cs es 8), AY 8 (OQ ord num Cs es)])
set_option maxHeartbeats 4000000 in
theorem Tx {b8 b14 gf gn : Nat} {code : Nat → Int} {ord : Nat → List Int} {ent : Nat → Int} {As : Nat → Option Addr} {cs : Nat → Nat} {num : Nat → List Int} {Bs : Nat → Option Addr} {ds : Nat → Nat} {w0 : World} (F : RB w0 b8 b14 gf gn code ord ent As cs num Bs ds) {ρ : Env}
  (hH : Has ρ [(8, .pointer (some ⟨b8, 0, none⟩)), (13, .slice (some ⟨gn, 0, none⟩) 8 8), (14, .pointer (some ⟨b14, 0, none⟩))]) :
  W Tryd.prog Tryd.f7.ntmps s22 (DR Tryd.prog Tryd.f7 (Wi b8 code ord num w0)) ρ w0 := by
 obtain ⟨σ, rfl⟩ := hH.open
 have hI : Inv (fun k => k = b8) w0 w0 [B b8 33 zV.toArray] := ⟨Chg.refl _ _, fun e he => by rw [List.mem_singleton.1 he]; exact B.ok F.res, fun e he k hk => by rw [List.mem_singleton.1 he] at hk; exact .inl hk, List.pairwise_singleton ..⟩
 unfold s22 s8 Aq
 rw [Tryd.f7]
 dsimp only [Option.getD_some]
 refine Ac (Ac (Ab (Vm [(0, .int .i64 _), (1, .int .i64 _)] [_, _] [.int .i64 0, .int .i64 0] [0, 1] hI rfl Tryd.underlying24 (fun _ => by kernel_rfl) ?_)))
 clear hI; rintro b79 w - - hI
 refine Vi rfl Tryd.underlying24 rfl (V0 rfl (Aa (Al ?_)))
 have hz : ∀ i : Nat, i < 2 → (#[Value.int .i64 2, Value.int .i64 3] : Array Value)[i]? = some (.int .i64 ((i : Int) + 2)) := fun i hi => by
  match i, hi with
  | 0, _ => rfl
  | 1, _ => rfl
 refine Ff (fun ρ w => ∃ i : Nat, i ≤ 2 ∧ (i = 0 ∨ ∀ k, k < 8 → code k = 1) ∧ Has ρ [(81, .int .i64 (i : Int)), (80, .int .i64 2), (79, .slice (some ⟨b79, 0, none⟩) 2 2), (8, .pointer (some ⟨b8, 0, none⟩)), (13, .slice (some ⟨gn, 0, none⟩) 8 8), (14, .pointer (some ⟨b14, 0, none⟩))] ∧
  Inv (fun k => k = b8) w0 w [B b79 3 #[.int .i64 2, .int .i64 3], B b8 33 zV.toArray]) (fun ρ _ => 2 - cnt (ρ 81)) ⟨0, by omega, .inl rfl, ⟨rfl, rfl, rfl, rfl, rfl, rfl, trivial⟩, hI⟩ ?_
 clear hI
 rintro ρ w ⟨i, hi, hone, hH, hI⟩
 obtain ⟨σ, rfl⟩ := hH.open
 by_cases hi2 : i < 2
 ·refine Ac (Ab (Vt rfl (Aa (Ac (Ad true rfl (Ah (Ac (Al (Ac (Ab (Tb rfl Tryd.underlying24 rfl (V3 (.int .i64 _) rfl (hI.c0 (hz i hi2)) (V9 rfl ?_)))))))))))))
  refine Aa (Ac (Ab (V3 (.slice _ _ _) rfl (hI.old F.box F.n14) (Vi rfl Tryd.underlying49 rfl (V0 rfl (Aa (Al ?_)))))))
  refine Ff (fun ρ w => ∃ k : Nat, k ≤ 8 ∧ (∀ j, j < k → code j ≠ (i : Int) + 2) ∧ Has ρ [(87, .int .i64 (k : Int)), (86, .int .i64 8), (85, .slice (some ⟨gf, 0, none⟩) 8 8), (19, .int .i64 ((i : Int) + 2)), (81, .int .i64 (i : Int)), (80, .int .i64 2), (79, .slice (some ⟨b79, 0, none⟩) 2 2), (8, .pointer (some ⟨b8, 0, none⟩)), (13, .slice (some ⟨gn, 0, none⟩) 8 8), (14, .pointer (some ⟨b14, 0, none⟩))] ∧
   Inv (fun k => k = b8) w0 w [B b79 3 #[.int .i64 2, .int .i64 3], B b8 33 zV.toArray]) (fun ρ _ => 8 - cnt (ρ 87)) ⟨0, by omega, fun j hj => by omega, ⟨rfl, rfl, rfl, rfl, rfl, rfl, rfl, rfl, rfl, rfl, trivial⟩, hI⟩ ?_
  clear hI
  rintro ρ w ⟨k, hk, hno, hH, hI⟩
  obtain ⟨σ, rfl⟩ := hH.open
  by_cases hk8 : k < 8
  rotate_left
  ·obtain rfl : k = 8 := by omega
   refine Ac (Ab (Vo rfl (Aa (Ac (Ad false rfl ?_)))))
   refine BG ?_
   refine Ab (Vb rfl (V0 rfl (Aa ?_)))
   refine ⟨⟨i + 1, by omega, .inr fun k hk => ?_, ⟨rfl, rfl, rfl, rfl, rfl, rfl, trivial⟩, hI⟩, by show 2 - ((i + 1 : Nat) : Int).toNat < 2 - (i : Int).toNat; omega⟩
   rcases hone with h | h
   ·have := hno k hk
    exact (F.one k hk).resolve_right (by subst h; simpa using this)
   ·exact h k hk
  refine Ac (Ab (Vt rfl (Aa (Ac (Ad true rfl (Ah (Ac (Al (Ac (Ab (V0 rfl (Th 3 rfl Tryd.underlying49 rfl ?_))))))))))))
  refine Af rfl rfl rfl (by exact Aaf rfl (by kernel_rfl) (by kernel_rfl) rfl (by exact (hI.old (F.cCell k hk8) F.nf)) (by exact (hI.old (F.oCell k hk8) F.nf)) (by exact (hI.old (F.eCell k hk8) F.nf))) ?_
  refine Vw (.agg #[.int .i64 0, .slice none 0 0, .int .i64 0]) (#[.int .i64 0, .slice none 0 0, .int .i64 0]) hI rfl ?_
  clear hI; rintro b21 w - - hI
  refine V9 rfl (Vz 3 (#[_, _, _]) (.agg _) hI rfl ?_)
  clear hI; intro w hI
  refine Aa ?_
  by_cases he : code k = (i : Int) + 2
  ·have hi0 : i = 0 := by
    rcases F.one k hk8 with h | h <;> omega
   subst hi0
   have he : code k = 2 := by simpa using he
   rw [he] at hI
   refine Ac (Ab (V7 0 rfl (V3 (.int .i64 _) rfl (hI.c0 rfl) (V0 rfl (Vu rfl (Aa (Ad true rfl (Ac (Ab (V0 rfl (V0 rfl ?_)))))))))))
   refine Af rfl rfl rfl (EI (qs := [(0, .int .i64 _), (1, .int .i64 _)]) (vs := [_, _, _]) [.int .i64 0, .int .i64 0, .slice none 0 0] [0, 1] rfl rfl rfl (fun _ => by kernel_rfl)) ?_
   refine XU (u := .agg _) (vs := #[_, _, _]) (n := 3) hI rfl rfl rfl rfl rfl rfl (by kernel_rfl) rfl rfl rfl ?_
   clear hI; intro w hI
   refine Vy rfl (Aa ?_)
   refine Aj ?_
   refine JQ (n := 3) (t := 33) (.inr rfl) rfl rfl (by kernel_rfl) (by kernel_rfl) rfl hI.g2 ?_
   exact .inl ⟨k, hk8, he, fun j hj => (F.one j (by omega)).resolve_right (by simpa using hno j hj), rfl, hI.chg⟩
  refine Ac (Ab (V7 0 rfl (V3 (.int .i64 _) rfl (hI.c0 rfl) (V0 rfl (Vj rfl (Aa (Ad false rfl (Ah (Ab (Vb rfl (V0 rfl (Aa ?_))))))))))))
  refine ⟨⟨k + 1, by omega, fun j hj => ?_, ⟨rfl, rfl, rfl, rfl, rfl, rfl, rfl, rfl, rfl, rfl, trivial⟩, hI.d0⟩, by show 8 - ((k + 1 : Nat) : Int).toNat < 8 - (k : Int).toNat; omega⟩
  by_cases hjk : j = k
  ·subst hjk; exact he
  ·exact hno j (by omega)
 obtain rfl : i = 2 := by omega
 have hall : ∀ k, k < 8 → code k = 1 := by
  rcases hone with h | h
  ·omega
  ·exact h
 refine Ac (Ab (Vo rfl (Aa (Ac (Ad false rfl ?_)))))
 refine BG ?_
 refine Ac (Ab ?_)
 refine Af rfl rfl rfl (EI (qs := [(0, .int .i64 _), (1, .int .i64 _)]) (vs := [_, _, _]) [.int .i64 0, .int .i64 0, .slice none 0 0] [0, 1] rfl rfl rfl (fun _ => by kernel_rfl)) ?_
 refine Vw (.agg #[.int .i64 0, .int .i64 0, .slice none 0 0]) (#[.int .i64 0, .int .i64 0, .slice none 0 0]) hI rfl ?_
 clear hI; rintro b22 w - - hI
 refine Vz 3 (#[_, _, _]) (.agg _) hI rfl ?_
 clear hI; intro w hI
 refine Aa (Ac (Ac (Ab (V3 (.slice _ _ _) rfl (hI.old F.box F.n14) (Vi rfl Tryd.underlying49 rfl (V0 rfl (Aa (Al ?_))))))))
 replace hI : Inv (fun k => k = b8) w0 w [Row 0 24 1 none 0 0 (EJ ord (fun _ => none) (fun _ => 0) 0), AY 0 (OQ ord num (fun _ => none) (fun _ => 0)), B b22 33 #[.int .i64 1, .int .i64 (-1), .slice none 0 0], B b79 3 #[.int .i64 2, .int .i64 3], B b8 33 zV.toArray] :=
  (hI.many_nil _).fresh (Pure.refl _) (Row.nil _ 0 24 1) (fun k hk => by simp [Row] at hk)
 refine Ff (fun ρ w => ∃ (k : Nat) (A : Option Addr) (c : Nat) (Cs : Nat → Option Addr) (es : Nat → Nat), k ≤ 8 ∧ Has ρ [(104, .int .i64 (k : Int)), (103, .int .i64 8), (102, .slice (some ⟨gf, 0, none⟩) 8 8), (22, .pointer (some ⟨b22, 0, none⟩)), (8, .pointer (some ⟨b8, 0, none⟩)), (13, .slice (some ⟨gn, 0, none⟩) 8 8)] ∧
  Inv (fun k => k = b8) w0 w [Row 0 24 1 A k c (EJ ord Cs es k), AY k (OQ ord num Cs es), B b22 33 #[.int .i64 1, .int .i64 (-1), .slice A k c], B b79 3 #[.int .i64 2, .int .i64 3], B b8 33 zV.toArray]) (fun ρ _ => 8 - cnt (ρ 104)) ⟨0, _, _, _, _, by omega, ⟨rfl, rfl, rfl, rfl, rfl, rfl, trivial⟩, hI⟩ ?_
 clear hI
 rintro ρ w ⟨k, A, c, Cs, es, hk, hH, hI⟩
 obtain ⟨σ, rfl⟩ := hH.open
 by_cases hk8 : k < 8
 rotate_left
 ·obtain rfl : k = 8 := by omega
  refine Ac (Ab (Vo rfl (Aa (Ac (Ad false rfl ?_)))))
  refine BG ?_
  refine Ac (Ab (Tk 3 rfl hI.g2 ?_))
  refine XT (u := .agg _) (vs := #[_, _, _]) (n := 3) hI rfl rfl rfl rfl rfl rfl (by kernel_rfl) rfl rfl rfl ?_
  clear hI; intro w hI
  refine Vy rfl (Aa ?_)
  refine Aj ?_
  refine JQ (n := 3) (t := 33) (.inr rfl) rfl rfl (by kernel_rfl) (by kernel_rfl) rfl hI.g4 ?_
  exact .inr ⟨hall, A, c, Cs, es, rfl, hI.d4.d3.d2⟩
 obtain ⟨A1, c1, hv1, hn1, hc1, hlen1, hcell1⟩ := F.ordR k hk8
 obtain ⟨A2, c2, hv2, hn2, hc2, hlen2, hcell2⟩ := F.numR k hk8
 have oC := F.oCell k hk8
 have nC := F.nCell k hk8
 rw [hv1] at oC
 rw [hv2] at nC
 have hfew := F.few k hk8
 refine Ac (Ab (Vt rfl (Aa (Ac (Ad true rfl (Ah (Ac (Al (Ac (Ab (V0 rfl (Th 3 rfl Tryd.underlying49 rfl ?_))))))))))))
 refine Af rfl rfl rfl (by exact Aaf rfl (by kernel_rfl) (by kernel_rfl) rfl (by exact (hI.old (F.cCell k hk8) F.nf)) (by exact (hI.old oC F.nf)) (by exact (hI.old (F.eCell k hk8) F.nf))) ?_
 refine Vw (.agg #[.int .i64 0, .slice none 0 0, .int .i64 0]) (#[.int .i64 0, .slice none 0 0, .int .i64 0]) hI rfl ?_
 clear hI; rintro b24 w - - hI
 refine V9 rfl (Vz 3 (#[_, _, _]) (.agg _) hI rfl ?_)
 clear hI; intro w hI
 refine Aa (Ac (Ab (Vf rfl (Aa (Ac (Ac (Ab (V7 1 rfl (V3 (.slice _ _ _) rfl (hI.c0 rfl) (Vi rfl Tryd.underlying24 rfl (V0 rfl (Aa ?_))))))))))))
 replace hI := hI.fresh (Pure.refl _) (Row.nil _ 0 3 1) (fun k hk => by simp [Row] at hk)
 refine Al ?_
 refine Ff (fun ρ w => ∃ (p : Nat) (A5 : Option Addr) (c5 : Nat), p ≤ (ord k).length ∧ Has ρ [(112, .int .i64 (p : Int)), (111, .int .i64 ((ord k).length : Int)), (110, .slice A1 (ord k).length c1), (25, .slice A5 p c5), (23, .int .i64 (k : Int)), (104, .int .i64 (k : Int)), (103, .int .i64 8), (102, .slice (some ⟨gf, 0, none⟩) 8 8), (22, .pointer (some ⟨b22, 0, none⟩)), (8, .pointer (some ⟨b8, 0, none⟩)), (13, .slice (some ⟨gn, 0, none⟩) 8 8)] ∧
  Inv (fun k => k = b8) w0 w [Row 0 3 1 A5 p c5 (Ba ((Jm ord num k).take p)), B b24 26 #[.int .i64 (code k), .slice A1 (ord k).length c1, .int .i64 (ent k)], Row 0 24 1 A k c (EJ ord Cs es k), AY k (OQ ord num Cs es), B b22 33 #[.int .i64 1, .int .i64 (-1), .slice A k c], B b79 3 #[.int .i64 2, .int .i64 3], B b8 33 zV.toArray]) (fun ρ _ => (ord k).length - cnt (ρ 112)) ⟨0, _, _, by omega, ⟨rfl, rfl, rfl, rfl, rfl, rfl, rfl, rfl, rfl, rfl, rfl, trivial⟩, hI⟩ ?_
 clear hI
 rintro ρ w ⟨p, A5, c5, hp, hH, hI⟩
 obtain ⟨σ, rfl⟩ := hH.open
 by_cases hpl : p < (ord k).length
 ·obtain ⟨ob, oo, rfl, hob, hoc⟩ := hcell1 (by omega)
  obtain ⟨i, hi⟩ : ∃ i, (ord k)[p]? = some i := ⟨_, List.getElem?_eq_getElem hpl⟩
  have hix := F.idx k hk8 i (List.mem_of_getElem? hi)
  obtain ⟨m, rfl⟩ : ∃ m : Nat, i = (m : Int) := ⟨i.toNat, by omega⟩
  have hm : m < (num k).length := by omega
  obtain ⟨nb, no, rfl, hnb, hnc⟩ := hcell2 (by omega)
  have q1 := hoc p (.int .i64 (m : Int)) (by simp [Ba, hi])
  obtain ⟨x, hx⟩ : ∃ x, (num k)[m]? = some x := ⟨_, List.getElem?_eq_getElem hm⟩
  have q2 := hnc m (.int .i64 x) (by simp [Ba, hx])
  have htk : Ba ((Jm ord num k).take p) ++ [.int .i64 x] = Ba ((Jm ord num k).take (p + 1)) := by
   rw [List.take_add_one]
   simp [Ba, Jm, hi, hx]
  refine Ac (Ab (Vt rfl (Aa (Ac (Ad true rfl (Ah (Ac (Al (Ac (Ab ?_))))))))))
  refine Af rfl rfl rfl (by exact Dz rfl Tryd.underlying24 (by kernel_rfl) rfl rfl (by omega)) ?_
  refine V3 (.int .i64 _) rfl (hI.old q1 hob) (V9 rfl (Aa (Ab (V8 rfl (V8 rfl (V0 rfl (Tb rfl Tryd.underlying31 rfl (V3 (.slice _ _ _) rfl (hI.old nC F.nn) (V0 rfl ?_)))))))))
  refine Af rfl rfl rfl (by exact Dz rfl Tryd.underlying24 (by kernel_rfl) rfl rfl (by omega)) ?_
  refine V3 (.int .i64 _) rfl (hI.old q2 hnb) (Vm [(0, .int .i64 _)] [_] [.int .i64 0] [0] hI rfl Tryd.underlying24 (fun _ => by kernel_rfl) ?_)
  clear hI; rintro b124 w - - hI
  refine Eb (z := .int .i64 0) (by_ := 8) hI rfl rfl rfl rfl rfl rfl Tryd.underlying24 (by kernel_rfl) rfl (by omega) (by rfl) hI.lit0 (by rfl) (by omega) (by omega) (by exact Nat.zero_le _) ?_
  clear hI; rintro A125 c125 w hA125 hc125 hI
  replace hI := hI.d0
  refine Vf rfl (Aa ?_)
  rw [htk] at hI
  refine Ab (Vb rfl (V0 rfl (Aa ?_)))
  exact ⟨⟨p + 1, A125, c125, by omega, ⟨rfl, rfl, rfl, rfl, rfl, rfl, rfl, rfl, rfl, rfl, rfl, trivial⟩, hI⟩, by show (ord k).length - ((p + 1 : Nat) : Int).toNat < (ord k).length - (p : Int).toNat; omega⟩
 obtain rfl : p = (ord k).length := by omega
 have hfull : (Jm ord num k).take (ord k).length = Jm ord num k := List.take_of_length_le (by simp [Jm])
 rw [hfull] at hI
 refine Ac (Ab (Vo rfl (Aa (Ac (Ad false rfl ?_)))))
 refine BG ?_
 refine Ab (V7 2 rfl (V3 (.slice _ _ _) rfl (hI.c4 rfl) (V8 rfl (Vm [(0, .slice _ _ _)] [_] [.slice none 0 0] [0] hI rfl Tryd.underlying31 (fun _ => by kernel_rfl) ?_))))
 clear hI; rintro b130 w - - hI
 refine X4 (z := .slice none 0 0) (by_ := 24) hI rfl rfl rfl rfl rfl rfl Tryd.underlying31 (by kernel_rfl) rfl (by omega) (by rfl) hI.lit0 (by rfl) (by omega) (by omega) (by exact Nat.zero_le _) ?_
 clear hI; rintro A131 c131 w hA131 hc131 hI
 replace hI := hI.d0
 refine V7 2 rfl ?_
 refine ZB (u := .slice _ _ _) hI rfl rfl rfl rfl rfl rfl (by kernel_rfl) rfl rfl rfl ?_
 clear hI; intro w hI
 refine Aa (Ab (Vb rfl (V0 rfl (Aa ?_))))
 refine ⟨⟨k + 1, A131, c131, (fun j => if j = k then A5 else Cs j), (fun j => if j = k then c5 else es j), by omega, ⟨rfl, rfl, rfl, rfl, rfl, rfl, trivial⟩, ?_⟩, by show 8 - ((k + 1 : Nat) : Int).toNat < 8 - (k : Int).toNat; omega⟩
 rw [OP]
 refine (((hI.d1.pull 2 rfl).sw0.many_push).many_congr fun i hi => ?_).sw0
 unfold OQ
 by_cases hik : i = k
 ·subst hik; simp [Jm]
 ·simp [hik]
end Go.Proofs.YtkkmokodaejheaaDoor
namespace Go.Proofs.YtkkmokodaejheaaDoor
open Go Go.Conc Go.Conc.Lib Go.ConcR.Gen Go.RowKit
noncomputable def AA : Array Oper := match s8 with | .seq _ (.seq _ (.seq _ (.seq _ (.seq _ (.seq (.region _ o _) _))))) => o | _ => #[]
structure T7 (b8 gn b14 : Nat) (T : Array Value) : Prop where
 size : T.size = 135
 t8 : T[8]? = some (.pointer (some ⟨b8, 0, none⟩))
 t13 : T[13]? = some (.slice (some ⟨gn, 0, none⟩) 8 8)
 t14 : T[14]? = some (.pointer (some ⟨b14, 0, none⟩))
def Aa3 (l : LL) (f : Nat → Found) (k : Nat) (M : Nat → Prop) (w : World) : Prop := k < 8 → ∃ A cc, w.cell? ⟨l.C, 3 * k, none⟩ = some (.int .i64 (f k).code) ∧ w.cell? ⟨l.C, 3 * k + 1, none⟩ = some (.slice A (f k).ord.length cc) ∧ w.cell? ⟨l.C, 3 * k + 2, none⟩ = some (.int .i64 (f k).ent) ∧ Gt M w A cc (f k).ord
def Gq (l : LL) (B0 z0 T0 : Nat) (SB : Nat → Prop) : GQ where
 Wg := l.Wg
 Ch := l.Ch
 B0 := B0
 z0 := z0
 T0 := T0
 R b := b < B0 ∧ b ≠ l.Wg ∧ b ≠ l.Ch ∧ b ≠ l.C ∧ ¬ SB b
 Mine k a := k < 8 ∧ ∃ i, i < 3 ∧ a = ⟨l.C, 3 * k + i, none⟩
 Shun l := ∃ a, l = .cell a ∧ SB a.block
theorem VV (l : LL) {B0 z0 T0 : Nat} {SB : Nat → Prop} (h1 : l.Wg < B0) (h2 : l.Ch < B0) (h3 : l.C < B0) (h12 : l.Wg ≠ l.Ch) (h13 : l.C ≠ l.Wg) (h23 : l.C ≠ l.Ch) (hS : ∀ b, SB b → b < B0 ∧ b ≠ l.Wg ∧ b ≠ l.Ch ∧ b ≠ l.C) : (Gq l B0 z0 T0 SB).Ok where
 rB b h := h.1
 rW b h := ⟨h.2.1, h.2.2.1⟩
 rM k a h hr := by obtain ⟨_, i, _, rfl⟩ := h; exact hr.2.2.2.1 rfl
 mB k a h := by obtain ⟨_, i, _, rfl⟩ := h; exact ⟨h3, h13, h23⟩
 mU k k' a h h' := by
  obtain ⟨_, i, hi, rfl⟩ := h
  obtain ⟨_, i', hi', e⟩ := h'
  injection e with e1 e2
  omega
 wB := h1
 cB := h2
 wc := h12
 shun l' h := by
  obtain ⟨a, e, hs⟩ := h
  refine ⟨a, e, (hS _ hs).1, (hS _ hs).2.1, fun hr => hr.2.2.2.2 hs, fun k hk => ?_⟩
  obtain ⟨_, i, _, rfl⟩ := hk
  exact (hS _ hs).2.2.2 rfl
noncomputable def OL (l : LL) (f : Nat → Found) (B0 z0 N T0 : Nat) (SB : Nat → Prop) : Cfg where
 P := Tryd.prog
 ty := link.tWg
 A := Gq l B0 z0 T0 SB
 m := 8
 N := N
 CSh w := (∃ cs e, w.heap[l.C]? = some (.cells cs e (0, 0)) ∧ cs.size = 24) ∧ LWK l w
 Res := Aa3 l f
 Head _ _ := True
 Anch _ _ := True
 Tail _ := True
 z := .int .i64 0
noncomputable def b7 : Frame := base 7
noncomputable abbrev F7 (T : Array Value) : Frame := b7.at ⟨T, []⟩ (.inRegion AA [0] :: [.code s22])
noncomputable def G7 (T : Array Value) (cs : List Frame) : Goroutine := G (b7.at ((⟨T, []⟩ : Act).put ((AA[0]?).bind (·.dst)) (.tuple #[])) (.inRegion AA [] :: [.code s22])) cs
noncomputable def Hw (l : LL) (f : Nat → Found) (B0 z0 N T0 : Nat) (SB : Nat → Prop) (b8 gn b14 : Nat) (cs : List Frame) : Cfg :=
 { OL l f B0 z0 N T0 SB with
  Head := fun g w => (OL l f B0 z0 N T0 SB).WO (HS (OL l f B0 z0 N T0 SB) l) g w
  Anch := fun g w => ∃ T, T7 b8 gn b14 T ∧ Gs (OL l f B0 z0 N T0 SB) link (F7 T) cs g w
  Tail := fun g => ∃ T, T7 b8 gn b14 T ∧ Lu Tryd.prog (G7 T cs) g }
section
variable {l : LL} {f : Nat → Found} {B0 z0 N T0 : Nat} {SB : Nat → Prop} {b8 gn b14 : Nat} {cs : List Frame}
structure At7 (l : LL) (B0 : Nat) (SB : Nat → Prop) : Prop where
 m : l.m = 8
 wg : l.Wg < B0
 ch : l.Ch < B0
 c : l.C < B0
 wc : l.Wg ≠ l.Ch
 cw : l.C ≠ l.Wg
 cc : l.C ≠ l.Ch
 sb : ∀ b, SB b → b < B0 ∧ b ≠ l.Wg ∧ b ≠ l.Ch ∧ b ≠ l.C
 rd : ∀ b, b = l.Bk ∨ b = l.Bo ∨ b = l.Bp ∨ b = l.Bb ∨ b = l.Bf ∨ b = l.Ap → b < B0 ∧ b ≠ l.Wg ∧ b ≠ l.Ch ∧ b ≠ l.C ∧ ¬ SB b
theorem AaN (h : At7 l B0 SB) (hkn : ∀ w w1 : World, w.heap.size ≤ w1.heap.size → (∀ b, (Gq l B0 z0 T0 SB).R b → w1.heap[b]? = w.heap[b]?) → l.Kn w → l.Kn w1) : LLR (Hw l f B0 z0 N T0 SB b8 gn b14 cs) l where
 wg := rfl
 ch := rfl
 rk := h.rd _ (by simp)
 ro := h.rd _ (by simp)
 rp := h.rd _ (by simp)
 rb := h.rd _ (by simp)
 rf := h.rd _ (by simp)
 ra := h.rd _ (by simp)
 kn := hkn
theorem Aao (h : At7 l B0 SB) (hkn : ∀ w w1 : World, w.heap.size ≤ w1.heap.size → (∀ b, (Gq l B0 z0 T0 SB).R b → w1.heap[b]? = w.heap[b]?) → l.Kn w → l.Kn w1) {w w1 : World} (hK : LWK l w) (hs : w.heap.size ≤ w1.heap.size) (hb : ∀ b, (Gq l B0 z0 T0 SB).R b → w1.heap[b]? = w.heap[b]?) : LWK l w1 :=
 ⟨(Cfg.cell_of (hb _ (h.rd _ (by simp)))).trans hK.keys, (Cfg.cell_of (hb _ (h.rd _ (by simp)))).trans hK.obj, (Cfg.cell_of (hb _ (h.rd _ (by simp)))).trans hK.parts, (Cfg.cell_of (hb _ (h.rd _ (by simp)))).trans hK.bud, (Cfg.cell_of (hb _ (h.rd _ (by simp)))).trans hK.found,
  fun j hj => (Cfg.cell_of (hb _ (h.rd _ (by simp)))).trans (hK.part j hj), hkn _ _ hs hb hK.kn⟩
theorem hk7 (h : At7 l B0 SB) (hkn : ∀ w w1 : World, w.heap.size ≤ w1.heap.size → (∀ b, (Gq l B0 z0 T0 SB).R b → w1.heap[b]? = w.heap[b]?) → l.Kn w → l.Kn w1) : Hk (Hw l f B0 z0 N T0 SB b8 gn b14 cs) l f where
 mine j hj i hi := ⟨by rw [← h.m]; exact hj, i, hi, rfl⟩
 csh w j x y z hj hc := by
  obtain ⟨⟨c0, e, hC, hs⟩, hK⟩ := hc
  obtain ⟨hz1, hz2⟩ := MR (l := l) j x y z w
  refine ⟨?_, Aao h hkn hK (Nat.le_of_eq hz1.symm) fun b hb => hz2 b hb.2.2.2.1⟩
  have e1 := setCell_eq_setRow w l.C (3 * j) c0 e (0, 0) x hC
  have h1 := setRow_heap w l.C c0 (c0.setIfInBounds (3 * j) x) e (0, 0) hC
  have e2 := setCell_eq_setRow (w.setRow l.C (c0.setIfInBounds (3 * j) x)) l.C (3 * j + 1) _ e (0, 0) y h1
  have h2 := setRow_heap _ l.C _ ((c0.setIfInBounds (3 * j) x).setIfInBounds (3 * j + 1) y) e (0, 0) h1
  have e3 := setCell_eq_setRow _ l.C (3 * j + 2) _ e (0, 0) z h2
  have h3 := setRow_heap _ l.C _ (((c0.setIfInBounds (3 * j) x).setIfInBounds (3 * j + 1) y).setIfInBounds (3 * j + 2) z) e (0, 0) h2
  refine ⟨((c0.setIfInBounds (3 * j) x).setIfInBounds (3 * j + 1) y).setIfInBounds (3 * j + 2) z, e, ?_, ?_⟩
  ·unfold Gh
   rw [e1, e2, e3]
   exact h3
  ·simpa using hs
 blk w hc := by
  obtain ⟨⟨c0, e, hC, hs⟩, _⟩ := hc
  exact ⟨c0, e, hC, by rw [h.m, hs]; omega⟩
 res j M w A cc hj g0 g1 g2 g3 := fun _ => ⟨A, cc, g0, g1, g2, g3⟩
 head g w hg := hg
set_option maxHeartbeats 1000000 in
theorem XM (h : At7 l B0 SB) (hkn : ∀ w w1 : World, w.heap.size ≤ w1.heap.size → (∀ b, (Gq l B0 z0 T0 SB).R b → w1.heap[b]? = w.heap[b]?) → l.Kn w → l.Kn w1) {ops : Nat → List Op8} {D : Nat → Prop} (hKN : ∀ w, l.Kn w → KN4 (OL l f B0 z0 N T0 SB) l ops D w) (hf : f = Da l ops) (hN : N < 2147483648) (hz : z0 < N) :
  (Hw l f B0 z0 N T0 SB b8 gn b14 cs).Ok := by
 have hArea := VV l (z0 := z0) (T0 := T0) h.wg h.ch h.c h.wc h.cw h.cc h.sb
 have K0 : (Hw l f B0 z0 N T0 SB b8 gn b14 cs).Ok0 := ⟨hArea, fun w w' hsz hh hc => by
  obtain ⟨⟨c0, e, hC, hs⟩, hK⟩ := hc
  exact ⟨⟨c0, e, (hh l.C h.c h.cw h.cc).trans hC, hs⟩, Aao h hkn hK hsz fun b hb => hh b hb.1 hb.2.1 hb.2.2.1⟩⟩
 have k : LLR (Hw l f B0 z0 N T0 SB b8 gn b14 cs) l := AaN h hkn
 have hKN' : ∀ w, l.Kn w → KN4 (Hw l f B0 z0 N T0 SB b8 gn b14 cs) l ops D w := fun w hw => by
  obtain ⟨g1, g2, g3, g4, g5, g6, g7⟩ := hKN w hw
  exact ⟨g1, g2, g3, g4, g5, g6, g7⟩
 have H : Hk (Hw l f B0 z0 N T0 SB b8 gn b14 cs) l (Da l ops) := hf ▸ hk7 h hkn
 refine { toOk0 := K0, res := ?_, head := ?_, anch := ?_, anchR := ?_, N := hN, z0 := hz }
 ·intro k D w w' h1 h2 hr hk
  obtain ⟨A, cc, g0, g1, g2, g3⟩ := hr hk
  exact ⟨A, cc, (h2 _ ⟨hk, 0, by omega, rfl⟩).trans g0, (h2 _ ⟨hk, 1, by omega, rfl⟩).trans g1, (h2 _ ⟨hk, 2, by omega, rfl⟩).trans g2, g3.keep (fun _ h => h) h1⟩
 ·intro g w hS hg
  have hg : Own Tryd.prog false (Gq l B0 z0 T0 SB).R (Hw l f B0 z0 N T0 SB b8 gn b14 cs).Sh (fun _ => False) (HS (Hw l f B0 z0 N T0 SB b8 gn b14 cs) l) none_ g w := hg
  refine hg.bind fun M g w hh => ?_
  obtain ⟨rfl, hh, hS⟩ := hh
  exact QW rfl (YD K0 rfl rfl rfl k (fun j g w hj hK hS' hk => Ze K0 k hKN' H rfl j g w (by rw [h.m]; exact hj) hK hS' hk) g w hh hS)
 ·rintro g w ⟨T, hT, hw⟩
  exact Cfg.Cv (Cfg.PQ (L := link) K0 Ko rfl (fun g w hh => ⟨T, hT, hh⟩) (fun g hh => ⟨T, hT, hh⟩) g w hw)
 ·rintro g w ⟨T, hT, T', rfl, _⟩
  rfl
end
theorem GX : b7.kind ≠ .early := by simp [b7, base]
section
variable {c : Cfg} {MK : World → Prop} {cs : List Frame} {Stop : (Nat → Prop) → Goroutine → World → Prop} {ρ : Env}
def MW (c : Cfg) (MK : World → Prop) (cs : List Frame) (Stop : (Nat → Prop) → Goroutine → World → Prop) (items : List Item) (ρ : Env) : Prop := ∀ a w, Fit 135 ρ a → MK w → c.MO Stop (G (b7.at a items) cs) w
theorem Az (hMK : ∀ w w1, MK w → c.Rel none_ w w1 → MK w1) {items items' : List Item} (h : ∀ a w, stepG c.P true (G (b7.at a items) cs) w = .go (G (b7.at a items') cs) w) (hn : MW c MK cs Stop items' ρ) : MW c MK cs Stop items ρ := fun a w hf hK =>
 Own.move rfl (fun w1 => h a w1) fun w1 hr => hn a w1 hf (hMK w w1 hK hr)
theorem Kj (hMK : ∀ w w1, MK w → c.Rel none_ w w1 → MK w1) {x : Operand} {y z : Code} {k : List Item} (t : Bool) (hc : ev ρ x = .bool t) (hn : MW c MK cs Stop (.code (if t then y else z) :: k) ρ) : MW c MK cs Stop (.code (.cond x y z) :: k) ρ := fun a w hf hK =>
 Own.move rfl (fun w1 => stepG_cond (by rw [hf.eval]; exact hc)) fun w1 hr => hn a w1 hf (hMK w w1 hK hr)
theorem Cx (hMK : ∀ w w1, MK w → c.Rel none_ w w1 → MK w1) {ops : Array Oper} {i d : Nat} {rest : List Nat} {k : List Item} {v : Value} (hi : i < ops.size) (hg : (ops.getD i default).guard = none) (hd : (ops.getD i default).dst = some d) (hN : d < 135)
  (hr : ∀ w, MK w → (execOp (ev ρ) (ops.getD i default)).run c.P w = .ok (.value v) w ∧ ∀ e ∈ (execOp (ev ρ) (ops.getD i default)).events c.P w #[], BZ none_ c.A.R e) (hn : MW c MK cs Stop (.inRegion ops rest :: k) (upd ρ d v)) : MW c MK cs Stop (.inRegion ops (i :: rest) :: k) ρ := fun a w hf hK => by
 have ho : ops[i]? = some (ops.getD i default) := by rw [Array.getD_eq_getD_getElem?, Array.getElem?_eq_getElem hi]; rfl
 refine Kc (v := v) ho (by unfold Region.wanted; rw [hg]) GX (fun w1 r => ?_) ?_
 ·rw [hf.eval]; exact hr w1 (hMK w w1 hK r)
 ·rw [hd]
  exact hn _ w (hf.put hN v) hK
end
section
variable {P : Program} {ρ : Env} {o : Oper} {w : World} {R : Nat → Prop}
abbrev Op7 (P : Program) (R : Nat → Prop) (ρ : Env) (o : Oper) (w : World) (v : Value) : Prop := (execOp (ev ρ) o).run P w = .ok (.value v) w ∧ ∀ e ∈ (execOp (ev ρ) o).events P w #[], BZ none_ R e
theorem Ew {x : Operand} {v : Value} (ho : o.op = .move x) (hx : ev ρ x = v) : Op7 P R ρ o w v := by
 constructor
 ·simp [execOp, ho, hx]
 ·intro e he; simp [execOp, ho] at he
theorem Xl {x : Operand} {v : Value} (ho : o.op = .assign x) (hx : ev ρ x = v) : Op7 P R ρ o w v := by
 constructor
 ·simp [execOp, ho, hx]
 ·intro e he; simp [execOp, ho] at he
theorem NN {x y : Operand} {t t' : TypeId} {a b : Int} (ho : o.op = .binOp .lss t x y t') (hx : ev ρ x = .int .i64 a) (hy : ev ρ y = .int .i64 b) : Op7 P R ρ o w (.bool (decide (a < b))) := by
 constructor
 ·simp [execOp, ho, hx, hy, binOp, eqGuard, Op.intCmp]
 ·intro e he; simp [execOp, ho, hx, hy, binOp, eqGuard, Op.intCmp] at he
theorem UI {x y : Operand} {t t' : TypeId} {a b : Int} (ho : o.op = .binOp .add t x y t') (hx : ev ρ x = .int .i64 a) (hy : ev ρ y = .int .i64 b) (h0 : 0 ≤ a + b) (h1 : a + b < 9223372036854775807) : Op7 P R ρ o w (.int .i64 (a + b)) := by
 have hw : IntKind.i64.wrap (a + b) = a + b := by rw [IntKind.wrap_i64]; omega
 constructor
 ·simp [execOp, ho, hx, hy, binOp, eqGuard, Op.intArith, hw]
 ·intro e he; simp [execOp, ho, hx, hy, binOp, eqGuard, Op.intArith] at he
theorem NP {x : Operand} {t : TypeId} {a : Addr} {v : Value} (ho : o.op = .load t x) (ht : Hm P t = true) (hx : ev ρ x = .pointer (some a)) (hc : w.cell? a = some v) (hR : R a.block) : Op7 P R ρ o w v := by
 constructor
 ·exact rLd ho ht hx hc
 ·intro e he
  have h1 := run_isAgg_plain (P := P) (w := w) ht
  have h2 : ∀ es, (isAgg t).events P w es = es := fun es => by
   unfold isAgg underlying
   simp
   split
   ·rename_i d _
    cases d <;> simp
   ·simp
  simp [execOp, ho, hx, Instr.loadAt, Instr.sureAddr, loadVar, h1, h2, Sem.events_bind, events_load, hc] at he
  subst he
  exact .inr ⟨hR, rfl⟩
theorem Y6 {x : Operand} {ts : Array TypeId} {t e : TypeId} {A : Option Addr} {n c : Nat} (ho : o.op = .call { callee := .builtin .len, args := #[x], argTypes := #[t] }) (ht : P.underlying t = some (.slice e)) (hx : ev ρ x = .slice A n c) : Op7 P R ρ o w (.int .i64 (n : Int)) := by
 constructor
 ·exact OJ ho ht hx
 ·intro e he
  simp [go_sem, execOp, ho, hx, resolve, invoke, builtin, Builtin.len_, Builtin.lenOf, ht, run_underlying ht] at he
theorem Xk {f : FuncId} {xs : Array Operand} {vs : Array Value} (ho : o.op = .makeFunc (.func f) #[] xs) (hv : xs.map (ev ρ) = vs) : Op7 P R ρ o w (.func (.func f) #[] vs) := by
 constructor
 ·simp [execOp, ho, hv, Instr.makeFunc]
 ·intro e he; simp [execOp, ho, Instr.makeFunc] at he
theorem N7 {f : FuncId} {fn : Func} {xs : List Operand} {ts : Array TypeId} (ho : o.op = .call { callee := .value (.func f), args := xs.toArray, argTypes := ts }) (hf : P.funcs[f]? = some fn) (hn : (fn.name == "runtime.NumGoroutine") = false) (hb : fn.body.isNone = false) : (execOp (ev ρ) o).events P w #[] = #[] := by
 simp [execOp, ho, resolve, ev, Deferred.ofValue, invoke, callFunc, hf, hn, hb, -Option.isNone_eq_false_iff, -Option.isNone_iff_eq_none, -beq_iff_eq]
end
noncomputable def s10 : Code := match s8 with | .seq _ (.seq _ c) => c | _ => .skip
noncomputable def Bq : Code := match s10 with | .seq (.seq _ (.block _ (.loop c))) _ => c | _ => .skip
noncomputable def s15 : Code := match s10 with | .seq _ c => c | _ => .skip
noncomputable def Bn : Code := match s15 with | .seq (.seq _ (.block _ (.loop c))) _ => c | _ => .skip
noncomputable def s20 : Code := match s15 with | .seq _ c => c | _ => .skip
noncomputable def A7 : Array Oper := match Bq with | .seq (.region _ o _) _ => o | _ => #[]
noncomputable def AC : Array Oper := match Bq with | .seq _ (.seq _ (.seq (.block _ (.seq (.region _ o _) _)) _)) => o | _ => #[]
noncomputable def AL : Array Oper := match Bq with | .seq _ (.seq _ (.seq (.block _ (.seq _ (.region _ o _))) _)) => o | _ => #[]
noncomputable def AZ : Array Oper := match Bq with | .seq _ (.seq _ (.seq _ (.region _ o _))) => o | _ => #[]
noncomputable def AV : Array Oper := match Bn with | .seq (.region _ o _) _ => o | _ => #[]
noncomputable def AU : Array Oper := match Bn with | .seq _ (.seq _ (.seq (.block _ (.seq (.region _ o _) _)) _)) => o | _ => #[]
noncomputable def AJ : Array Oper := match Bn with | .seq _ (.seq _ (.seq (.block _ (.seq _ (.region _ o _))) _)) => o | _ => #[]
noncomputable def AQ : Array Oper := match Bn with | .seq _ (.seq _ (.seq _ (.region _ o _))) => o | _ => #[]
noncomputable def A8 : Array Oper := match s10 with | .seq (.seq (.region _ o _) _) _ => o | _ => #[]
noncomputable def Au : Array Oper := match s15 with | .seq (.seq (.region _ o _) _) _ => o | _ => #[]
noncomputable def AB : Array Oper := match s20 with | .seq (.region _ o _) _ => o | _ => #[]
theorem YR : s10 = .seq (.seq (.region 10 A8 false) (.block 0 (.loop Bq))) s15 := by simp only [A8, A7, AC, AL, AZ, Au, AV, AU, AJ, AQ, AB, AA, Bq, s15, Bn, s20, s22, s10, s8, Aq, Tryd.f7, Option.getD_some]
theorem Xz : Bq = .seq (.region 11 A7 false) (.seq (.cond (.tmp 65) .skip (.exit 0)) (.seq (.block 1 (.seq (.region 12 AC false) (.region 13 AL false))) (.region 14 AZ false))) := by simp only [A8, A7, AC, AL, AZ, Au, AV, AU, AJ, AQ, AB, AA, Bq, s15, Bn, s20, s22, s10, s8, Aq, Tryd.f7, Option.getD_some]
theorem YQ : s15 = .seq (.seq (.region 15 Au false) (.block 2 (.loop Bn))) s20 := by simp only [A8, A7, AC, AL, AZ, Au, AV, AU, AJ, AQ, AB, AA, Bq, s15, Bn, s20, s22, s10, s8, Aq, Tryd.f7, Option.getD_some]
theorem Xy : Bn = .seq (.region 16 AV false) (.seq (.cond (.tmp 72) .skip (.exit 2)) (.seq (.block 3 (.seq (.region 17 AU false) (.region 18 AJ false))) (.region 19 AQ false))) := by simp only [A8, A7, AC, AL, AZ, Au, AV, AU, AJ, AQ, AB, AA, Bq, s15, Bn, s20, s22, s10, s8, Aq, Tryd.f7, Option.getD_some]
theorem YP : s20 = .seq (.region 20 AB false) (.seq (.region 21 AA false) s22) := by simp only [A8, A7, AC, AL, AZ, Au, AV, AU, AJ, AQ, AB, AA, Bq, s15, Bn, s20, s22, s10, s8, Aq, Tryd.f7, Option.getD_some]
theorem mk7 {c : Cfg} : ∀ w w1, c.Sh w → c.Rel none_ w w1 → c.Sh w1 := fun w w1 h r => r.sh h
namespace Cfg
def Od (c : Cfg) : Nat → (Nat → Prop) → Goroutine → World → Prop
 | 0 => c.AtClose
 | q + 1 => c.AtSend (c.m - (q + 1)) (c.Sends q)
def LF (c : Cfg) : Nat → (Nat → Prop) → Goroutine → World → Prop
 | 0 => c.Od c.m
 | q + 1 => c.AtKdS (c.Spawns q)
theorem OD {c : Cfg} (q : Nat) (g : Goroutine) (w : World) : c.Sends q g w = c.MO (c.Od q) g w := by cases q <;> rfl
theorem Mt {c : Cfg} (q : Nat) (g : Goroutine) (w : World) : c.Spawns q g w = c.MO (c.LF q) g w := by
 cases q with
 | zero => exact OD c.m g w
 | succ q => rfl
end Cfg
theorem ZR (p q : Value) (k : Nat) : (#[p, q] ++ Array.replicate k undef : Array Value) = (p :: q :: List.replicate k undef).toArray := by
 apply Array.ext'
 simp
theorem ZT (p : Value) (k : Nat) : (#[p] ++ Array.replicate k undef : Array Value) = (p :: List.replicate k undef).toArray := by
 apply Array.ext'
 simp
section
variable {c : Cfg} {l : LL} {b8 gn b14 : Nat} {cs : List Frame}
abbrev Sl7 (l : LL) (wk : Nat) (b8 gn b14 : Nat) : List (Nat × Value) := [(3, .int .i64 (wk : Int)), (8, .pointer (some ⟨b8, 0, none⟩)), (13, .slice (some ⟨gn, 0, none⟩) 8 8), (14, .pointer (some ⟨b14, 0, none⟩)), (12, .pointer (some ⟨l.Bp, 0, none⟩)), (15, .pointer (some ⟨l.Bk, 0, none⟩)), (16, .pointer (some ⟨l.Wg, 0, none⟩)), (4, .pointer (some ⟨l.Bo, 0, none⟩)), (6, .pointer (some ⟨l.Bb, 0, none⟩))]
noncomputable abbrev LX : Code := .seq (.region 11 A7 false) (.seq (.cond (.tmp 65) .skip (.exit 0)) (.seq (.block 1 (.seq (.region 12 AC false) (.region 13 AL false))) (.region 14 AZ false)))
theorem Aa2 (hP : c.P = Tryd.prog) {ρ : Env} {w : World} {wg : Nat} (h16 : ev ρ (.tmp 16) = .pointer (some ⟨wg, 0, none⟩)) : (execOp (ev ρ) (AC.getD 0 default)).run c.P w = .ok (.enter 14 #[.pointer (some ⟨wg, 0, none⟩), .int .i64 1]) w ∧ ∀ e ∈ (execOp (ev ρ) (AC.getD 0 default)).events c.P w #[], BZ none_ c.A.R e := by
 have ho : (AC.getD 0 default).op = .call { callee := .value (.func 14), args := [.tmp 16, .const (.int .i64 1)].toArray, argTypes := (match (AC.getD 0 default).op with | .call c => c.argTypes | _ => #[]) } := by simp only [A8, A7, AC, AL, AZ, Au, AV, AU, AJ, AQ, AB, AA, Bq, s15, Bn, s20, s22, s10, s8, Aq, Tryd.f7, Option.getD_some]; rfl
 have hf : c.P.funcs[(14 : Nat)]? = some Tryd.f14 := by rw [hP]; exact Tryd.func14
 refine ⟨Rc ho hf (by kernel_rfl) (by kernel_rfl) (by show [ev ρ (.tmp 16), .int .i64 1] = _; rw [h16]), fun e he => ?_⟩
 rw [N7 ho hf (by kernel_rfl) (by kernel_rfl)] at he
 simp at he
theorem Qe (K : c.Ok0) (hP : c.P = Tryd.prog) (hty : c.ty = link.tWg) (hWg : c.A.Wg = l.Wg) {Next : Goroutine → World → Prop} {k₀ : List Item} {ρ : Env} (h16 : ev ρ (.tmp 16) = .pointer (some ⟨l.Wg, 0, none⟩))
  (hn : MW c c.Sh cs (c.AtGoS Next) (.inRegion AC [] :: k₀) (upd ρ 66 (.tuple #[]))) : MW c c.Sh cs (c.AtKdS Next) (.inRegion AC [0] :: k₀) ρ := by
 intro a w hf hS
 have hd : (AC[0]?).bind (·.dst) = some 66 := by simp only [A8, A7, AC, AL, AZ, Au, AV, AU, AJ, AQ, AB, AA, Bq, s15, Bn, s20, s22, s10, s8, Aq, Tryd.f7, Option.getD_some]; rfl
 have hadd := Cfg.XN (c := c) (L := link) (Next := Next) K (by rw [hP]; exact Ko) hty (b₀ := b7) (a₀ := a) (ops₀ := AC) (i₀ := 0) (rest₀ := []) (k₀ := k₀) (cs := cs) (fun w hS => by
  rw [hd]
  exact hn _ w (hf.put (by omega) _) hS)
 rw [hWg] at hadd
 refine Iy (ops := AC) (i := 0) (o := AC.getD 0 default) (f := link.add) (fn := addFn link) (c := body_add link) (by simp only [A8, A7, AC, AL, AZ, Au, AV, AU, AJ, AQ, AB, AA, Bq, s15, Bn, s20, s22, s10, s8, Aq, Tryd.f7, Option.getD_some]; rfl) (by simp only [A8, A7, AC, AL, AZ, Au, AV, AU, AJ, AQ, AB, AA, Bq, s15, Bn, s20, s22, s10, s8, Aq, Tryd.f7, Option.getD_some]; rfl) GX (by rw [hP]; exact Ko.f_add) rfl (args := #[.pointer (some ⟨l.Wg, 0, none⟩), .int .i64 1]) (fun w1 r => ?_) fun w1 r => ?_
 ·rw [hf.eval]
  exact Aa2 hP h16
 ·rw [ZR]
  exact Cfg.Cv (hadd w1 (r.sh hS))
end
section
variable {c : Cfg} {l : LL} {b8 gn b14 : Nat} {cs : List Frame} {wk : Nat}
theorem Aam {P : Program} {ρ : Env} {o : Oper} {w : World} {x : Nat} {f : FuncId} {vs : Array Value} (ho : o.op = .go { callee := .value (.tmp x), args := #[], argTypes := #[] }) (hx : ρ x = .func (.func f) #[] vs) :
  (execOp (ev ρ) o).run P w = .ok (.spawn { target := .fn (.func f) vs, args := #[] }) w ∧ (execOp (ev ρ) o).events P w #[] = #[] := by
 have hx' : ev ρ (.tmp x) = .func (.func f) #[] vs := hx
 constructor
 ·simp [execOp, ho, resolve, Deferred.ofValue, hx']
 ·simp [execOp, ho, resolve, Deferred.ofValue, hx']
theorem AaA (K : c.Ok0) (hP : c.P = Tryd.prog) (hBf : b14 = l.Bf) (hborn : ∀ w, c.Sh w → c.WO c.Eo (born Tryd.prog l.call) w) {r : Nat} {k₀ : List Item} {ρ : Env}
  (h67 : ρ 67 = .func (.func 15) #[] l.caps)
  (hn : MW c c.Sh cs (c.LF r) (.inRegion AL [] :: k₀) ρ) : MW c c.Sh cs (c.AtGoS (c.Spawns r)) (.inRegion AL [1] :: k₀) ρ := by
 intro a w hf hS
 have hd : (AL.getD 1 default).dst = none := by simp only [A8, A7, AC, AL, AZ, Au, AV, AU, AJ, AQ, AB, AA, Bq, s15, Bn, s20, s22, s10, s8, Aq, Tryd.f7, Option.getD_some]; rfl
 have ho : (AL.getD 1 default).op = .go { callee := .value (.tmp 67), args := #[], argTypes := #[] } := by simp only [A8, A7, AC, AL, AZ, Au, AV, AU, AJ, AQ, AB, AA, Bq, s15, Bn, s20, s22, s10, s8, Aq, Tryd.f7, Option.getD_some]; rfl
 have hrun : ∀ w1, (execOp a.eval (AL.getD 1 default)).run c.P w1 = .ok (.spawn l.call) w1 ∧ (execOp a.eval (AL.getD 1 default)).events c.P w1 #[] = #[] := by
  intro w1
  rw [hf.eval]
  exact Aam ho h67
 refine .stop fun w1 hr => ⟨rfl, G (b7.at a (.inRegion AL [] :: k₀)) cs, born c.P l.call, ?_, rfl, ?_, ?_⟩
 ·have := stepG_spawn (P := c.P) (w := w1) (main := true) (b := b7) (a := a) (ops := AL) (i := 1) (rest := []) (k := k₀) (cs := cs) (o := AL.getD 1 default) (d := l.call) (f := .func 15) (c := l.caps) (by simp only [A8, A7, AC, AL, AZ, Au, AV, AU, AJ, AQ, AB, AA, Bq, s15, Bn, s20, s22, s10, s8, Aq, Tryd.f7, Option.getD_some]; rfl) (by simp only [A8, A7, AC, AL, AZ, Au, AV, AU, AJ, AQ, AB, AA, Bq, s15, Bn, s20, s22, s10, s8, Aq, Tryd.f7, Option.getD_some]; rfl) GX (hrun w1).1 rfl
  rw [listed_none (hrun w1).2, hd] at this
  exact this
 ·rw [hP]; exact hborn w1 (hr.sh hS)
 ·rw [Cfg.Mt]
  exact hn a w1 hf (hr.sh hS)
theorem WM (K : c.Ok0) (hP : c.P = Tryd.prog) (hty : c.ty = link.tWg) (hWg : c.A.Wg = l.Wg) (hwk : wk ≤ 64) (hBf : b14 = l.Bf)
  (hborn : ∀ w, c.Sh w → c.WO c.Eo (born Tryd.prog l.call) w)
  (hend : ∀ ρ, Has ρ (Sl7 l wk b8 gn b14) → MW c c.Sh cs (c.LF 0) [.code s15] ρ) :
  ∀ (r n : Nat) (ρ : Env), n + r = wk → Has ρ ((63, .int .i64 (wk : Int)) :: (64, .int .i64 (n : Int)) :: Sl7 l wk b8 gn b14) → MW c c.Sh cs (c.LF r) [.code LX, .inLoop LX, .inBlock 0, .code s15] ρ := by
 intro r
 induction r with
 | zero =>
  intro n ρ hn hH
  obtain ⟨σ, rfl⟩ := hH.open
  obtain rfl : n = wk := by omega
  refine Az mk7 (fun a w => stepG_seq) ?_
  refine Az mk7 (fun a w => stepG_region) ?_
  refine Cx mk7 (by (refine of_decide_eq_true ?_; kernel_rfl)) (by kernel_rfl) (by simp only [A8, A7, AC, AL, AZ, Au, AV, AU, AJ, AQ, AB, AA, Bq, s15, Bn, s20, s22, s10, s8, Aq, Tryd.f7, Option.getD_some]; rfl) (by omega) (fun w hS => (NN (by simp only [A8, A7, AC, AL, AZ, Au, AV, AU, AJ, AQ, AB, AA, Bq, s15, Bn, s20, s22, s10, s8, Aq, Tryd.f7, Option.getD_some]; rfl) rfl rfl)) ?_
  rw [show decide ((n : Int) < (n : Int)) = false by simp]
  refine Az mk7 (fun a w => stepG_region_end) ?_
  refine Az mk7 (fun a w => stepG_seq) ?_
  refine Kj mk7 false rfl ?_
  refine Az mk7 (fun a w => stepG_exit rfl) ?_
  exact hend _ ⟨rfl, rfl, rfl, rfl, rfl, rfl, rfl, rfl, rfl, trivial⟩
 | succ r ih =>
  intro n ρ hn hH
  obtain ⟨σ, rfl⟩ := hH.open
  have hlt : (n : Int) < (wk : Int) := by omega
  refine Az mk7 (fun a w => stepG_seq) ?_
  refine Az mk7 (fun a w => stepG_region) ?_
  refine Cx mk7 (by (refine of_decide_eq_true ?_; kernel_rfl)) (by kernel_rfl) (by simp only [A8, A7, AC, AL, AZ, Au, AV, AU, AJ, AQ, AB, AA, Bq, s15, Bn, s20, s22, s10, s8, Aq, Tryd.f7, Option.getD_some]; rfl) (by omega) (fun w hS => (NN (by simp only [A8, A7, AC, AL, AZ, Au, AV, AU, AJ, AQ, AB, AA, Bq, s15, Bn, s20, s22, s10, s8, Aq, Tryd.f7, Option.getD_some]; rfl) rfl rfl)) ?_
  rw [show decide ((n : Int) < (wk : Int)) = true by simpa using hlt]
  refine Az mk7 (fun a w => stepG_region_end) ?_
  refine Az mk7 (fun a w => stepG_seq) ?_
  refine Kj mk7 true rfl ?_
  refine Az mk7 (fun a w => stepG_skip) ?_
  refine Az mk7 (fun a w => stepG_seq) ?_
  refine Az mk7 (fun a w => stepG_block) ?_
  refine Az mk7 (fun a w => stepG_seq) ?_
  refine Az mk7 (fun a w => stepG_region) ?_
  refine Qe K hP hty hWg rfl ?_
  refine Az mk7 (fun a w => stepG_region_end) ?_
  refine Az mk7 (fun a w => stepG_region) ?_
  refine Cx mk7 (by (refine of_decide_eq_true ?_; kernel_rfl)) (by kernel_rfl) (by simp only [A8, A7, AC, AL, AZ, Au, AV, AU, AJ, AQ, AB, AA, Bq, s15, Bn, s20, s22, s10, s8, Aq, Tryd.f7, Option.getD_some]; rfl) (by omega) (fun w hS => (Xk (vs := l.caps) (by simp only [A8, A7, AC, AL, AZ, Au, AV, AU, AJ, AQ, AB, AA, Bq, s15, Bn, s20, s22, s10, s8, Aq, Tryd.f7, Option.getD_some]; rfl) (by subst hBf; simp only [List.map_toArray, List.map_cons, List.map_nil]; rfl))) ?_
  exact AaA K hP hBf hborn rfl (by
   refine Az mk7 (fun a w => stepG_region_end) ?_
   refine Az mk7 (fun a w => stepG_inBlock) ?_
   refine Az mk7 (fun a w => stepG_region) ?_
   refine Cx mk7 (by (refine of_decide_eq_true ?_; kernel_rfl)) (by kernel_rfl) (by simp only [A8, A7, AC, AL, AZ, Au, AV, AU, AJ, AQ, AB, AA, Bq, s15, Bn, s20, s22, s10, s8, Aq, Tryd.f7, Option.getD_some]; rfl) (by omega) (fun w hS => (UI (by simp only [A8, A7, AC, AL, AZ, Au, AV, AU, AJ, AQ, AB, AA, Bq, s15, Bn, s20, s22, s10, s8, Aq, Tryd.f7, Option.getD_some]; rfl) rfl rfl (by omega) (by omega))) ?_
   refine Cx mk7 (by (refine of_decide_eq_true ?_; kernel_rfl)) (by kernel_rfl) (by simp only [A8, A7, AC, AL, AZ, Au, AV, AU, AJ, AQ, AB, AA, Bq, s15, Bn, s20, s22, s10, s8, Aq, Tryd.f7, Option.getD_some]; rfl) (by omega) (fun w hS => (Ew (by simp only [A8, A7, AC, AL, AZ, Au, AV, AU, AJ, AQ, AB, AA, Bq, s15, Bn, s20, s22, s10, s8, Aq, Tryd.f7, Option.getD_some]; rfl) rfl)) ?_
   refine Az mk7 (fun a w => stepG_region_end) ?_
   refine Az mk7 (fun a w => stepG_inLoop) ?_
   exact ih (n + 1) _ (by omega) ⟨rfl, rfl, rfl, rfl, rfl, rfl, rfl, rfl, rfl, rfl, rfl, trivial⟩)
end
structure St7 (c : Cfg) (l : LL) (b8 gn b14 : Nat) (cs : List Frame) : Prop where
 K : c.Ok0
 P : c.P = Tryd.prog
 ty : c.ty = link.tWg
 wg : c.A.Wg = l.Wg
 ch : c.A.Ch = l.Ch
 m : l.m = c.m
 m63 : c.m < 9223372036854775807
 bf : b14 = l.Bf
 rk : c.A.R l.Bk
 rp : c.A.R l.Bp
 kn : ∀ w, c.CSh w → LWK l w
 born : ∀ w, c.Sh w → c.WO c.Eo (born Tryd.prog l.call) w
 anch : ∀ T g w, T7 b8 gn b14 T → Gs c link (F7 T) cs g w → c.Anch g w
theorem Xj {P : Program} {ρ : Env} {o : Oper} {w : World} {x y : Nat} {r : Nat} {v : Value} (ho : o.op = .send (.tmp x) (.tmp y)) (hx : ρ x = .chan (some r)) (hy : ρ y = v) :
  (execOp (ev ρ) o).run P w = .ok (.comm #[scase r v (.tuple #[])] true .send) w ∧ (execOp (ev ρ) o).events P w #[] = #[] := by
 have hx' : ev ρ (.tmp x) = .chan (some r) := hx
 have hy' : ev ρ (.tmp y) = v := hy
 constructor
 ·simp [execOp, ho, hx', hy', scase]
 ·simp [execOp, ho]
section
variable {c : Cfg} {l : LL} {b8 gn b14 : Nat} {cs : List Frame} {wk : Nat}
theorem Yb (H : St7 c l b8 gn b14 cs) {r n : Nat} (hnr : n + (r + 1) = c.m) {k₀ : List Item} {ρ : Env} (h74 : ρ 74 = .chan (some l.Ch)) (h75 : ρ 75 = .int .i64 (n : Int))
  (hn : MW c c.Sh cs (c.Od r) (.inRegion AJ [] :: k₀) ρ) : MW c c.Sh cs (c.AtSend (c.m - (r + 1)) (c.Sends r)) (.inRegion AJ [2] :: k₀) ρ := by
 intro a w hf hS
 have hd : (AJ[2]?).bind (·.dst) = none := by simp only [A8, A7, AC, AL, AZ, Au, AV, AU, AJ, AQ, AB, AA, Bq, s15, Bn, s20, s22, s10, s8, Aq, Tryd.f7, Option.getD_some]; rfl
 have ho : (AJ.getD 2 default).op = .send (.tmp 74) (.tmp 75) := by simp only [A8, A7, AC, AL, AZ, Au, AV, AU, AJ, AQ, AB, AA, Bq, s15, Bn, s20, s22, s10, s8, Aq, Tryd.f7, Option.getD_some]; rfl
 have hrun : ∀ w1, (execOp a.eval (AJ.getD 2 default)).run c.P w1 = .ok (.comm #[scase l.Ch (.int .i64 (n : Int)) (.tuple #[])] true .send) w1 ∧ (execOp a.eval (AJ.getD 2 default)).events c.P w1 #[] = #[] := by
  intro w1
  rw [hf.eval]
  exact Xj ho h74 h75
 have en : c.m - (r + 1) = n := by omega
 refine .stop fun w1 hr => ⟨rfl, rfl, .tuple #[], ?_, ?_⟩
 ·have := stepG_comm (P := c.P) (w := w1) (main := true) (b := b7) (a := a) (ops := AJ) (i := 2) (rest := []) (k := k₀) (cs := cs) (o := AJ.getD 2 default) (by simp only [A8, A7, AC, AL, AZ, Au, AV, AU, AJ, AQ, AB, AA, Bq, s15, Bn, s20, s22, s10, s8, Aq, Tryd.f7, Option.getD_some]; rfl) (by simp only [A8, A7, AC, AL, AZ, Au, AV, AU, AJ, AQ, AB, AA, Bq, s15, Bn, s20, s22, s10, s8, Aq, Tryd.f7, Option.getD_some]; rfl) GX (hrun w1).1
  rw [listed_none (hrun w1).2] at this
  rw [H.ch, en]
  exact this
 ·rw [served_G, hd, Cfg.OD]
  exact hn a w1 hf (hr.sh hS)
theorem YN (H : St7 c l b8 gn b14 cs) (hend : ∀ ρ, Has ρ (Sl7 l wk b8 gn b14) → MW c c.Sh cs c.AtClose [.code s20] ρ) :
  ∀ (r n : Nat) (ρ : Env), n + r = c.m → Has ρ ((70, .int .i64 (c.m : Int)) :: (71, .int .i64 (n : Int)) :: Sl7 l wk b8 gn b14) → MW c c.Sh cs (c.Od r) [.code (.seq (.region 16 AV false) (.seq (.cond (.tmp 72) .skip (.exit 2)) (.seq (.block 3 (.seq (.region 17 AU false) (.region 18 AJ false))) (.region 19 AQ false)))), .inLoop (.seq (.region 16 AV false) (.seq (.cond (.tmp 72) .skip (.exit 2)) (.seq (.block 3 (.seq (.region 17 AU false) (.region 18 AJ false))) (.region 19 AQ false)))), .inBlock 2, .code s20] ρ := by
 intro r
 induction r with
 | zero =>
  intro n ρ hn hH
  obtain ⟨σ, rfl⟩ := hH.open
  obtain rfl : n = c.m := by omega
  refine Az mk7 (fun a w => stepG_seq) ?_
  refine Az mk7 (fun a w => stepG_region) ?_
  refine Cx mk7 (by (refine of_decide_eq_true ?_; kernel_rfl)) (by kernel_rfl) (by simp only [A8, A7, AC, AL, AZ, Au, AV, AU, AJ, AQ, AB, AA, Bq, s15, Bn, s20, s22, s10, s8, Aq, Tryd.f7, Option.getD_some]; rfl) (by omega) (fun w hS => (NN (by simp only [A8, A7, AC, AL, AZ, Au, AV, AU, AJ, AQ, AB, AA, Bq, s15, Bn, s20, s22, s10, s8, Aq, Tryd.f7, Option.getD_some]; rfl) rfl rfl)) ?_
  rw [show decide ((c.m : Int) < (c.m : Int)) = false by simp]
  refine Az mk7 (fun a w => stepG_region_end) ?_
  refine Az mk7 (fun a w => stepG_seq) ?_
  refine Kj mk7 false rfl ?_
  refine Az mk7 (fun a w => stepG_exit rfl) ?_
  exact hend _ ⟨rfl, rfl, rfl, rfl, rfl, rfl, rfl, rfl, rfl, trivial⟩
 | succ r ih =>
  intro n ρ hn hH
  obtain ⟨σ, rfl⟩ := hH.open
  have hlt : (n : Int) < (c.m : Int) := by omega
  have h63 := H.m63
  refine Az mk7 (fun a w => stepG_seq) ?_
  refine Az mk7 (fun a w => stepG_region) ?_
  refine Cx mk7 (by (refine of_decide_eq_true ?_; kernel_rfl)) (by kernel_rfl) (by simp only [A8, A7, AC, AL, AZ, Au, AV, AU, AJ, AQ, AB, AA, Bq, s15, Bn, s20, s22, s10, s8, Aq, Tryd.f7, Option.getD_some]; rfl) (by omega) (fun w hS => (NN (by simp only [A8, A7, AC, AL, AZ, Au, AV, AU, AJ, AQ, AB, AA, Bq, s15, Bn, s20, s22, s10, s8, Aq, Tryd.f7, Option.getD_some]; rfl) rfl rfl)) ?_
  rw [show decide ((n : Int) < (c.m : Int)) = true by simpa using hlt]
  refine Az mk7 (fun a w => stepG_region_end) ?_
  refine Az mk7 (fun a w => stepG_seq) ?_
  refine Kj mk7 true rfl ?_
  refine Az mk7 (fun a w => stepG_skip) ?_
  refine Az mk7 (fun a w => stepG_seq) ?_
  refine Az mk7 (fun a w => stepG_block) ?_
  refine Az mk7 (fun a w => stepG_seq) ?_
  refine Az mk7 (fun a w => stepG_region) ?_
  refine Cx mk7 (by (refine of_decide_eq_true ?_; kernel_rfl)) (by kernel_rfl) (by simp only [A8, A7, AC, AL, AZ, Au, AV, AU, AJ, AQ, AB, AA, Bq, s15, Bn, s20, s22, s10, s8, Aq, Tryd.f7, Option.getD_some]; rfl) (by omega) (fun w hS => (Ew (by simp only [A8, A7, AC, AL, AZ, Au, AV, AU, AJ, AQ, AB, AA, Bq, s15, Bn, s20, s22, s10, s8, Aq, Tryd.f7, Option.getD_some]; rfl) rfl)) ?_
  refine Cx mk7 (by (refine of_decide_eq_true ?_; kernel_rfl)) (by kernel_rfl) (by simp only [A8, A7, AC, AL, AZ, Au, AV, AU, AJ, AQ, AB, AA, Bq, s15, Bn, s20, s22, s10, s8, Aq, Tryd.f7, Option.getD_some]; rfl) (by omega) (fun w hS => (Xl (by simp only [A8, A7, AC, AL, AZ, Au, AV, AU, AJ, AQ, AB, AA, Bq, s15, Bn, s20, s22, s10, s8, Aq, Tryd.f7, Option.getD_some]; rfl) rfl)) ?_
  refine Az mk7 (fun a w => stepG_region_end) ?_
  refine Az mk7 (fun a w => stepG_region) ?_
  refine Cx mk7 (by (refine of_decide_eq_true ?_; kernel_rfl)) (by simp only [A8, A7, AC, AL, AZ, Au, AV, AU, AJ, AQ, AB, AA, Bq, s15, Bn, s20, s22, s10, s8, Aq, Tryd.f7, Option.getD_some]; rfl) (by simp only [A8, A7, AC, AL, AZ, Au, AV, AU, AJ, AQ, AB, AA, Bq, s15, Bn, s20, s22, s10, s8, Aq, Tryd.f7, Option.getD_some]; rfl) (by omega) (fun w hS => NP (a := ⟨l.Bk, 0, none⟩) (by simp only [A8, A7, AC, AL, AZ, Au, AV, AU, AJ, AQ, AB, AA, Bq, s15, Bn, s20, s22, s10, s8, Aq, Tryd.f7, Option.getD_some]; rfl) (by rw [H.P]; kernel_rfl) rfl (H.kn w hS.2.2).keys H.rk) ?_
  refine Cx mk7 (by (refine of_decide_eq_true ?_; kernel_rfl)) (by kernel_rfl) (by simp only [A8, A7, AC, AL, AZ, Au, AV, AU, AJ, AQ, AB, AA, Bq, s15, Bn, s20, s22, s10, s8, Aq, Tryd.f7, Option.getD_some]; rfl) (by omega) (fun w hS => (Ew (by simp only [A8, A7, AC, AL, AZ, Au, AV, AU, AJ, AQ, AB, AA, Bq, s15, Bn, s20, s22, s10, s8, Aq, Tryd.f7, Option.getD_some]; rfl) rfl)) ?_
  refine Yb H hn rfl rfl ?_
  refine Az mk7 (fun a w => stepG_region_end) ?_
  refine Az mk7 (fun a w => stepG_inBlock) ?_
  refine Az mk7 (fun a w => stepG_region) ?_
  refine Cx mk7 (by (refine of_decide_eq_true ?_; kernel_rfl)) (by kernel_rfl) (by simp only [A8, A7, AC, AL, AZ, Au, AV, AU, AJ, AQ, AB, AA, Bq, s15, Bn, s20, s22, s10, s8, Aq, Tryd.f7, Option.getD_some]; rfl) (by omega) (fun w hS => (UI (by simp only [A8, A7, AC, AL, AZ, Au, AV, AU, AJ, AQ, AB, AA, Bq, s15, Bn, s20, s22, s10, s8, Aq, Tryd.f7, Option.getD_some]; rfl) rfl rfl (by omega) (by omega))) ?_
  refine Cx mk7 (by (refine of_decide_eq_true ?_; kernel_rfl)) (by kernel_rfl) (by simp only [A8, A7, AC, AL, AZ, Au, AV, AU, AJ, AQ, AB, AA, Bq, s15, Bn, s20, s22, s10, s8, Aq, Tryd.f7, Option.getD_some]; rfl) (by omega) (fun w hS => (Ew (by simp only [A8, A7, AC, AL, AZ, Au, AV, AU, AJ, AQ, AB, AA, Bq, s15, Bn, s20, s22, s10, s8, Aq, Tryd.f7, Option.getD_some]; rfl) rfl)) ?_
  refine Az mk7 (fun a w => stepG_region_end) ?_
  refine Az mk7 (fun a w => stepG_inLoop) ?_
  exact ih (n + 1) _ (by omega) ⟨rfl, rfl, rfl, rfl, rfl, rfl, rfl, rfl, rfl, rfl, rfl, trivial⟩
end
section
variable {c : Cfg} {l : LL} {b8 gn b14 : Nat} {cs : List Frame} {wk : Nat}
theorem ZO (hP : c.P = Tryd.prog) {ρ : Env} {w : World} {wg : Nat} (h16 : ev ρ (.tmp 16) = .pointer (some ⟨wg, 0, none⟩)) : (execOp (ev ρ) (AA.getD 0 default)).run c.P w = .ok (.enter 17 #[.pointer (some ⟨wg, 0, none⟩)]) w ∧ ∀ e ∈ (execOp (ev ρ) (AA.getD 0 default)).events c.P w #[], BZ none_ c.A.R e := by
 have ho : (AA.getD 0 default).op = .call { callee := .value (.func 17), args := [.tmp 16].toArray, argTypes := (match (AA.getD 0 default).op with | .call c => c.argTypes | _ => #[]) } := by simp only [A8, A7, AC, AL, AZ, Au, AV, AU, AJ, AQ, AB, AA, Bq, s15, Bn, s20, s22, s10, s8, Aq, Tryd.f7, Option.getD_some]; rfl
 have hf : c.P.funcs[(17 : Nat)]? = some Tryd.f17 := by rw [hP]; exact Tryd.func17
 refine ⟨Rc ho hf (by kernel_rfl) (by kernel_rfl) (by show [ev ρ (.tmp 16)] = _; rw [h16]), fun e he => ?_⟩
 rw [N7 ho hf (by kernel_rfl) (by kernel_rfl)] at he
 simp at he
theorem Ya (H : St7 c l b8 gn b14 cs) {ρ : Env} (hH : Has ρ (Sl7 l wk b8 gn b14)) : MW c c.Sh cs c.AtKd [.inRegion AA [0], .code s22] ρ := by
 intro a w hf hS
 obtain ⟨σ, rfl⟩ := hH.open
 have hT : T7 b8 gn b14 a.tmps := by
  have hg : ∀ i, i < 135 → a.tmps[i]? = some (Tp σ (Sl7 l wk b8 gn b14) i) := fun i hi => by
   have h1 := hf.get i
   have h2 : i < a.tmps.size := by rw [hf.size]; exact hi
   rw [Array.getD_eq_getD_getElem?, Array.getElem?_eq_getElem h2] at h1
   rw [Array.getElem?_eq_getElem h2]
   exact congrArg some h1
  exact ⟨hf.size, hg 8 (by omega), hg 13 (by omega), hg 14 (by omega)⟩
 have ha : a = ⟨a.tmps, []⟩ := by
  have h := hf.defers
  cases a
  simp_all
 have hst := Cfg.PP (c := c) (L := link) (by rw [H.P]; exact Ko) (b₀ := b7) (a₀ := a) (ops₀ := AA) (i₀ := 0) (rest₀ := []) (k₀ := [.code s22]) (cs := cs) (fun g w hh => H.anch a.tmps g w hT (by rw [ha] at hh; exact hh))
 rw [H.wg] at hst
 refine Iy (ops := AA) (i := 0) (o := AA.getD 0 default) (f := link.wait) (fn := waitFn link) (c := body_wait link) (by simp only [A8, A7, AC, AL, AZ, Au, AV, AU, AJ, AQ, AB, AA, Bq, s15, Bn, s20, s22, s10, s8, Aq, Tryd.f7, Option.getD_some]; rfl) (by simp only [A8, A7, AC, AL, AZ, Au, AV, AU, AJ, AQ, AB, AA, Bq, s15, Bn, s20, s22, s10, s8, Aq, Tryd.f7, Option.getD_some]; rfl) GX (by rw [H.P]; exact Ko.f_wait) rfl (args := #[.pointer (some ⟨l.Wg, 0, none⟩)]) (fun w1 r => ?_) fun w1 r => ?_
 ·rw [hf.eval]
  exact ZO H.P rfl
 ·rw [ZT]
  exact Cfg.Cv (hst w1 (r.sh hS))
theorem Wp (H : St7 c l b8 gn b14 cs) {ρ : Env} {k₀ : List Item} (h77 : ρ 77 = .chan (some l.Ch)) (hn : MW c c.Sh cs c.AtKd (.inRegion AB [] :: k₀) ρ) : MW c c.Sh cs c.AtClose (.inRegion AB [1] :: k₀) ρ := by
 intro a w hf hS
 have hd : (AB.getD 1 default).dst = none := by simp only [A8, A7, AC, AL, AZ, Au, AV, AU, AJ, AQ, AB, AA, Bq, s15, Bn, s20, s22, s10, s8, Aq, Tryd.f7, Option.getD_some]; rfl
 have ho1 : AB[1]? = some (AB.getD 1 default) := by simp only [A8, A7, AC, AL, AZ, Au, AV, AU, AJ, AQ, AB, AA, Bq, s15, Bn, s20, s22, s10, s8, Aq, Tryd.f7, Option.getD_some]; rfl
 obtain ⟨ats, ho2⟩ : ∃ ats, (AB.getD 1 default).op = .call { callee := .builtin .close, args := #[.tmp 77], argTypes := ats } := ⟨(match (AB.getD 1 default).op with | .call c => c.argTypes | _ => #[]), by simp only [A8, A7, AC, AL, AZ, Au, AV, AU, AJ, AQ, AB, AA, Bq, s15, Bn, s20, s22, s10, s8, Aq, Tryd.f7, Option.getD_some]; rfl⟩
 have hmw : ∀ oo : Oper, AB[1]? = some oo → oo.op = .call { callee := .builtin .close, args := #[.tmp 77], argTypes := ats } → mayWake c.P (G (b7.at a (.inRegion AB [1] :: k₀)) cs) = true := by
  intro oo h1 h2
  simp [mayWake, G, Frame.at, h1, h2]
 refine .stop fun w1 hr => ⟨rfl, hmw _ ho1 ho2, fun s r tm hch => ⟨G (b7.at a (.inRegion AB [] :: k₀)) cs, rfl, ?_, hn a _ hf ?_⟩⟩
 ·have := stepG_close (P := c.P) (w := w1) (main := true) (b := b7) (a := a) (ops := AB) (i := 1) (rest := []) (kk := k₀) (cs := cs) (o := AB.getD 1 default) (x := .tmp 77) ho1 (by simp only [A8, A7, AC, AL, AZ, Au, AV, AU, AJ, AQ, AB, AA, Bq, s15, Bn, s20, s22, s10, s8, Aq, Tryd.f7, Option.getD_some]; rfl) GX ho2 (by rw [hf.eval]; exact h77) (by rw [← H.ch]; exact hch) (by rw [H.P]; kernel_rfl)
  rw [hd] at this
  rw [H.ch]
  exact this
 ·have hS1 := hr.sh hS
  obtain ⟨h1, h2, h3⟩ := hS1
  have hlt : c.A.Ch < w1.heap.size := Nat.lt_of_not_le fun hh => by
   rw [Array.getElem?_eq_none hh] at hch
   cases hch
  have hset : ∀ b, b ≠ c.A.Ch → (w1.setChan c.A.Ch 0 #[] true s r tm).heap[b]? = w1.heap[b]? := fun b hb => by
   simp only [World.setChan]
   rw [Array.getElem?_setIfInBounds_ne (Ne.symm hb)]
  refine ⟨?_, ⟨true, s, r, tm, ?_⟩, ?_⟩
  ·exact Gw h1 (hset _ H.K.area.wc)
  ·simp only [World.setChan]
   simp [hlt]
  ·exact H.K.csh w1 _ (by simp [World.setChan]) (fun b _ _ hb => hset b hb) h3
theorem AaP (H : St7 c l b8 gn b14 cs) {ρ : Env} (hH : Has ρ (Sl7 l wk b8 gn b14)) : MW c c.Sh cs c.AtClose [.code s20] ρ := by
 obtain ⟨σ, rfl⟩ := hH.open
 rw [YP]
 refine Az mk7 (fun a w => stepG_seq) ?_
 refine Az mk7 (fun a w => stepG_region) ?_
 refine Cx mk7 (by (refine of_decide_eq_true ?_; kernel_rfl)) (by simp only [A8, A7, AC, AL, AZ, Au, AV, AU, AJ, AQ, AB, AA, Bq, s15, Bn, s20, s22, s10, s8, Aq, Tryd.f7, Option.getD_some]; rfl) (by simp only [A8, A7, AC, AL, AZ, Au, AV, AU, AJ, AQ, AB, AA, Bq, s15, Bn, s20, s22, s10, s8, Aq, Tryd.f7, Option.getD_some]; rfl) (by omega) (fun w hS => NP (a := ⟨l.Bk, 0, none⟩) (by simp only [A8, A7, AC, AL, AZ, Au, AV, AU, AJ, AQ, AB, AA, Bq, s15, Bn, s20, s22, s10, s8, Aq, Tryd.f7, Option.getD_some]; rfl) (by rw [H.P]; kernel_rfl) rfl (H.kn w hS.2.2).keys H.rk) ?_
 refine Wp H rfl ?_
 refine Az mk7 (fun a w => stepG_region_end) ?_
 refine Az mk7 (fun a w => stepG_seq) ?_
 refine Az mk7 (fun a w => stepG_region) ?_
 exact Ya (wk := wk) H ⟨rfl, rfl, rfl, rfl, rfl, rfl, rfl, rfl, rfl, trivial⟩
theorem YG (H : St7 c l b8 gn b14 cs) (hwk : wk ≤ 64) {ρ : Env} (hH : Has ρ (Sl7 l wk b8 gn b14)) : MW c c.Sh cs (c.LF wk) [.code s10] ρ := by
 obtain ⟨σ, rfl⟩ := hH.open
 rw [YR]
 refine Az mk7 (fun a w => stepG_seq) ?_
 refine Az mk7 (fun a w => stepG_seq) ?_
 refine Az mk7 (fun a w => stepG_region) ?_
 refine Cx mk7 (by (refine of_decide_eq_true ?_; kernel_rfl)) (by kernel_rfl) (by simp only [A8, A7, AC, AL, AZ, Au, AV, AU, AJ, AQ, AB, AA, Bq, s15, Bn, s20, s22, s10, s8, Aq, Tryd.f7, Option.getD_some]; rfl) (by omega) (fun w hS => (Ew (by simp only [A8, A7, AC, AL, AZ, Au, AV, AU, AJ, AQ, AB, AA, Bq, s15, Bn, s20, s22, s10, s8, Aq, Tryd.f7, Option.getD_some]; rfl) rfl)) ?_
 refine Cx mk7 (by (refine of_decide_eq_true ?_; kernel_rfl)) (by kernel_rfl) (by simp only [A8, A7, AC, AL, AZ, Au, AV, AU, AJ, AQ, AB, AA, Bq, s15, Bn, s20, s22, s10, s8, Aq, Tryd.f7, Option.getD_some]; rfl) (by omega) (fun w hS => (Ew (by simp only [A8, A7, AC, AL, AZ, Au, AV, AU, AJ, AQ, AB, AA, Bq, s15, Bn, s20, s22, s10, s8, Aq, Tryd.f7, Option.getD_some]; rfl) rfl)) ?_
 refine Az mk7 (fun a w => stepG_region_end) ?_
 refine Az mk7 (fun a w => stepG_block) ?_
 refine Az mk7 (fun a w => stepG_loop) ?_
 rw [Xz]
 refine WM (wk := wk) H.K H.P H.ty H.wg hwk H.bf H.born (fun ρ hH => ?_) wk 0 _ (by omega) ⟨rfl, rfl, rfl, rfl, rfl, rfl, rfl, rfl, rfl, rfl, rfl, trivial⟩
 obtain ⟨σ, rfl⟩ := hH.open
 rw [YQ]
 refine Az mk7 (fun a w => stepG_seq) ?_
 refine Az mk7 (fun a w => stepG_seq) ?_
 refine Az mk7 (fun a w => stepG_region) ?_
 refine Cx mk7 (by (refine of_decide_eq_true ?_; kernel_rfl)) (by simp only [A8, A7, AC, AL, AZ, Au, AV, AU, AJ, AQ, AB, AA, Bq, s15, Bn, s20, s22, s10, s8, Aq, Tryd.f7, Option.getD_some]; rfl) (by simp only [A8, A7, AC, AL, AZ, Au, AV, AU, AJ, AQ, AB, AA, Bq, s15, Bn, s20, s22, s10, s8, Aq, Tryd.f7, Option.getD_some]; rfl) (by omega) (fun w hS => NP (a := ⟨l.Bp, 0, none⟩) (by simp only [A8, A7, AC, AL, AZ, Au, AV, AU, AJ, AQ, AB, AA, Bq, s15, Bn, s20, s22, s10, s8, Aq, Tryd.f7, Option.getD_some]; rfl) (by rw [H.P]; kernel_rfl) rfl (H.kn w hS.2.2).parts H.rp) ?_
 refine Cx mk7 (by (refine of_decide_eq_true ?_; kernel_rfl)) (by simp only [A8, A7, AC, AL, AZ, Au, AV, AU, AJ, AQ, AB, AA, Bq, s15, Bn, s20, s22, s10, s8, Aq, Tryd.f7, Option.getD_some]; rfl) (by simp only [A8, A7, AC, AL, AZ, Au, AV, AU, AJ, AQ, AB, AA, Bq, s15, Bn, s20, s22, s10, s8, Aq, Tryd.f7, Option.getD_some]; rfl) (by omega) (fun w hS => Y6 (ts := #[]) (by simp only [A8, A7, AC, AL, AZ, Au, AV, AU, AJ, AQ, AB, AA, Bq, s15, Bn, s20, s22, s10, s8, Aq, Tryd.f7, Option.getD_some]; rfl) (by rw [H.P]; exact Tryd.underlying39) rfl) ?_
 rw [H.m]
 refine Cx mk7 (by (refine of_decide_eq_true ?_; kernel_rfl)) (by kernel_rfl) (by simp only [A8, A7, AC, AL, AZ, Au, AV, AU, AJ, AQ, AB, AA, Bq, s15, Bn, s20, s22, s10, s8, Aq, Tryd.f7, Option.getD_some]; rfl) (by omega) (fun w hS => (Ew (by simp only [A8, A7, AC, AL, AZ, Au, AV, AU, AJ, AQ, AB, AA, Bq, s15, Bn, s20, s22, s10, s8, Aq, Tryd.f7, Option.getD_some]; rfl) rfl)) ?_
 refine Az mk7 (fun a w => stepG_region_end) ?_
 refine Az mk7 (fun a w => stepG_block) ?_
 refine Az mk7 (fun a w => stepG_loop) ?_
 rw [Xy]
 exact YN (wk := wk) H (fun ρ hH => AaP H hH) c.m 0 _ (by omega) ⟨rfl, rfl, rfl, rfl, rfl, rfl, rfl, rfl, rfl, rfl, rfl, trivial⟩
end
end Go.Proofs.YtkkmokodaejheaaDoor
namespace Go.Proofs.YtkkmokodaejheaaDoor
open Go Go.Conc
open Go.ConcN (sumTo sumTo_upd upd_ne upd_same)
def MBX (P : Program) (SB : Nat → Prop) (z z' : Nat) (a : Goroutine) (w : World) (Q : (Nat → Prop) → Goroutine → World → Prop) : Prop :=
 ∀ (gs : Array Goroutine) (sl : Option (Nat × Nat)) (t : Trace) (q : Nat → Nat), gs.size = z → gs[0]? = some a → Leavers P t gs q → Past (C9 SB) w.heap.size t →
  ∃ (N : Nat) (gs' : Array Goroutine) (a' : Goroutine) (w' : World) (sl' : Option (Nat × Nat)) (t' : Trace) (q' : Nat → Nat) (SB' : Nat → Prop),
   runNT P N (crowd gs w sl) t = (.next (crowd gs' w' sl'), t') ∧ gs'.size = z' ∧ gs'[0]? = some a' ∧ Leavers P t' gs' q' ∧ Past (C9 SB') w'.heap.size t' ∧ Q SB' a' w'
section
variable {P : Program} {SB : Nat → Prop} {z z' z'' : Nat}
theorem MB.x {a : Goroutine} {w : World} {Q : Goroutine → World → Prop} (h : MB P SB z a w Q) : MBX P SB z z a w (fun SB' a' w' => SB' = SB ∧ Q a' w') := by
 intro gs sl t q hz h0 hL hP
 obtain ⟨N, gs', a', w', sl', t', q', h1, h2, h3, h4, h5, h6⟩ := h gs sl t q hz h0 hL hP
 exact ⟨N, gs', a', w', sl', t', q', SB, h1, h2, h3, h4, h5, rfl, h6⟩
theorem MBX.bind {a : Goroutine} {w : World} {Q Q' : (Nat → Prop) → Goroutine → World → Prop} (h : MBX P SB z z' a w Q) (h' : ∀ SB' a' w', Q SB' a' w' → MBX P SB' z' z'' a' w' Q') : MBX P SB z z'' a w Q' := by
 intro gs sl t q hz h0 hL hP
 obtain ⟨N, gs', a', w', sl', t', q', SB', h1, h2, h3, h4, h5, h6⟩ := h gs sl t q hz h0 hL hP
 obtain ⟨N2, gs2, a2, w2, sl2, t2, q2, SB2, g1, g2, g3, g4, g5, g6⟩ := h' SB' a' w' h6 gs' sl' t' q' h2 h3 h4 h5
 exact ⟨N + N2, gs2, a2, w2, sl2, t2, q2, SB2, by rw [runNT_add, h1]; exact g1, g2, g3, g4, g5, g6⟩
theorem MBX.mono {a : Goroutine} {w : World} {Q Q' : (Nat → Prop) → Goroutine → World → Prop} (h : MBX P SB z z' a w Q) (h' : ∀ SB' a' w', Q SB' a' w' → Q' SB' a' w') : MBX P SB z z' a w Q' := by
 intro gs sl t q hz h0 hL hP
 obtain ⟨N, gs', a', w', sl', t', q', SB', h1, h2, h3, h4, h5, h6⟩ := h gs sl t q hz h0 hL hP
 exact ⟨N, gs', a', w', sl', t', q', SB', h1, h2, h3, h4, h5, h' _ _ _ h6⟩
theorem MBX.done {a : Goroutine} {w : World} {Q : (Nat → Prop) → Goroutine → World → Prop} (h : Q SB a w) : MBX P SB z z a w Q := fun gs sl t q hz h0 hL hP => ⟨0, gs, a, w, sl, t, q, SB, rfl, hz, h0, hL, hP, h⟩
theorem quiet {S : Go.Loc → Prop} {B : Nat} {a : Goroutine} {w : World} (hrun : a.status = .running) (nx : World → Goroutine × World) (h1 : ∀ d, stepG P true a (w.at d) = .go (nx (w.at d)).1 (nx (w.at d)).2 #[])
  (gs : Array Goroutine) (sl : Option (Nat × Nat)) (t : Trace) (q : Nat → Nat) (hz : gs.size = z) (h0 : gs[0]? = some a) (hL : Leavers P t gs q) (hP : Past S B t) :
  ∃ (N : Nat) (gs' : Array Goroutine) (d : Nat) (sl' : Option (Nat × Nat)) (t' : Trace) (q' : Nat → Nat),
   runNT P N (crowd gs w sl) t = (.next (crowd gs' (nx (w.at d)).2 sl'), t') ∧ gs'.size = z ∧ gs'[0]? = some (nx (w.at d)).1 ∧ Leavers P t' gs' q' ∧ Past S B t' := by
 have key : ∀ (n : Nat) (d0 : Nat) (gs : Array Goroutine) (sl : Option (Nat × Nat)) (t : Trace) (q : Nat → Nat), sumTo gs.size q ≤ n → gs.size = z → gs[0]? = some a → Leavers P t gs q → Past S B t →
   ∃ (N : Nat) (gs' : Array Goroutine) (d : Nat) (sl' : Option (Nat × Nat)) (t' : Trace) (q' : Nat → Nat),
    runNT P N (crowd gs (w.at d0) sl) t = (.next (crowd gs' (nx (w.at d)).2 sl'), t') ∧ gs'.size = z ∧ gs'[0]? = some (nx (w.at d)).1 ∧ Leavers P t' gs' q' ∧ Past S B t' := by
  intro n
  induction n using Nat.strongRecOn with
  | _ n ihn =>
   intro d0 gs sl t q hn hz h0 hL hP
   have haw : ∀ g ∈ gs, awake g := by
    intro g hg
    obtain ⟨i, hi, rfl⟩ := Array.mem_iff_getElem.1 hg
    rcases Nat.eq_zero_or_pos i with rfl | hpos
    ·have : gs[0] = a := by simpa [Array.getElem?_eq_getElem hi] using h0
     rw [this]; exact awake_of (.inl hrun)
    ·exact awake_of ((hL.old i _ hpos (Array.getElem?_eq_getElem hi)).status.elim .inl fun x => .inr (.inr x))
   obtain ⟨i, g, d, sl', hi, hg, hst'⟩ := crowd_pick (P := P) (w := w.at d0) (sl := sl) haw ⟨0, a, h0, hrun⟩
   rcases Nat.eq_zero_or_pos i with rfl | hpos
   ·obtain rfl : g = a := by rw [h0] at hi; exact (Option.some.inj hi).symm
    have hgo := h1 d
    have hrunT := runT_crowd_go (P := P) (sl := sl') (i := 0) hi (show stepG P (0 == 0) g ((w.at d0).at d) = _ from hgo)
    have hsz : ((gs.map (woken P g (nx (w.at d)).1 (nx (w.at d)).2)).setIfInBounds 0 (nx (w.at d)).1).size = gs.size := by simp
    have hlt : 0 < gs.size := (Array.getElem?_eq_some_iff.1 h0).1
    refine ⟨1, (gs.map (woken P g (nx (w.at d)).1 (nx (w.at d)).2)).setIfInBounds 0 (nx (w.at d)).1, d, sl', t ++ MemOp.ofEvents 0 g.frame.fn g.frame.place #[], q, by simp only [runNT, hst', hrunT], hsz.trans hz, by simp [hlt], ⟨fun j x hj hx => ?_, fun j hj => ?_⟩, hP.own fun e he => by simp at he⟩
    ·have hne : 0 ≠ j := by omega
     rw [Array.getElem?_setIfInBounds_ne hne, Array.getElem?_map] at hx
     obtain ⟨y, hy, rfl⟩ := Option.map_eq_some_iff.1 hx
     have hq := hL.old j y hj hy
     rw [woken_quitsD hq, Deaf_other t (by omega) _ (fun op hop => by obtain ⟨e, _, rfl⟩ := Go.Conc.mem_ofEvents hop; rfl)]
     exact hq
    ·rw [Deaf_other t (g' := 0) (by simp at hj; omega) _ (fun op hop => by obtain ⟨e, _, rfl⟩ := Go.Conc.mem_ofEvents hop; rfl)]
     exact hL.above j (by simpa using hj)
   ·have hq := hL.old i g hpos hi
    have hi0 : (i == 0) = false := by simp; omega
    have hlt : i < gs.size := (Array.getElem?_eq_some_iff.1 hi).1
    cases hqi : q i with
    | zero => rw [hqi] at hq; rw [hq.1] at hg; cases hg
    | succ k =>
     rw [hqi] at hq
     rcases hq with ⟨hf, _⟩ | ⟨_, g', es, hm, hstp, hq'⟩
     ·rw [hf] at hg; cases hg
     have hrunT := runT_crowd_go (P := P) (sl := sl') (i := i) hi (by rw [hi0]; exact hstp ((w.at d0).at d))
     have hsz : ((gs.map (woken P g g' ((w.at d0).at d))).setIfInBounds i g').size = gs.size := by simp
     have hsum : sumTo gs.size (Go.ConcN.upd q i k) + (k + 1) = sumTo gs.size q + k := by
      have := sumTo_upd q k id hlt
      simpa [hqi] using this
     obtain ⟨N, gs', d', sl'', t', q', hr', hs', h0', hL', hP'⟩ := ihn (n - 1) (by omega) d ((gs.map (woken P g g' ((w.at d0).at d))).setIfInBounds i g') sl' (t ++ MemOp.ofEvents i g.frame.fn g.frame.place es) (Go.ConcN.upd q i k) (by rw [hsz]; omega) (hsz.trans hz)
         (by
          have hne : i ≠ 0 := by omega
          rw [Array.getElem?_setIfInBounds_ne hne, Array.getElem?_map, h0]
          simp [woken_run hrun])
         ⟨fun j x hj hx => by
          by_cases hji : i = j
          ·subst hji
           rw [Array.getElem?_setIfInBounds_self_of_lt (by simpa using hlt)] at hx
           obtain rfl := Option.some.inj hx
           rw [upd_same, Deaf_own]
           exact hq'
          ·rw [Array.getElem?_setIfInBounds_ne hji, Array.getElem?_map] at hx
           obtain ⟨y, hy, rfl⟩ := Option.map_eq_some_iff.1 hx
           have hqj := hL.old j y hj hy
           rw [woken_quitsD hqj, upd_ne q k (Ne.symm hji), Deaf_other t hji _ (fun op hop => by obtain ⟨e, _, rfl⟩ := Go.Conc.mem_ofEvents hop; rfl)]
           exact hqj, fun j hj => by
          rw [Deaf_other t (g' := i) (by simp at hj; omega) _ (fun op hop => by obtain ⟨e, _, rfl⟩ := Go.Conc.mem_ofEvents hop; rfl)]
          exact hL.above j (by simpa using hj)⟩
         (hP.mute (by omega) hm)
     exact ⟨N + 1, gs', d', sl'', t', q', by simp only [runNT, hst', hrunT]; exact hr', hs', h0', hL', hP'⟩
 exact key (sumTo gs.size q) w.drawn gs sl t q (Nat.le_refl _) hz h0 hL hP
end
end Go.Proofs.YtkkmokodaejheaaDoor
namespace Go.Proofs.YtkkmokodaejheaaDoor
open Go Go.Conc Go.RowKit
section
variable {F : FuncId → Prop} {π : Ren} {R D O : Nat → Prop} {v w w1 : World} {g g' : Nat} {t : TypeId} {cs : Array Value} {f : Nat × Nat}
theorem NC (hle : (DT D O w.heap.size).Le π) (hW : WR F π R v w1) (hR : ∀ b, R b → b < w.heap.size) (hg : w.heap.size ≤ g) (h : π.to g = some g') : w.heap.size ≤ g' ∧ π.own g ∧ ∃ o o', v.heap[g]? = some o ∧ w1.heap[g']? = some o' ∧ Fj F π o o' := by
 have hbase : π.base = w.heap.size := hle.base
 have hge : w.heap.size ≤ g' := Nat.le_of_not_lt fun hlt => by
  have := π.low _ _ h (.inr (by omega))
  omega
 have ho : π.own g := Classical.byContradiction fun hno => by
  obtain ⟨hr, _⟩ := hW.ro _ _ h hno
  have := hR _ hr
  omega
 exact ⟨hge, ho, hW.mine _ _ h ho⟩
theorem Xn (hle : (DT D O w.heap.size).Le π) (hW : WR F π R v w1) (hR : ∀ b, R b → b < w.heap.size) (hg : w.heap.size ≤ g) (h : π.to g = some g') (hb : v.heap[g]? = some (.cells cs t f)) : w.heap.size ≤ g' ∧ π.own g ∧ ∃ cs', w1.heap[g']? = some (.cells cs' t f) ∧ AR (VR F π) cs cs' := by
 obtain ⟨h1, h2, o, o', q1, q2, q3⟩ := NC hle hW hR hg h
 rw [hb] at q1
 cases q1
 cases q3 with
 | cells e f hAR => exact ⟨h1, h2, _, q2, hAR⟩
theorem Kr {u : Value} (h : VR F π (.pointer (some ⟨g, 0, none⟩)) u) : ∃ g', u = .pointer (some ⟨g', 0, none⟩) ∧ π.to g = some g' := by
 cases h with
 | ptr ha =>
  rename_i a'
  obtain ⟨b, o, s⟩ := a'
  obtain ⟨h1, h2, h3⟩ := ha
  dsimp only at h1 h2 h3
  subst h2 h3
  exact ⟨b, rfl, h1⟩
theorem F6 {n c : Nat} {u : Value} (h : VR F π (.slice (some ⟨g, 0, none⟩) n c) u) : ∃ g', u = .slice (some ⟨g', 0, none⟩) n c ∧ π.to g = some g' := by
 cases h with
 | slice l c ha =>
  rename_i a'
  obtain ⟨b, o, s⟩ := a'
  obtain ⟨h1, h2, h3⟩ := ha
  dsimp only at h1 h2 h3
  subst h2 h3
  exact ⟨b, rfl, h1⟩
theorem SY {x : Value} {cs' : Array Value} (h : AR (VR F π) #[x] cs') : ∃ y, cs' = #[y] ∧ VR F π x y := by
 obtain ⟨h1, h2⟩ := h
 obtain ⟨l⟩ := cs'
 match l, h1 with
 | [a], _ => exact ⟨a, rfl, h2 0 _ _ rfl rfl⟩
inductive Gu : Value → Prop where
 | int (k : IntKind) (z : Int) : Gu (.int k z)
 | slice0 (l c : Nat) : Gu (.slice none l c)
 | nilIface : Gu .nilIface
theorem Gu.eq {x y : Value} (hx : Gu x) (h : VR F π x y) : y = x := by
 cases hx <;> cases h <;> rfl
theorem lits {cs cs' : Array Value} (h : AR (VR F π) cs cs') (hl : ∀ u ∈ cs, Gu u) : cs' = cs := by
 refine Array.ext h.1.symm fun i h1 h2 => ?_
 exact (hl _ (Array.getElem_mem h2)).eq (h.2 i _ _ (Array.getElem?_eq_getElem h2) (Array.getElem?_eq_getElem h1))
def Fh (M : Nat → Prop) (w : World) (e size : Nat) (A : Option Addr) (n c : Nat) (xs : List Value) : Prop :=
 xs.length = n * size ∧ n ≤ c ∧ c ≤ 9223372036854775807 ∧ ((A = none ∧ n = 0) ∨ ∃ g cur, A = some ⟨g, 0, none⟩ ∧ M g ∧ w.heap[g]? = some (.cells cur e (0, 0)) ∧ cur.toList.take (n * size) = xs)
theorem Fh.blk {M : Nat → Prop} {e size n c : Nat} {A : Option Addr} {xs : List Value} (h : Fh M w e size A n c xs) {a : Addr} (ha : A = some a) : M a.block ∧ a.spot = none ∧ ∃ cs f, w.heap[a.block]? = some (.cells cs e f) := by
 obtain ⟨_, _, _, ⟨h1, _⟩ | ⟨g, cur, h1, h2, h3, _⟩⟩ := h
 ·rw [h1] at ha; cases ha
 ·rw [h1] at ha; cases ha; exact ⟨h2, rfl, _, _, h3⟩
theorem Fh.rd {M : Nat → Prop} {e size n c : Nat} {A : Option Addr} {xs : List Value} (h : Fh M w e size A n c xs) : Rd w (fun b => A.map (·.block) = some b) size (.slice A n c) n xs := by
 obtain ⟨h0, hn, hc, hh⟩ := h
 refine ⟨A, c, rfl, hn, hc, h0, fun hpos => ?_⟩
 rcases hh with ⟨_, h2⟩ | ⟨g, cur, rfl, h2, h3, h4⟩
 ·omega
 ·refine ⟨g, 0, rfl, rfl, fun j u hj => ?_⟩
  rw [← h4] at hj
  have hlt : j < n * size := by
   have := (List.getElem?_eq_some_iff.1 hj).1
   rw [List.length_take] at this
   omega
  rw [List.getElem?_take_of_lt hlt, Array.getElem?_toList] at hj
  simp only [World.cell?, h3, Nat.zero_add]
  exact hj
theorem Fh.keep {M M' : Nat → Prop} {e size n c : Nat} {A : Option Addr} {xs : List Value} (h : Fh M w e size A n c xs) (hw : ∀ b, M b → b < w.heap.size → M' b ∧ w1.heap[b]? = w.heap[b]?) : Fh M' w1 e size A n c xs := by
 obtain ⟨h0, hn, hc, hh⟩ := h
 refine ⟨h0, hn, hc, hh.imp id fun ⟨g, cur, h1, h2, h3, h4⟩ => ?_⟩
 obtain ⟨q1, q2⟩ := hw g h2 (Array.getElem?_eq_some_iff.1 h3).1
 exact ⟨g, cur, h1, q1, q2.trans h3, h4⟩
theorem Ri (hW : WR F π R v w1) (h : π.to g = some g') (ho : π.own g) (hb : v.heap[g]? = some (.cells cs t f)) : ∃ cs', w1.heap[g']? = some (.cells cs' t f) ∧ AR (VR F π) cs cs' := by
 obtain ⟨o, o', q1, q2, q3⟩ := hW.mine _ _ h ho
 rw [hb] at q1
 cases q1
 cases q3 with
 | cells e f hAR => exact ⟨_, q2, hAR⟩
theorem O0 (hW : WR F π R v w1) {e size n c : Nat} {A : Option Addr} {xs : List Value} {u : Value} (hl : ∀ x ∈ xs, Gu x) (ho : ∀ k k', A.map (·.block) = some k → π.to k = some k' → π.own k)
  (h : v.ownsRow 0 e size (.slice A n c) n xs) (hu : VR F π (.slice A n c) u) : ∃ A', u = .slice A' n c ∧ Fh (fun k' => ∃ k, A.map (·.block) = some k ∧ π.to k = some k' ∧ π.own k) w1 e size A' n c xs := by
 obtain ⟨hlen, hcase⟩ := h
 rcases hcase with ⟨e1, e2⟩ | ⟨g, cap, cur, e1, hb, hcur, hn, hcap, hsz, htk⟩
 ·injection e1 with e1 e3 e4
  subst e1 e4
  cases hu
  exact ⟨none, rfl, hlen, by omega, by omega, .inl ⟨rfl, e2⟩⟩
 ·injection e1 with e1 e2 e3
  subst e1
  subst e3
  obtain ⟨g', rfl, hg⟩ := F6 hu
  have q2 := ho g g' rfl hg
  obtain ⟨cur', q3, q4⟩ := Ri hW hg q2 hcur
  have e63 : maxLen ≤ 9223372036854775807 := by decide
  refine ⟨_, rfl, hlen, hn, by omega, .inr ⟨g', cur', rfl, ⟨g, rfl, hg, q2⟩, q3, ?_⟩⟩
  rw [← htk]
  refine List.ext_getElem? fun i => ?_
  by_cases hi : i < n * size
  ·rw [List.getElem?_take_of_lt hi, List.getElem?_take_of_lt hi, Array.getElem?_toList, Array.getElem?_toList]
   cases hci : cur[i]? with
   | none => rw [q4.get_none hci]
   | some x =>
    obtain ⟨y, hy, hvr⟩ := q4.get hci
    have hx : x ∈ xs := by
     rw [← htk]
     have : (cur.toList.take (n * size))[i]? = some x := by rw [List.getElem?_take_of_lt hi, Array.getElem?_toList, hci]
     exact List.mem_of_getElem? this
    rw [hy, (hl x hx).eq hvr]
  ·rw [List.getElem?_eq_none (by simp; omega), List.getElem?_eq_none (by simp; omega)]
theorem Xm (hle : (DT D O w.heap.size).Le π) (hW : WR F π R v w1) (hR : ∀ b, R b → b < w.heap.size) {e size n c : Nat} {A : Option Addr} {xs : List Value} {u : Value} (hl : ∀ x ∈ xs, Gu x) (ho : ∀ k, A.map (·.block) = some k → w.heap.size ≤ k)
  (h : v.ownsRow 0 e size (.slice A n c) n xs) (hu : VR F π (.slice A n c) u) : ∃ A', u = .slice A' n c ∧ Fh (fun k' => ∃ k, A.map (·.block) = some k ∧ π.to k = some k' ∧ π.own k) w1 e size A' n c xs :=
 O0 hW hl (fun k k' hk hp => (NC hle hW hR (ho k hk) hp).2.1) h hu
end
theorem Inv.apart2 {S : Nat → Prop} {w0 w : World} {H : List Ent} {e e' : Ent} (hI : Inv S w0 w H) {i j : Nat} (hi : H[i]? = some e) (hj : H[j]? = some e') (hij : i ≠ j) : ∀ k, e.D k → ¬ e'.D k := by
 obtain ⟨hi1, rfl⟩ := List.getElem?_eq_some_iff.1 hi
 obtain ⟨hj1, rfl⟩ := List.getElem?_eq_some_iff.1 hj
 have hp := List.pairwise_iff_getElem.1 hI.apart
 rcases Nat.lt_or_ge i j with h | h
 ·exact hp i j hi1 hj1 h
 ·intro k h1 h2
  exact hp j i hj1 hi1 (by omega) k h2 h1
structure Oi (o bud : Int) (l : List Op8) (b4 b6 b8 b12 b14 gp gn gf : Nat) (As : Nat → Option Addr) (cs : Nat → Nat) (Bs : Nat → Option Addr) (ds : Nat → Nat) (M : Nat → Prop) (w : World) : Prop where
 h14 : Blk w b14 49 #[.slice (some ⟨gf, 0, none⟩) 8 8]
 hf : Blk w gf 26 zF8
 h12 : Blk w b12 39 #[.slice (some ⟨gp, 0, none⟩) 8 8]
 parts : ∀ k, k < 8 → Fh M w 63 8 (As k) (Ci l l.length k) (cs k) (KZ l l.length k)
 nums : ∀ k, k < 8 → Fh M w 3 1 (Bs k) (Ci l l.length k) (ds k) (NR l l.length k)
 hp : Blk w gp 22 (slC l As cs l.length)
 hn : Blk w gn 24 (slC l Bs ds l.length)
 h8 : Blk w b8 33 zV.toArray
 h6 : Blk w b6 3 #[.int .i64 bud]
 h4 : Blk w b4 3 #[.int .i64 o]
 mem : ∀ b, b = b4 ∨ b = b6 ∨ b = b8 ∨ b = b12 ∨ b = b14 ∨ b = gp ∨ b = gn ∨ b = gf → M b
 nf : ∀ b, b = b4 ∨ b = b6 ∨ b = b8 ∨ b = b12 ∨ b = b14 ∨ b = gp ∨ b = gn → gf ≠ b
 n8 : b8 ≠ b14 ∧ b8 ≠ gn
 pf : ∀ k, k < 8 → (As k).map (·.block) ≠ some gf
 bf : ∀ k, k < 8 → (Bs k).map (·.block) ≠ some gf ∧ (Bs k).map (·.block) ≠ some b8
theorem Oi.keep {o bud : Int} {l : List Op8} {b4 b6 b8 b12 b14 gp gn gf : Nat} {As : Nat → Option Addr} {cs : Nat → Nat} {Bs : Nat → Option Addr} {ds : Nat → Nat} {M M' : Nat → Prop} {w w1 : World} (h : Oi o bud l b4 b6 b8 b12 b14 gp gn gf As cs Bs ds M w) (hw : ∀ b, M b → b < w.heap.size → M' b ∧ w1.heap[b]? = w.heap[b]?) : Oi o bud l b4 b6 b8 b12 b14 gp gn gf As cs Bs ds M' w1 := by
 have lt : ∀ b, b = b4 ∨ b = b6 ∨ b = b8 ∨ b = b12 ∨ b = b14 ∨ b = gp ∨ b = gn ∨ b = gf → b < w.heap.size := by
  rintro b (rfl | rfl | rfl | rfl | rfl | rfl | rfl | rfl)
  ·exact h.h4.lt
  ·exact h.h6.lt
  ·exact h.h8.lt
  ·exact h.h12.lt
  ·exact h.h14.lt
  ·exact h.hp.lt
  ·exact h.hn.lt
  ·exact h.hf.lt
 have e : ∀ b, b = b4 ∨ b = b6 ∨ b = b8 ∨ b = b12 ∨ b = b14 ∨ b = gp ∨ b = gn ∨ b = gf → w1.heap[b]? = w.heap[b]? := fun b hb => (hw b (h.mem b hb) (lt b hb)).2
 exact ⟨(e _ (by simp)).trans h.h14, (e _ (by simp)).trans h.hf, (e _ (by simp)).trans h.h12, fun k hk => (h.parts k hk).keep hw, fun k hk => (h.nums k hk).keep hw, (e _ (by simp)).trans h.hp, (e _ (by simp)).trans h.hn, (e _ (by simp)).trans h.h8, (e _ (by simp)).trans h.h6, (e _ (by simp)).trans h.h4,
  fun b hb => (hw b (h.mem b hb) (lt b hb)).1, h.nf, h.n8, h.pf, h.bf⟩
abbrev Sl8 (wk : Int) (b4 b6 b8 b12 b14 gn : Nat) : List (Nat × Value) := [(3, .int .i64 wk), (4, .pointer (some ⟨b4, 0, none⟩)), (6, .pointer (some ⟨b6, 0, none⟩)), (8, .pointer (some ⟨b8, 0, none⟩)), (9, .nilIface), (12, .pointer (some ⟨b12, 0, none⟩)), (13, .slice (some ⟨gn, 0, none⟩) 8 8), (14, .pointer (some ⟨b14, 0, none⟩))]
theorem Q7 {F : FuncId → Prop} {π : Ren} {R D O : Nat → Prop} {v v0 w w1 : World} {M : Nat → Prop} (hle : (DT D O w.heap.size).Le π) (hW : WR F π R v w1) (hR : ∀ b, R b → b < w.heap.size) (hM : ∀ k k', π.to k = some k' → π.own k → M k')
  {l : List Op8} {As : Nat → Option Addr} {cs : Nat → Nat} {e size n : Nat} {xs : Nat → List Value} (hl : ∀ k, k < 8 → ∀ x ∈ xs k, Gu x) (ho : ∀ k, k < 8 → ∀ b, (As k).map (·.block) = some b → w.heap.size ≤ b)
  (h : ∀ k, k < 8 → v.ownsRow 0 e size (.slice (As k) (Ci l n k) (cs k)) (Ci l n k) (xs k)) {c' : Array Value} (hc : AR (VR F π) (slC l As cs n) c') :
  ∃ As', c' = slC l As' cs n ∧ (∀ k, k < 8 → Fh M w1 e size (As' k) (Ci l n k) (cs k) (xs k)) ∧ ∀ k, k < 8 → ∀ b', (As' k).map (·.block) = some b' → ∃ b, (As k).map (·.block) = some b ∧ π.to b = some b' := by
 have key : ∀ k, ∃ A', k < 8 → c'[k]? = some (.slice A' (Ci l n k) (cs k)) ∧ Fh (fun k' => ∃ q, (As k).map (·.block) = some q ∧ π.to q = some k' ∧ π.own q) w1 e size A' (Ci l n k) (cs k) (xs k) := by
  intro k
  by_cases hk : k < 8
  ·obtain ⟨u, hu, hvr⟩ := hc.get (EQ hk)
   obtain ⟨A', rfl, hr⟩ := Xm hle hW hR (hl k hk) (ho k hk) (h k hk) hvr
   exact ⟨A', fun _ => ⟨hu, hr⟩⟩
  ·exact ⟨none, fun h => absurd h hk⟩
 refine ⟨fun k => Classical.choose (key k), ?_, fun k hk => ?_, fun k hk b' hb' => ?_⟩
 ·have hs : c'.size = 8 := by rw [← hc.1]; simp [slC]
  refine Array.ext (by rw [hs]; simp [slC]) fun i h1 h2 => ?_
  have hi : i < 8 := by omega
  have e1 := (Classical.choose_spec (key i) hi).1
  have e2 := EQ (l := l) (As := fun k => Classical.choose (key k)) (cs := cs) (k := n) hi
  exact Option.some.inj (((Array.getElem?_eq_getElem h1).symm.trans e1).trans ((Array.getElem?_eq_getElem h2).symm.trans e2).symm)
 ·exact (Classical.choose_spec (key k) hk).2.keep fun b ⟨q, _, hq, ho⟩ _ => ⟨hM _ _ hq ho, rfl⟩
 ·obtain ⟨a, ha, rfl⟩ := Option.map_eq_some_iff.1 hb'
  obtain ⟨⟨q, h1, h2, _⟩, _⟩ := (Classical.choose_spec (key k) hk).2.blk ha
  exact ⟨q, h1, h2⟩
theorem Uy (l : List Op8) (n k : Nat) : ∀ x ∈ KZ l n k, Gu x := by
 intro x hx
 obtain ⟨i, hi, hx⟩ := List.mem_flatMap.1 hx
 simp only [opV, List.mem_cons, List.not_mem_nil, or_false] at hx
 rcases hx with rfl | rfl | rfl | rfl | rfl | rfl | rfl | rfl <;> exact .int _ _
theorem UO (l : List Op8) (n k : Nat) : ∀ x ∈ NR l n k, Gu x := by
 intro x hx
 obtain ⟨i, hi, rfl⟩ := List.mem_map.1 hx
 exact .int _ _
theorem Wu : ∀ u ∈ zF8, Gu u := by
 intro u hu
 simp only [zF8, zF, List.cons_append, List.nil_append, List.mem_toArray, List.mem_cons, List.not_mem_nil, or_false] at hu
 rcases hu with h | h | h | h | h | h | h | h | h | h | h | h | h | h | h | h | h | h | h | h | h | h | h | h <;> subst h <;> first | exact .int _ _ | exact .slice0 _ _
set_option maxHeartbeats 2000000 in
theorem Zw {F : FuncId → Prop} {π : Ren} {R D O M : Nat → Prop} {v v0 w w1 : World} (hle : (DT D O w.heap.size).Le π) (hW : WR F π R v w1) (hR : ∀ b, R b → b < w.heap.size) (hM : ∀ k k', π.to k = some k' → π.own k → M k') (hv0 : v0.heap.size = w.heap.size)
  {o bud wk : Int} {l : List Op8} {b4 b6 b8 b12 b14 gp gn gf : Nat} {As : Nat → Option Addr} {cs : Nat → Nat} {Bs : Nat → Option Addr} {ds : Nat → Nat} {T t' : Array Value} (ht : AR (VR F π) T t')
  (hH : Has (fun i => T.getD i undef) (Sl8 wk b4 b6 b8 b12 b14 gn)) (hI : Inv (fun _ => False) v0 v (H7 o bud l b4 b6 b8 b12 b14 gp gn gf As cs Bs ds)) :
  ∃ b4' b6' b8' b12' b14' gp' gn' gf' As' Bs', Has (fun i => t'.getD i undef) (Sl8 wk b4' b6' b8' b12' b14' gn') ∧ Oi o bud l b4' b6' b8' b12' b14' gp' gn' gf' As' cs Bs' ds M w1 := by
 have hnew : ∀ e ∈ H7 o bud l b4 b6 b8 b12 b14 gp gn gf As cs Bs ds, ∀ k, e.D k → w.heap.size ≤ k := fun e he k hk => by rw [← hv0]; exact (hI.own e he k hk).resolve_left id
 have hok : ∀ e ∈ H7 o bud l b4 b6 b8 b12 b14 gp gn gf As cs Bs ds, e.Φ v := fun e he => (hI.ok e he).1
 unfold H7 at hI hnew hok
 have und : VR F π undef undef := .undef
 obtain ⟨s3, s4, s6, s8, s9, s12, s13, s14, -⟩ := hH
 have g3 := ht.getD 3 und
 have g4 := ht.getD 4 und
 have g6 := ht.getD 6 und
 have g8 := ht.getD 8 und
 have g9 := ht.getD 9 und
 have g12 := ht.getD 12 und
 have g13 := ht.getD 13 und
 have g14 := ht.getD 14 und
 dsimp only at s3 s4 s6 s8 s9 s12 s13 s14
 rw [s3] at g3; rw [s4] at g4; rw [s6] at g6; rw [s8] at g8; rw [s9] at g9; rw [s12] at g12; rw [s13] at g13; rw [s14] at g14
 have g3 := Gu.eq (.int _ _) g3
 have g9 := Gu.eq .nilIface g9
 obtain ⟨b4', g4, r4⟩ := Kr g4
 obtain ⟨b6', g6, r6⟩ := Kr g6
 obtain ⟨b8', g8, r8⟩ := Kr g8
 obtain ⟨b12', g12, r12⟩ := Kr g12
 obtain ⟨gn', g13, rn⟩ := F6 g13
 obtain ⟨b14', g14, r14⟩ := Kr g14
 have mk : ∀ (i : Nat) {g g' : Nat} {t : TypeId} {c : Array Value}, ([B b14 49 #[.slice (some ⟨gf, 0, none⟩) 8 8], B gf 26 zF8, B b12 39 #[.slice (some ⟨gp, 0, none⟩) 8 8], AY 8 (pE l As cs l.length), AY 8 (nE l Bs ds l.length), B gp 22 (slC l As cs l.length), B gn 24 (slC l Bs ds l.length), B b8 33 zV.toArray, B b6 3 #[.int .i64 bud], B b4 3 #[.int .i64 o]] : List Ent)[i]? = some (B g t c) → π.to g = some g' →
   M g' ∧ ∃ c', Blk w1 g' t c' ∧ AR (VR F π) c c' := fun i {g g' t c} hi hr => by
  have hm := List.mem_of_getElem? hi
  obtain ⟨q1, q2, c', q3, q4⟩ := Xn hle hW hR (hnew _ hm g rfl) hr (hok _ hm)
  exact ⟨hM _ _ hr q2, c', q3, q4⟩
 obtain ⟨m14, c14, k14, a14⟩ := mk 0 rfl r14
 obtain ⟨u14, rfl, d14⟩ := SY a14
 obtain ⟨gf', rfl, rf⟩ := F6 d14
 obtain ⟨mf, cf, kf, af⟩ := mk 1 (g := gf) rfl rf
 have af := lits af Wu
 subst af
 obtain ⟨m12, c12, k12, a12⟩ := mk 2 rfl r12
 obtain ⟨u12, rfl, d12⟩ := SY a12
 obtain ⟨gp', rfl, rp⟩ := F6 d12
 obtain ⟨mp, cp, kp, ap⟩ := mk 5 (g := gp) rfl rp
 obtain ⟨mn, cn, kn, an⟩ := mk 6 (g := gn) rfl rn
 obtain ⟨m8, c8, k8, a8⟩ := mk 7 rfl r8
 have a8 := lits a8 (fun u hu => by
  simp only [zV, List.mem_toArray, List.mem_cons, List.not_mem_nil, or_false] at hu
  rcases hu with rfl | rfl | rfl
  ·exact .int _ _
  ·exact .int _ _
  ·exact .slice0 _ _)
 subst a8
 obtain ⟨m6, c6, k6, a6⟩ := mk 8 rfl r6
 have a6 := lits a6 (fun u hu => by simp only [List.mem_toArray, List.mem_cons, List.not_mem_nil, or_false] at hu; subst hu; exact .int _ _)
 subst a6
 obtain ⟨m4, c4, k4, a4⟩ := mk 9 rfl r4
 have a4 := lits a4 (fun u hu => by simp only [List.mem_toArray, List.mem_cons, List.not_mem_nil, or_false] at hu; subst hu; exact .int _ _)
 subst a4
 have hpM := (hok (AY 8 (pE l As cs l.length)) (by simp)).1
 have hnM := (hok (AY 8 (nE l Bs ds l.length)) (by simp)).1
 obtain ⟨As', rfl, hA1, hA2⟩ := Q7 (v0 := v0) hle hW hR hM (n := l.length) (fun k hk => Uy l l.length k) (fun k hk b hb => hnew (AY 8 (pE l As cs l.length)) (by simp) b ⟨k, hk, hb⟩) (fun k hk => (hpM k hk).1) ap
 obtain ⟨Bs', rfl, hB1, hB2⟩ := Q7 (v0 := v0) hle hW hR hM (n := l.length) (fun k hk => UO l l.length k) (fun k hk b hb => hnew (AY 8 (nE l Bs ds l.length)) (by simp) b ⟨k, hk, hb⟩) (fun k hk => (hnM k hk).1) an
 have ne : ∀ {x y x' y' : Nat}, π.to x = some x' → π.to y = some y' → x ≠ y → x' ≠ y' := fun h1 h2 h e => h (π.inj _ _ _ h1 (e ▸ h2))
 have ap2 : ∀ {e e' : Ent} (i j : Nat), _ → _ → i ≠ j → ∀ k, e.D k → ¬ e'.D k := fun {e e'} i j => hI.apart2 (e := e) (e' := e') (i := i) (j := j)
 refine ⟨b4', b6', b8', b12', b14', gp', gn', gf', As', Bs', ⟨g3, g4, g6, g8, g9, g12, g13, g14, trivial⟩, ⟨k14, kf, k12, hA1, hB1, kp, kn, k8, k6, k4, ?_, ?_, ⟨?_, ?_⟩, fun k hk e => ?_, fun k hk => ⟨fun e => ?_, fun e => ?_⟩⟩⟩
 ·rintro b (rfl | rfl | rfl | rfl | rfl | rfl | rfl | rfl) <;> assumption
 ·rintro b (rfl | rfl | rfl | rfl | rfl | rfl | rfl)
  ·exact ne rf r4 fun e => ap2 1 9 rfl rfl (by omega) gf rfl e
  ·exact ne rf r6 fun e => ap2 1 8 rfl rfl (by omega) gf rfl e
  ·exact ne rf r8 fun e => ap2 1 7 rfl rfl (by omega) gf rfl e
  ·exact ne rf r12 fun e => ap2 1 2 rfl rfl (by omega) gf rfl e
  ·exact ne rf r14 fun e => ap2 1 0 rfl rfl (by omega) gf rfl e
  ·exact ne rf rp fun e => ap2 1 5 rfl rfl (by omega) gf rfl e
  ·exact ne rf rn fun e => ap2 1 6 rfl rfl (by omega) gf rfl e
 ·exact ne r8 r14 fun e => ap2 7 0 rfl rfl (by omega) b8 rfl e
 ·exact ne r8 rn fun e => ap2 7 6 rfl rfl (by omega) b8 rfl e
 ·obtain ⟨b, hb, hb'⟩ := hA2 k hk _ e
  have := π.inj _ _ _ hb' rf
  subst this
  exact ap2 (e := AY 8 (pE l As cs l.length)) 3 1 rfl rfl (by omega) b ⟨k, hk, hb⟩ rfl
 ·obtain ⟨b, hb, hb'⟩ := hB2 k hk _ e
  have := π.inj _ _ _ hb' rf
  subst this
  exact ap2 (e := AY 8 (nE l Bs ds l.length)) 4 1 rfl rfl (by omega) b ⟨k, hk, hb⟩ rfl
 ·obtain ⟨b, hb, hb'⟩ := hB2 k hk _ e
  have := π.inj _ _ _ hb' r8
  subst this
  exact ap2 (e := AY 8 (nE l Bs ds l.length)) 4 7 rfl rfl (by omega) b ⟨k, hk, hb⟩ rfl
theorem NM {P : Program} {main : Bool} {R : Nat → Prop} {Sh : World → Prop} {X : Event → Prop} {Stop : (Nat → Prop) → Goroutine → World → Prop} {b : Frame} {ops : Array Oper} {k : List Item} {cs : List Frame} {a : Act} {M : Nat → Prop} {w : World} {i : Nat} {rest : List Nat} {o : Oper}
  (ho : ops[i]? = some o) (hw : Region.wanted o (yielded ops a.tmps) = true) (hk : b.kind ≠ .early)
  (hr : ∀ w1, BS M R Sh w w1 → ∃ v w2, ((execOp a.eval o).run P w1 = .ok (.value v) w2 ∨ ((execOp a.eval o).run P w1 = .ok .skip w2 ∧ v = undef)) ∧ (∀ e ∈ (execOp a.eval o).events P w1 #[], BZ M R e) ∧ Ay M w1 w2 ∧
   Own P main R Sh X Stop (grown M w1.heap.size w2.heap.size) (G (b.at (a.put o.dst v) (.inRegion ops rest :: k)) cs) w2) : Own P main R Sh X Stop M (G (b.at a (.inRegion ops (i :: rest) :: k)) cs) w := by
 refine Own.mk rfl fun w1 r => ?_
 obtain ⟨v, w2, h1, h2, h3, h4⟩ := hr w1 r
 rcases h1 with h1 | ⟨h1, rfl⟩
 ·refine ⟨_, w2, _, stepG_value ho hw hk h1, h3, fun e he => .inl ?_, h4⟩
  have := h2 e (mem_listed he)
  unfold BZ at this ⊢
  cases hl : e.loc with
  | cell a => rw [hl] at this; exact this.imp .inl id
  | obj a => rw [hl] at this; exact .inl this
  | mark a => rw [hl] at this; exact this
  | _ => rw [hl] at this; exact this
 ·refine ⟨_, w2, _, stepG_none ho hw hk h1, h3, fun e he => .inl ?_, h4⟩
  have := h2 e (mem_listed he)
  unfold BZ at this ⊢
  cases hl : e.loc with
  | cell a => rw [hl] at this; exact this.imp .inl id
  | obj a => rw [hl] at this; exact .inl this
  | mark a => rw [hl] at this; exact this
  | _ => rw [hl] at this; exact this
structure Kept (SB : Nat → Prop) (w0 w : World) : Prop where
 size : w0.heap.size ≤ w.heap.size
 blk : ∀ b, b < w0.heap.size → ¬ SB b → w.heap[b]? = w0.heap[b]?
 tape : w.tape = w0.tape
 os : w.os = w0.os
 out : w.output = w0.output
abbrev RK (SB : Nat → Prop) (w0 : World) (b : Nat) : Prop := b < w0.heap.size ∧ ¬ SB b
section
variable {SB M : Nat → Prop} {w0 w w1 : World} {Sh : World → Prop}
theorem Kept.refl (SB : Nat → Prop) (w : World) : Kept SB w w := ⟨Nat.le_refl _, fun _ _ _ => rfl, rfl, rfl, rfl⟩
theorem Kept.rely (h : Kept SB w0 w) (r : BS M (RK SB w0) Sh w w1) : Kept SB w0 w1 :=
 ⟨Nat.le_trans h.size r.size, fun b hb hs => (r.mine b (.inr ⟨hb, hs⟩)).trans (h.blk b hb hs), r.tape.trans h.tape, r.os.trans h.os, r.out.trans h.out⟩
theorem Kept.spares (h : Kept SB w0 w) (hM : ∀ b, M b → w0.heap.size ≤ b) (s : Ay M w w1) : Kept SB w0 w1 :=
 ⟨Nat.le_trans h.size s.size, fun b hb hs => (s.rest b (fun hm => by have := hM b hm; omega) (Nat.lt_of_lt_of_le hb h.size)).trans (h.blk b hb hs), s.tape.trans h.tape, s.os.trans h.os, s.out.trans h.out⟩
theorem Kept.trans {SB' : Nat → Prop} {w2 : World} (h : Kept SB w0 w1) (k : Kept SB' w1 w2) (hs : ∀ b, b < w0.heap.size → SB' b → SB b) : Kept SB w0 w2 :=
 ⟨Nat.le_trans h.size k.size, fun b hb hn => (k.blk b (Nat.lt_of_lt_of_le hb h.size) (fun h' => hn (hs b hb h'))).trans (h.blk b hb hn), k.tape.trans h.tape, k.os.trans h.os, k.out.trans h.out⟩
theorem Cr (M : Nat → Prop) (w : World) (o : Obj) : Ay M w (w.alloc o) := ⟨by show w.heap.size ≤ (w.heap.push o).size; rw [Array.size_push]; omega, fun k _ hk => by show (w.heap.push o)[k]? = _; rw [Array.getElem?_push_lt hk, Array.getElem?_eq_getElem hk], rfl, rfl, rfl⟩
theorem JC (w : World) (o : Obj) : (w.alloc o).heap[w.heap.size]? = some o := by show (w.heap.push o)[w.heap.size]? = _; exact Array.getElem?_push_size
theorem HV (w : World) (o : Obj) : (w.alloc o).heap.size = w.heap.size + 1 := by show (w.heap.push o).size = _; exact Array.size_push ..
end
noncomputable def s9 : Code := match s8 with | .seq _ c => c | _ => .skip
noncomputable def DC : Array Oper := match s8 with | .seq (.region _ o _) _ => o | _ => #[]
noncomputable def Dh : Array Oper := match s9 with | .seq (.region _ o _) _ => o | _ => #[]
theorem ZW : s8 = .seq (.region 8 DC false) s9 := by simp only [DC, Dh, s9, s10, s8, Aq, Tryd.f7, Option.getD_some]
theorem ZV : s9 = .seq (.region 9 Dh false) s10 := by simp only [DC, Dh, s9, s10, s8, Aq, Tryd.f7, Option.getD_some]
section
variable {P : Program} {ρ : Env} {o : Oper} {w : World}
theorem Ub {t : TypeId} {e : TypeId} {dir : ChanDir} {i : TypeInfo} (ho : o.op = .makeChan t (.const (.int .i64 0))) (ht : P.underlying t = some (.chan dir e)) (hi : P.info? e = some i) :
  (execOp (ev ρ) o).run P w = .ok (.value (.chan (some w.heap.size))) (w.alloc (.chan 0 #[] false 0 0 false)) ∧ (execOp (ev ρ) o).events P w #[] = #[] := by
 have h1 := run_makeChan (P := P) (w := w) ht hi .i64 0 (by omega) (by simp)
 have h2 := events_makeChan (P := P) (w := w) ht hi .i64 0 (by omega) (by simp) #[]
 simp only [Int.natCast_zero] at h1 h2
 constructor
 ·simp [execOp, ho, ev, h1]
 ·simp [execOp, ho, ev, h1, h2]
theorem Pj {t : TypeId} (ho : o.op = .alloc t) : (execOp (ev ρ) o).events P w #[] = #[] := by
 simp only [execOp, ho]
 simp [Instr.alloc, newVar, newRow, Sem.events_bind]
 cases (zeroValue t).run P w <;> simp [Result.evThen_ok]
end
structure At9 (SB : Nat → Prop) (w0 : World) (o bud wk : Int) (l : List Op8) (M : Nat → Prop) (w : World) (T : Array Value) (b4 b6 b8 b12 b14 gp gn gf : Nat) (As : Nat → Option Addr) (cz : Nat → Nat) (Bs : Nat → Option Addr) (dz : Nat → Nat) (Ch bk : Nat) : Prop where
 size : T.size = 135
 has : Has (fun i => T.getD i undef) ((15, .pointer (some ⟨bk, 0, none⟩)) :: Sl8 wk b4 b6 b8 b12 b14 gn)
 box : Oi o bud l b4 b6 b8 b12 b14 gp gn gf As cz Bs dz M w
 chan : w.heap[Ch]? = some (.chan 0 #[] false 0 0 false)
 bkc : ∃ e, w.heap[bk]? = some (.cells #[.chan (some Ch)] e (0, 0))
 mch : M Ch
 mbk : M bk
 low : ∀ b, M b → w0.heap.size ≤ b
 kept : Kept SB w0 w
def Wj (SB : Nat → Prop) (w0 : World) (o bud wk : Int) (l : List Op8) (cs : List Frame) (M : Nat → Prop) (g : Goroutine) (w : World) : Prop :=
 ∃ T b4 b6 b8 b12 b14 gp gn gf As cz Bs dz Ch bk, g = G (b7.at ⟨T, []⟩ (.inRegion Dh [0] :: [.code s10])) cs ∧ At9 SB w0 o bud wk l M w T b4 b6 b8 b12 b14 gp gn gf As cz Bs dz Ch bk
section
variable {SB M : Nat → Prop} {w0 w : World} {o bud wk : Int} {l : List Op8} {b4 b6 b8 b12 b14 gp gn gf : Nat} {As : Nat → Option Addr} {cz : Nat → Nat} {Bs : Nat → Option Addr} {dz : Nat → Nat} {cs : List Frame} {T : Array Value}
theorem QS {a : Act} {N : Nat} {ρ : Env} (h : Fit N ρ a) : a = ⟨a.tmps, []⟩ := by
 have h := h.defers
 cases a
 simp_all
structure S9 (SB : Nat → Prop) (w0 : World) (o bud : Int) (l : List Op8) (b4 b6 b8 b12 b14 gp gn gf : Nat) (As : Nat → Option Addr) (cz : Nat → Nat) (Bs : Nat → Option Addr) (dz : Nat → Nat) (n : Nat) (M : Nat → Prop) (w : World) : Prop where
 box : Oi o bud l b4 b6 b8 b12 b14 gp gn gf As cz Bs dz (fun b => M b ∧ b < n) w
 nle : n ≤ w.heap.size
 low : ∀ b, M b → w0.heap.size ≤ b
 kept : Kept SB w0 w
variable {n : Nat} {Sh : World → Prop} {w1 : World}
theorem S9.rely (h : S9 SB w0 o bud l b4 b6 b8 b12 b14 gp gn gf As cz Bs dz n M w) (r : BS M (RK SB w0) Sh w w1) : S9 SB w0 o bud l b4 b6 b8 b12 b14 gp gn gf As cz Bs dz n M w1 :=
 ⟨h.box.keep fun b hb _ => ⟨hb, r.mine b (.inl hb.1)⟩, Nat.le_trans h.nle r.size, h.low, h.kept.rely r⟩
theorem S9.top (h : S9 SB w0 o bud l b4 b6 b8 b12 b14 gp gn gf As cz Bs dz n M w) : S9 SB w0 o bud l b4 b6 b8 b12 b14 gp gn gf As cz Bs dz w.heap.size M w :=
 ⟨h.box.keep fun b hb hl => ⟨⟨hb.1, hl⟩, rfl⟩, Nat.le_refl _, h.low, h.kept⟩
theorem S9.alloc (h : S9 SB w0 o bud l b4 b6 b8 b12 b14 gp gn gf As cz Bs dz n M w) (ob : Obj) : S9 SB w0 o bud l b4 b6 b8 b12 b14 gp gn gf As cz Bs dz n (grown M w.heap.size (w.alloc ob).heap.size) (w.alloc ob) :=
 ⟨h.box.keep fun b hb hl => ⟨⟨.inl hb.1, hb.2⟩, (Cr (fun _ => False) w _).rest b id hl⟩, Nat.le_trans h.nle (Cr (fun _ => False) w ob).size, fun b hb => hb.elim (h.low b) fun hh => Nat.le_trans h.kept.size hh.1,
  h.kept.spares (M := fun _ => False) (fun _ h => h.elim) (Cr _ _ _)⟩
theorem S9.set (h : S9 SB w0 o bud l b4 b6 b8 b12 b14 gp gn gf As cz Bs dz n M w) {M' : Nat → Prop} (hM : ∀ b, M b → M' b) (hM' : ∀ b, M' b → M b ∨ w0.heap.size ≤ b) {g : Nat} (hg : n ≤ g) (s : Ay (fun b => b = g) w w1) (h0 : w0.heap.size ≤ g) : S9 SB w0 o bud l b4 b6 b8 b12 b14 gp gn gf As cz Bs dz n M' w1 :=
 ⟨h.box.keep fun b hb hl => ⟨⟨hM b hb.1, hb.2⟩, s.rest b (fun e => by have := hb.2; omega) hl⟩, Nat.le_trans h.nle s.size, fun b hb => (hM' b hb).elim (h.low b) id, h.kept.spares (fun b e => by rw [e]; exact h0) s⟩
theorem OC {M M' : Nat → Prop} (h : Ay M w w1) (hM : ∀ b, M b → M' b) : Ay M' w w1 := ⟨h.size, fun k hk hl => h.rest k (fun hm => hk (hM k hm)) hl, h.tape, h.os, h.out⟩
theorem Qf {g k : Nat} {cs : Array Value} {e : TypeId} {f : Nat × Nat} {v : Value} (hg : w.heap[g]? = some (.cells cs e f)) : Ay (fun b => b = g) w (w.setCell ⟨g, k, none⟩ v) := by
 rw [setCell_eq_setRow w g k cs e f v hg]
 refine ⟨Nat.le_of_eq (setRow_size ..).symm, fun b hb _ => setRow_other _ _ _ _ hb, rfl, rfl, rfl⟩
theorem VE {P : Program} {ρ : Env} {o : Oper} {w : World} {x y : Operand} {t e' : TypeId} {g k : Nat} {c : Option Nat} {cs : Array Value} (ho : o.op = .store t x y) (hx : ev ρ x = .pointer (some ⟨g, k, none⟩)) (hy : ev ρ y = .chan c) (hg : w.heap[g]? = some (.cells cs e' (0, 0))) (hk : k < cs.size) (hs : szB P t 1 = true) :
  ∀ e ∈ (execOp (ev ρ) o).events P w #[], e.loc = .cell ⟨g, k, none⟩ := by
 intro e he
 obtain ⟨st1, st2, st3⟩ := JH (P := P) (v := .chan c) hg hk rfl
 unfold execOp at he
 rw [ho] at he
 have hcell : w.cell? ⟨g, k, none⟩ = some cs[k] := by simp [World.cell?, hg, hk]
 have hfro : w.frozen? ⟨g, k, none⟩ = false := by simp [World.frozen?, hg]
 simp [go_sem, hx, hy, Cc hs, hcell, hfro] at he
 rw [he]
theorem Y4 (hT : T.size = 135) (hH : Has (fun i => T.getD i undef) (Sl8 wk b4 b6 b8 b12 b14 gn)) (hS : S9 SB w0 o bud l b4 b6 b8 b12 b14 gp gn gf As cz Bs dz n M w) :
  Own Tryd.prog true (RK SB w0) (fun _ => True) (fun _ => False) (Wj SB w0 o bud wk l cs) M (G (b7.at ⟨T, []⟩ [.code s8]) cs) w := by
 rw [ZW]
 refine Own.move rfl (fun w1 => stepG_seq) fun w1 hr => Own.rely ?_ hr
 refine Own.move rfl (fun w1 => stepG_region) fun w1 hr => Own.rely ?_ hr
 have hf := Hr hT
 generalize (fun i => T.getD i undef) = ρ at hH hf
 generalize ha : (⟨T, []⟩ : Act) = a at hf
 clear ha
 obtain ⟨σ, rfl⟩ := hH.open
 -- the channel
 refine NM (i := 0) (o := DC.getD 0 default) (by simp only [DC, Dh, s9, s10, s8, Aq, Tryd.f7, Option.getD_some]; rfl) (by simp only [DC, Dh, s9, s10, s8, Aq, Tryd.f7, Option.getD_some]; rfl) GX fun w1 r => ?_
 obtain ⟨i1, hi1⟩ : ∃ i, Tryd.prog.info? 3 = some i := ⟨_, rfl⟩
 have hrc := fun ρ => Ub (P := Tryd.prog) (ρ := ρ) (o := DC.getD 0 default) (w := w1) (t := 50) (by simp only [DC, Dh, s9, s10, s8, Aq, Tryd.f7, Option.getD_some]; rfl) Tryd.underlying50 hi1
 refine ⟨_, _, .inl (by rw [hf.eval]; exact (hrc _).1), by rw [hf.eval, (hrc _).2]; simp, Cr .., ?_⟩
 clear hrc
 obtain ⟨Ch, hCh⟩ : ∃ n, n = w1.heap.size := ⟨_, rfl⟩
 have hC := JC w1 (.chan 0 #[] false 0 0 false)
 have hmC : grown M w1.heap.size (w1.alloc (.chan 0 #[] false 0 0 false)).heap.size w1.heap.size := .inr ⟨Nat.le_refl _, by rw [HV]; omega⟩
 have hS := (hS.rely r).alloc (.chan 0 #[] false 0 0 false)
 rw [← hCh] at hC hmC hS ⊢
 have hd0 : (DC.getD 0 default).dst = some 62 := by simp only [DC, Dh, s9, s10, s8, Aq, Tryd.f7, Option.getD_some]; rfl
 rw [hd0]
 have hf := hf.put (d := 62) (by omega) (.chan (some Ch))
 generalize hM2 : grown M Ch (w1.alloc (.chan 0 #[] false 0 0 false)).heap.size = M2 at hS hmC ⊢
 generalize a.put (some 62) (.chan (some Ch)) = a2 at hf ⊢
 generalize w1.alloc (.chan 0 #[] false 0 0 false) = w2 at hS hC hM2 ⊢
 -- its box
 refine NM (i := 1) (o := DC.getD 1 default) (by simp only [DC, Dh, s9, s10, s8, Aq, Tryd.f7, Option.getD_some]; rfl) (by simp only [DC, Dh, s9, s10, s8, Aq, Tryd.f7, Option.getD_some]; rfl) GX fun w3 r3 => ?_
 have ho1 : (DC.getD 1 default).op = .alloc 50 := by simp only [DC, Dh, s9, s10, s8, Aq, Tryd.f7, Option.getD_some]; rfl
 refine ⟨_, _, .inl (by rw [hf.eval]; exact Jg (u := .chan none) ho1 (by kernel_rfl)), by rw [hf.eval, Pj ho1]; simp, Cr .., ?_⟩
 obtain ⟨bk, hbk⟩ : ∃ n, n = w3.heap.size := ⟨_, rfl⟩
 have hCw := (r3.mine Ch (.inl hmC)).trans hC
 have hltC : Ch < w3.heap.size := (Array.getElem?_eq_some_iff.1 hCw).1
 have hbkc := JC w3 (.cells (Value.chan none).cells 50)
 have hmbk : grown M2 w3.heap.size (w3.alloc (.cells (Value.chan none).cells 50)).heap.size w3.heap.size := .inr ⟨Nat.le_refl _, by rw [HV]; omega⟩
 have hC4 : (w3.alloc (.cells (Value.chan none).cells 50)).heap[Ch]? = _ := ((Cr (fun _ => False) w3 _).rest Ch id hltC).trans hCw
 have h0bk : w0.heap.size ≤ w3.heap.size := (hS.rely r3).kept.size
 have hS := (hS.rely r3).top.alloc (.cells (Value.chan none).cells 50)
 rw [← hbk] at hbkc hmbk h0bk hltC hS ⊢
 have hd1 : (DC.getD 1 default).dst = some 15 := by simp only [DC, Dh, s9, s10, s8, Aq, Tryd.f7, Option.getD_some]; rfl
 rw [hd1]
 have hf := hf.put (d := 15) (by omega) (.pointer (some ⟨bk, 0, none⟩))
 have hmC4 : grown M2 bk (w3.alloc (.cells (Value.chan none).cells 50)).heap.size Ch := .inl hmC
 generalize hM4 : grown M2 bk (w3.alloc (.cells (Value.chan none).cells 50)).heap.size = M4 at hS hmbk hmC4 ⊢
 generalize a2.put (some 15) (.pointer (some ⟨bk, 0, none⟩)) = a4 at hf ⊢
 generalize w3.alloc (.cells (Value.chan none).cells 50) = w4 at hS hC4 hM4 hbkc ⊢
 -- the store
 refine NM (i := 2) (o := DC.getD 2 default) (by simp only [DC, Dh, s9, s10, s8, Aq, Tryd.f7, Option.getD_some]; rfl) (by simp only [DC, Dh, s9, s10, s8, Aq, Tryd.f7, Option.getD_some]; rfl) GX fun w5 r5 => ?_
 have hC5 := (r5.mine Ch (.inl hmC4)).trans hC4
 have hbk5 := (r5.mine bk (.inl hmbk)).trans hbkc
 have hS := hS.rely r5
 have ho2 : (DC.getD 2 default).op = .store 50 (.tmp 15) (.tmp 62) := by simp only [DC, Dh, s9, s10, s8, Aq, Tryd.f7, Option.getD_some]; rfl
 obtain ⟨st1, st2, st3⟩ := JH (P := Tryd.prog) (v := .chan (some Ch)) hbk5 (show 0 < (Value.chan none).cells.size by decide) rfl
 have sp := Qf (k := 0) (v := .chan (some Ch)) hbk5
 refine ⟨undef, w5.setCell ⟨bk, 0, none⟩ (.chan (some Ch)), .inr ⟨by rw [hf.eval]; exact run_store (P := Tryd.prog) (w := w5) (g := bk) (j := 0) (n := 1) (u := .chan (some Ch)) (vs := #[.chan (some Ch)]) ho2 rfl rfl rfl (by kernel_rfl) rfl hbk5 (by decide) rfl, rfl⟩, fun e he => ?_, OC sp (fun b hb => by rw [hb]; exact hmbk), ?_⟩
 ·rw [hf.eval] at he
  have := VE (P := Tryd.prog) (w := w5) ho2 (g := bk) rfl rfl hbk5 (by decide) (by kernel_rfl) e he
  unfold BZ
  rw [this]
  exact .inl hmbk
 have hd2 : (DC.getD 2 default).dst = none := by simp only [DC, Dh, s9, s10, s8, Aq, Tryd.f7, Option.getD_some]; rfl
 rw [hd2]
 have hC6 := (sp.rest Ch (by omega) (Array.getElem?_eq_some_iff.1 hC5).1).trans hC5
 have hsz6 : (w5.setCell ⟨bk, 0, none⟩ (.chan (some Ch))).heap.size = w5.heap.size := by
  rw [setCell_eq_setRow w5 bk 0 _ _ _ _ hbk5]
  exact setRow_size ..
 rw [hsz6, BU]
 have hS := hS.set (M' := M4) (fun _ h => h) (fun _ h => .inl h) (Nat.le_refl _) sp h0bk
 have hbk6 : (w5.setCell ⟨bk, 0, none⟩ (.chan (some Ch))).heap[bk]? = some (.cells #[.chan (some Ch)] 50 (0, 0)) := st3
 generalize w5.setCell ⟨bk, 0, none⟩ (.chan (some Ch)) = w6 at hS hC6 hbk6 ⊢
 refine Own.move rfl (fun w1 => stepG_region_end) fun w1 hr => Own.rely ?_ hr
 rw [ZV]
 refine Own.move rfl (fun w1 => stepG_seq) fun w1 hr => Own.rely ?_ hr
 refine Own.move rfl (fun w1 => stepG_region) fun w1 hr => Own.rely ?_ hr
 refine .stop fun w7 r7 => ?_
 have hS := hS.rely r7
 have hl : List.range Dh.size = [0] := by simp only [DC, Dh, s9, s10, s8, Aq, Tryd.f7, Option.getD_some]; rfl
 have ha := QS hf
 have hh : Has (fun i => a4.tmps.getD i undef) ((15, .pointer (some ⟨bk, 0, none⟩)) :: Sl8 wk b4 b6 b8 b12 b14 gn) := by
  rw [hf.env]
  exact ⟨rfl, rfl, rfl, rfl, rfl, rfl, rfl, rfl, rfl, trivial⟩
 have hS7 := hS.box.keep (M' := M4) (w1 := w7) fun b hb _ => ⟨hb.1, rfl⟩
 refine ⟨a4.tmps, b4, b6, b8, b12, b14, gp, gn, gf, As, cz, Bs, dz, Ch, bk, ?_, ⟨hf.size, hh, hS7, (r7.mine Ch (.inl hmC4)).trans hC6, ⟨_, (r7.mine bk (.inl hmbk)).trans hbk6⟩, hmC4, hmbk, hS.low, hS.kept⟩⟩
 rw [hl]
 show G (b7.at a4 _) cs = _
 rw [ha]
end
theorem Own.imp {P : Program} {main : Bool} {R : Nat → Prop} {Sh : World → Prop} {X : Event → Prop} {Stop Stop' : (Nat → Prop) → Goroutine → World → Prop} {M : Nat → Prop} {g : Goroutine} {w : World} (h : Own P main R Sh X Stop M g w) (hs : ∀ M g w, Stop M g w → Stop' M g w) : Own P main R Sh X Stop' M g w := by
 induction h with
 | stop h => exact .stop fun w1 r => hs _ _ _ (h w1 r)
 | step hr nx h1 h2 h3 h4 ih => exact .step hr nx h1 h2 h3 ih
structure DN (SB : Nat → Prop) (w : World) (A : Option Addr) (n c : Nat) (l : List Op8) : Prop where
 ops : BK w (fun b => A.map (·.block) = some b) (.slice A n c) l
 blk : ∀ b, A.map (·.block) = some b → ∃ cs e f, w.heap[b]? = some (.cells cs e f)
 kn : Dq w
 gl : ∀ g, g < 4 → ∃ cs e f, w.heap[g]? = some (.cells cs e f)
 gsz : Tryd.prog.globals.size ≤ w.heap.size
 sb : ∀ b, SB b → b < w.heap.size ∧ 4 ≤ b ∧ A.map (·.block) ≠ some b
abbrev D7 (A : Option Addr) (b : Nat) : Prop := A.map (·.block) = some b ∨ b < 4
section
variable {SB : Nat → Prop} {w w1 : World} {A : Option Addr} {n c : Nat} {l : List Op8}
theorem DN.lt (C : DN SB w A n c l) {b : Nat} (h : D7 A b) : RK SB w b := by
 refine ⟨?_, fun hs => ?_⟩
 ·obtain ⟨cs, e, f, hh⟩ : ∃ cs e f, w.heap[b]? = some (.cells cs e f) := h.elim (C.blk b) (C.gl b)
  exact (Array.getElem?_eq_some_iff.1 hh).1
 ·obtain ⟨h1, h2, h3⟩ := C.sb b hs
  rcases h with h | h
  ·exact h3 h
  ·omega
theorem DN.row (C : DN SB w A n c l) {b : Nat} (h : D7 A b) : ∃ cs e f, w.heap[b]? = some (.cells cs e f) := h.elim (C.blk b) (C.gl b)
theorem JA {a : Addr} (h : w1.heap[a.block]? = w.heap[a.block]?) : w1.cell? a = w.cell? a := by
 unfold World.cell?
 rw [h]
theorem MI {D : Nat → Prop} {v : Value} (h : BK w D v l) (hD : ∀ b, D b → w1.heap[b]? = w.heap[b]?) : BK w1 D v l := by
 obtain ⟨A', c', h1, h2, h3, h4, h5⟩ := h
 refine ⟨A', c', h1, h2, h3, h4, fun hn => ?_⟩
 obtain ⟨b, o, e, hb, hc⟩ := h5 hn
 exact ⟨b, o, e, hb, fun j u hu => (JA (hD b hb)).trans (hc j u hu)⟩
theorem DN.kept {SB' : Nat → Prop} (C : DN SB w A n c l) (h : Kept SB w w1) (hs : ∀ b, SB' b → SB b ∨ (w.heap.size ≤ b ∧ b < w1.heap.size)) : DN SB' w1 A n c l := by
 have e : ∀ b, D7 A b → w1.heap[b]? = w.heap[b]? := fun b hb => h.blk b (C.lt hb).1 (C.lt hb).2
 refine ⟨MI C.ops fun b hb => e b (.inl hb), fun b hb => by rw [e b (.inl hb)]; exact C.blk b hb, fun i hi => (JA (e _ (.inr (show (0 : Nat) < 4 by decide)))).trans (C.kn i hi), fun g hg => by rw [e g (.inr hg)]; exact C.gl g hg, Nat.le_trans C.gsz h.size, fun b hb => ?_⟩
 rcases hs b hb with hb | ⟨h1, h2⟩
 ·obtain ⟨g1, g2, g3⟩ := C.sb b hb
  exact ⟨Nat.lt_of_lt_of_le g1 h.size, g2, g3⟩
 ·refine ⟨h2, ?_, fun he => ?_⟩
  ·have h3 := (C.lt (b := 3) (.inr (by omega))).1
   omega
  ·have := (C.lt (.inl he)).1
   omega
theorem MZ (args : Array Value) (k : Nat) : (fun i => (args ++ Array.replicate k undef).getD i undef) = entry args := by
 funext i
 unfold entry
 rw [Array.getD_eq_getD_getElem?, Array.getD_eq_getD_getElem?]
 by_cases h : i < args.size
 ·rw [Array.getElem?_append_left h]
 ·rw [Array.getElem?_append_right (by omega), Array.getElem?_eq_none (xs := args) (by omega), Array.getElem?_replicate]
  split <;> rfl
def StopA (SB : Nat → Prop) (w0 : World) (o bud wk : Int) (l : List Op8) (c0 : Frame) (cs0 : List Frame) (M : Nat → Prop) (g : Goroutine) (w : World) : Prop :=
 (¬ BA o l 0 ∧ ∃ x, FZ x ∧ g = G (c0.finish (.tuple #[.agg zV.toArray, x])) cs0 ∧ Kept SB w0 w ∧ ∀ b, M b → w0.heap.size ≤ b) ∨ (BA o l 0 ∧ Wj SB w0 o bud wk l (c0 :: cs0) M g w)
set_option maxHeartbeats 1000000 in
theorem R9 (C : DN SB w A n c l) {o bud wk : Int} (hb : l.length ≤ 10000) (hb0 : 0 ≤ bud) (hb1 : bud ≤ 1000000) (hw0 : 1 ≤ wk) (hw1 : wk ≤ 64) {c0 : Frame} {cs0 : List Frame} {T : Array Value} (hT : T.size = Tryd.f7.ntmps)
  (hTe : (fun i => T.getD i undef) = entry #[.int .i64 o, .slice A n c, .int .i64 bud, .int .i64 wk]) (hTs : ∀ u ∈ T, VR (SF lcS) (idr (D7 A) 0) u u) :
  Own Tryd.prog true (RK SB w) (fun _ => True) (fun _ => False) (StopA SB w o bud wk l c0 cs0) none_ (G (fm 7 T [.code Aq]) (c0 :: cs0)) w := by
 have hC : Closed (RK SB w) w (D7 A) := ⟨fun k hk => C.lt hk, fun k hk => C.row hk⟩
 have hR : ∀ b, RK SB w b → b < w.heap.size := fun b h => h.1
 refine Rf (KR := fun f' T' v => f' = 7 ∧ JG Tryd.prog (fun u v => ¬ BA o l 0 ∧ ∃ x, FZ x ∧ Ending.returned u = .returned (.tuple #[.agg zV.toArray, x])) f' T' v)
  (KO := fun f' T' v => f' = 7 ∧ T'.size = Tryd.f7.ntmps ∧ ∃ t, BA o l 0 ∧ ∃ b4 b6 b8 b12 b14 gp gn gf As cs Bs ds, ZH o bud wk l b4 b6 b8 b12 b14 gp gn gf As cs Bs ds (fun i => T'.getD i undef) ∧ Inv (fun _ => False) (En (SF lcS) (D7 A) (fun _ => False) (w.tp t)) v (H7 o bud l b4 b6 b8 b12 b14 gp gn gf As cs Bs ds))
  (r0 := s8) (x0 := Uv) (D := D7 A) (O := fun _ => False) (fun w1 => Kept SB w w1) (fun M w1 w2 r h => h.rely r) (fun M' w1 w2 hM s h => h.spares (fun b hb => (hM b hb).elim (fun h => h.elim) id) s) (Kept.refl _ _)
  IJ Tryd.func7 gr7 C.gsz (fun g hg => .inr (by simpa [lcS] using hg)) hC.o (T0 := T) (AR.self hTs) ?_ ?_ ?_
 ·refine JU (R := fun en w' => ¬ BA o l 0 ∧ ∃ x, FZ x ∧ en = .returned (.tuple #[.agg zV.toArray, x])) (KO := fun ρ v => ∃ t, BA o l 0 ∧ ∃ b4 b6 b8 b12 b14 gp gn gf As cs Bs ds, ZH o bud wk l b4 b6 b8 b12 b14 gp gn gf As cs Bs ds ρ ∧ Inv (fun _ => False) (En (SF lcS) (D7 A) (fun _ => False) (w.tp t)) v (H7 o bud l b4 b6 b8 b12 b14 gp gn gf As cs Bs ds)) Tryd.func7 hT fun t => ?_
  rw [hTe]
  refine Oa (Uu o A n c l bud wk (D7 A) (idv (SF lcS) (D7 A) (w.tp t)) (Fx t (Rd.mono C.ops fun k hk => .inl hk)) hb (Gi t (fun g hg => .inr hg) C.kn) hb0 hb1 hw0 hw1) fun e ρ v h => ?_
  cases e with
  | normal => exact ⟨t, h⟩
  | ret => exact h
  | _ => exact h
 ·rintro π f t t' todo' v w1 M' hle ht hf hK hW hown hM0 hMb hJ
  have hK' : ∀ t0, (∀ j, j < v.drawn → t0 j = v.tape j) → JG Tryd.prog (fun u v => ¬ BA o l 0 ∧ ∃ x, FZ x ∧ Ending.returned u = .returned (.tuple #[.agg zV.toArray, x])) f t (v.tp t0) := fun t0 h0 => (hK t0 h0).2
  refine MG (S := lcS) ht hK' hW hown hf fun π' u u' v' w2 M2 hle' hu hKu hW' hown' hM2 hMb' ⟨w3, hr3, hs3⟩ => ?_
  obtain ⟨hno, x, ⟨z, rfl⟩, e⟩ := hKu
  injection e with e
  subst e
  obtain ⟨y0, y1, rfl, h0, h1⟩ := Fp hu
  obtain ⟨z0, z1, z2, rfl, g0, g1, g2⟩ := Ia h0
  cases g0; cases g1; cases g2
  cases h1 with
  | iface _ h1 =>
   cases h1
   have hlow : ∀ b, M' b → w.heap.size ≤ b := fun b hb => (hMb b hb).elim (fun h => h.elim) id
   have hk2 : Kept SB w w2 := (hJ.rely hr3).spares hlow hs3
   refine .stop fun w4 r4 => .inl ⟨hno, _, ⟨_, rfl⟩, rfl, hk2.rely r4, fun b hb => ?_⟩
   exact (hMb' b hb).elim (hlow b) fun h => Nat.le_trans hJ.size h
 ·rintro π f t t' v w1 M' hle ht ⟨rfl, hT', tp, hok, b4, b6, b8, b12, b14, gp, gn, gf, As, cs, Bs, ds, ⟨hH⟩, hI⟩ hW hown hM0 hMb hJ
  obtain ⟨b4', b6', b8', b12', b14', gp', gn', gf', As', Bs', hH', hB⟩ := Zw hle hW hR hown (v0 := En (SF lcS) (D7 A) (fun _ => False) (w.tp tp)) Gj ht hH hI
  have hlow : ∀ b, M' b → w.heap.size ≤ b := fun b hb => (hMb b hb).elim (fun h => h.elim) id
  have hlt : ∀ b, M' b → b < w1.heap.size → (M' b ∧ b < w1.heap.size) ∧ w1.heap[b]? = w1.heap[b]? := fun b hb hl => ⟨⟨hb, hl⟩, rfl⟩
  refine (Y4 (SB := SB) (w0 := w) (wk := wk) (by rw [← ht.1, hT']; kernel_rfl) hH' ⟨hB.keep hlt, Nat.le_refl _, hlow, hJ⟩).imp fun M g w hh => .inr ⟨hok, hh⟩
noncomputable abbrev In7 (args : Array Value) (cs : List Frame) : Goroutine := G ((base 7).at { tmps := args ++ Array.replicate (Tryd.f7.ntmps - args.size) undef, defers := [] } [.code Aq]) cs
theorem Rh (C : DN SB w A n c l) {o bud wk : Int} (hb : l.length ≤ 10000) (hb0 : 0 ≤ bud) (hb1 : bud ≤ 1000000) (hw0 : 1 ≤ wk) (hw1 : wk ≤ 64) {c0 : Frame} {cs0 : List Frame} :
  Own Tryd.prog true (RK SB w) (fun _ => True) (fun _ => False) (StopA SB w o bud wk l c0 cs0) none_ (In7 #[.int .i64 o, .slice A n c, .int .i64 bud, .int .i64 wk] (c0 :: cs0)) w := by
 have hn : Tryd.f7.ntmps = 135 := by kernel_rfl
 refine R9 C hb hb0 hb1 hw0 hw1 ?_ (MZ _ _) fun u hu => ?_
 ·rw [hn]
  simp
 ·rcases Array.mem_append.1 hu with h | h
  ·simp only [List.mem_toArray, List.mem_cons, List.not_mem_nil, or_false] at h
   rcases h with rfl | rfl | rfl | rfl
   ·exact .int _ _
   ·cases A with
    | none => exact .slice0 _ _
    | some a => exact .slice _ _ ⟨FR (.inl rfl), rfl, rfl⟩
   ·exact .int _ _
   ·exact .int _ _
  ·rw [(Array.mem_replicate.1 h).2]; exact VR.undef
end
def Dm (l : List Op8) (k : Nat) : List Op8 := (kix l l.length k).map (oAt l)
theorem Iz (l : List Op8) (k : Nat) : (Dm l k).length = Ci l l.length k := by simp [Dm]
theorem OT (l : List Op8) (k : Nat) : (Dm l k).flatMap opV = KZ l l.length k := by simp [Dm, KZ, List.flatMap_map]
def DK (As : Nat → Option Addr) (b : Nat) : Prop := b < 4 ∨ ∃ k, k < 8 ∧ (As k).map (·.block) = some b
structure Kn8 (B0 : Nat) (As : Nat → Option Addr) (cz : Nat → Nat) (l : List Op8) (w : World) : Prop where
 row : ∀ b, DK As b → ∃ cs e f, w.heap[b]? = some (.cells cs e f)
 gsz : Tryd.prog.globals.size ≤ w.heap.size
 b0 : B0 ≤ w.heap.size
 kn : Dq w
 part : ∀ k, k < 8 → (∀ a, As k = some a → a.spot = none) ∧ BK w (DK As) (.slice (As k) (Ci l l.length k) (cz k)) (Dm l k)
theorem Kn8.keep {B0 : Nat} {As : Nat → Option Addr} {cz : Nat → Nat} {l : List Op8} {w w1 : World} (h : Kn8 B0 As cz l w) (hs : w.heap.size ≤ w1.heap.size) (hw : ∀ b, DK As b → w1.heap[b]? = w.heap[b]?) : Kn8 B0 As cz l w1 :=
 ⟨fun b hb => by rw [hw b hb]; exact h.row b hb, Nat.le_trans h.gsz hs, Nat.le_trans h.b0 hs, fun i hi => (JA (hw _ (.inl (show (0 : Nat) < 4 by decide)))).trans (h.kn i hi), fun k hk => ⟨(h.part k hk).1, MI (h.part k hk).2 hw⟩⟩
def ll8 (Wg Ch bk b4 b12 b6 b14 gf gp : Nat) (o bud : Int) (As : Nat → Option Addr) (cz : Nat → Nat) (l : List Op8) (B0 : Nat) : LL where
 Wg := Wg
 Ch := Ch
 Bk := bk
 Bo := b4
 Bp := b12
 Bb := b6
 Bf := b14
 C := gf
 Ap := gp
 o := o
 bud := bud
 m := 8
 part k := .slice (As k) (Ci l l.length k) (cz k)
 Kn := Kn8 B0 As cz l
noncomputable def Br (o bud : Int) (l : List Op8) (k : Nat) : Found := Da (ll8 0 0 0 0 0 0 0 0 0 o bud (fun _ => none) (fun _ => 0) l 0) (Dm l) k
theorem XG (Wg Ch bk b4 b12 b6 b14 gf gp : Nat) (o bud : Int) (As : Nat → Option Addr) (cz : Nat → Nat) (l : List Op8) (B0 : Nat) : Da (ll8 Wg Ch bk b4 b12 b6 b14 gf gp o bud As cz l B0) (Dm l) = Br o bud l := by
 funext k
 rfl
section
variable {SB M : Nat → Prop} {w0 w : World} {o bud wk : Int} {l : List Op8} {T : Array Value} {b4 b6 b8 b12 b14 gp gn gf : Nat} {As : Nat → Option Addr} {cz : Nat → Nat} {Bs : Nat → Option Addr} {dz : Nat → Nat} {Ch bk : Nat}
theorem Y9 {A : Option Addr} {n c : Nat} (C : DN SB w A n c l) (h : Oi o bud l b4 b6 b8 b12 b14 gp gn gf As cz Bs dz M w) : Kn8 w.heap.size As cz l w := by
 refine ⟨?_, C.gsz, Nat.le_refl _, C.kn, fun k hk => ⟨fun a ha => ((h.parts k hk).blk ha).2.1, ?_⟩⟩
 ·rintro b (hb | ⟨k, hk, hb⟩)
  ·exact C.gl b hb
  ·obtain ⟨a, ha, rfl⟩ := Option.map_eq_some_iff.1 hb
   obtain ⟨_, _, cs, f, hc⟩ := (h.parts k hk).blk ha
   exact ⟨_, _, _, hc⟩
 ·have hr := (h.parts k hk).rd
  unfold BK
  rw [Iz, OT]
  exact hr.mono fun b hb => .inr ⟨k, hk, hb⟩
noncomputable abbrev l8 (w : World) (Ch bk b4 b12 b6 b14 gf gp : Nat) (o bud : Int) (As : Nat → Option Addr) (cz : Nat → Nat) (l : List Op8) : LL := ll8 w.heap.size Ch bk b4 b12 b6 b14 gf gp o bud As cz l (w.heap.size + 1)
variable {A : Option Addr} {n c : Nat}
theorem Yq (C : DN SB w0 A n c l) (h : At9 SB w0 o bud wk l M w T b4 b6 b8 b12 b14 gp gn gf As cz Bs dz Ch bk) (hM : ∀ k, M k → k < w.heap.size ∧ ¬ SB k) : At7 (l8 w Ch bk b4 b12 b6 b14 gf gp o bud As cz l) (w.heap.size + 1) SB := by
 obtain ⟨e, hbk⟩ := h.bkc
 have ne : ∀ b, (∃ cs e f, w.heap[b]? = some (.cells cs e f)) → b ≠ Ch := fun b ⟨cs, e, f, hc⟩ hb => by
  rw [hb, h.chan] at hc
  cases hc
 have hch := hM Ch h.mch
 have hgf := hM gf (h.box.mem _ (by simp))
 have key : ∀ b, M b → (∃ cs e f, w.heap[b]? = some (.cells cs e f)) → gf ≠ b → b < w.heap.size + 1 ∧ b ≠ w.heap.size ∧ b ≠ Ch ∧ b ≠ gf ∧ ¬ SB b := fun b hb hc hn => by
  have := hM b hb
  exact ⟨by omega, by omega, ne b hc, Ne.symm hn, this.2⟩
 refine ⟨rfl, Nat.lt_succ_self _, ?_, ?_, ?_, ?_, ?_, fun b hb => ?_, fun b hb => ?_⟩
 ·show Ch < _
  omega
 ·show gf < _
  omega
 ·show w.heap.size ≠ Ch
  omega
 ·show gf ≠ w.heap.size
  omega
 ·exact ne gf ⟨_, _, _, h.box.hf⟩
 ·have h1 := (C.sb b hb).1
  have h2 := h.kept.size
  have h3 := h.low Ch h.mch
  have h4 := h.low gf (h.box.mem _ (by simp))
  refine ⟨by omega, ?_, ?_, ?_⟩
  ·show b ≠ w.heap.size
   omega
  ·show b ≠ Ch
   omega
  ·show b ≠ gf
   omega
 ·have hb : b = bk ∨ b = b4 ∨ b = b12 ∨ b = b6 ∨ b = b14 ∨ b = gp := hb
  rcases hb with rfl | rfl | rfl | rfl | rfl | rfl
  ·refine key _ h.mbk ⟨_, _, _, hbk⟩ fun e' => ?_
   have h1 := h.box.hf
   unfold Blk at h1
   rw [e', hbk] at h1
   injection h1 with h1
   injection h1 with h1
   have := congrArg Array.size h1
   simp [zF8, zF] at this
  ·exact key _ (h.box.mem _ (by simp)) ⟨_, _, _, h.box.h4⟩ (h.box.nf _ (by simp))
  ·exact key _ (h.box.mem _ (by simp)) ⟨_, _, _, h.box.h12⟩ (h.box.nf _ (by simp))
  ·exact key _ (h.box.mem _ (by simp)) ⟨_, _, _, h.box.h6⟩ (h.box.nf _ (by simp))
  ·exact key _ (h.box.mem _ (by simp)) ⟨_, _, _, h.box.h14⟩ (h.box.nf _ (by simp))
  ·exact key _ (h.box.mem _ (by simp)) ⟨_, _, _, h.box.hp⟩ (h.box.nf _ (by simp))
theorem dk8 (C : DN SB w0 A n c l) (h : At9 SB w0 o bud wk l M w T b4 b6 b8 b12 b14 gp gn gf As cz Bs dz Ch bk) (hM : ∀ k, M k → k < w.heap.size ∧ ¬ SB k) {z0 T0 : Nat} {b : Nat} (hb : DK As b) : (Gq (l8 w Ch bk b4 b12 b6 b14 gf gp o bud As cz l) (w.heap.size + 1) z0 T0 SB).R b := by
 show b < w.heap.size + 1 ∧ b ≠ w.heap.size ∧ b ≠ Ch ∧ b ≠ gf ∧ ¬ SB b
 have h2 := h.kept.size
 have h3 := h.low Ch h.mch
 have h4 := h.low gf (h.box.mem _ (by simp))
 rcases hb with hb | ⟨k, hk, hb⟩
 ·have := C.lt (.inr hb)
  exact ⟨by omega, by omega, by omega, by omega, this.2⟩
 ·have hpf := h.box.pf k hk
  obtain ⟨a, ha, rfl⟩ := Option.map_eq_some_iff.1 hb
  obtain ⟨hm, _, cs, f, hc⟩ := (h.box.parts k hk).blk ha
  have := hM _ hm
  refine ⟨by omega, by omega, fun e => ?_, fun e => hpf (by rw [hb, e]), this.2⟩
  rw [e, h.chan] at hc
  cases hc
theorem O6 (C : DN SB w0 A n c l) (h : At9 SB w0 o bud wk l M w T b4 b6 b8 b12 b14 gp gn gf As cz Bs dz Ch bk) (hM : ∀ k, M k → k < w.heap.size ∧ ¬ SB k) {z0 T0 : Nat} :
  ∀ w1 w2 : World, w1.heap.size ≤ w2.heap.size → (∀ b, (Gq (l8 w Ch bk b4 b12 b6 b14 gf gp o bud As cz l) (w.heap.size + 1) z0 T0 SB).R b → w2.heap[b]? = w1.heap[b]?) → (l8 w Ch bk b4 b12 b6 b14 gf gp o bud As cz l).Kn w1 → (l8 w Ch bk b4 b12 b6 b14 gf gp o bud As cz l).Kn w2 :=
 fun w1 w2 hs hw hk => Kn8.keep hk hs fun b hb => hw b (dk8 C h hM hb)
theorem Aaq (C : DN SB w0 A n c l) (h : At9 SB w0 o bud wk l M w T b4 b6 b8 b12 b14 gp gn gf As cz Bs dz Ch bk) (hM : ∀ k, M k → k < w.heap.size ∧ ¬ SB k) {z0 N T0 : Nat} {f : Nat → Found} :
  ∀ w1, (l8 w Ch bk b4 b12 b6 b14 gf gp o bud As cz l).Kn w1 → KN4 (OL (l8 w Ch bk b4 b12 b6 b14 gf gp o bud As cz l) f (w.heap.size + 1) z0 N T0 SB) (l8 w Ch bk b4 b12 b6 b14 gf gp o bud As cz l) (Dm l) (DK As) w1 := fun w1 hk => by
 have hk : Kn8 (w.heap.size + 1) As cz l w1 := hk
 refine ⟨fun b hb => dk8 C h hM hb, hk.row, fun g hg => .inl hg, hk.gsz, hk.b0, hk.kn, fun k hlt => ?_⟩
 obtain ⟨h1, h2⟩ := hk.part k hlt
 exact ⟨As k, _, _, rfl, fun a ha => ⟨.inr ⟨k, hlt, by rw [ha]; rfl⟩, h1 a ha⟩, h2⟩
theorem ok8 (C : DN SB w0 A n c l) (h : At9 SB w0 o bud wk l M w T b4 b6 b8 b12 b14 gp gn gf As cz Bs dz Ch bk) (hM : ∀ k, M k → k < w.heap.size ∧ ¬ SB k) {z0 N T0 : Nat} {cs : List Frame} (hN : N < 2147483648) (hz : z0 < N) :
  (Hw (l8 w Ch bk b4 b12 b6 b14 gf gp o bud As cz l) (Br o bud l) (w.heap.size + 1) z0 N T0 SB b8 gn b14 cs).Ok :=
 XM (Yq C h hM) (O6 C h hM) (Aaq C h hM) (XG ..).symm hN hz
end
end Go.Proofs.YtkkmokodaejheaaDoor
namespace Go.Proofs.YtkkmokodaejheaaDoor
open Go Go.Conc Go.RowKit
open Go.ConcR (WgAt DC0)
open Go.ConcN (sumTo)
section
variable {SB M : Nat → Prop} {w0 w : World} {o bud wk : Int} {l : List Op8} {T : Array Value} {b4 b6 b8 b12 b14 gp gn gf : Nat} {As : Nat → Option Addr} {cz : Nat → Nat} {Bs : Nat → Option Addr} {dz : Nat → Nat} {Ch bk : Nat} {A : Option Addr} {n c : Nat} {cs : List Frame}
theorem AaL {Wg B0 : Nat} {e : TypeId} (h : Oi o bud l b4 b6 b8 b12 b14 gp gn gf As cz Bs dz M w) (hbk : w.heap[bk]? = some (.cells #[.chan (some Ch)] e (0, 0))) (hk : Kn8 B0 As cz l w) : LWK (ll8 Wg Ch bk b4 b12 b6 b14 gf gp o bud As cz l B0) w := by
 have hb : Blk w bk e #[.chan (some Ch)] := hbk
 refine ⟨by show w.cell? ⟨bk, 0, none⟩ = _; rw [hb.cell]; rfl, by show w.cell? ⟨b4, 0, none⟩ = _; rw [h.h4.cell]; rfl, by show w.cell? ⟨b12, 0, none⟩ = _; rw [h.h12.cell]; rfl, by show w.cell? ⟨b6, 0, none⟩ = _; rw [h.h6.cell]; rfl, by show w.cell? ⟨b14, 0, none⟩ = _; rw [h.h14.cell]; rfl, fun k hk => ?_, hk⟩
 show w.cell? ⟨gp, k, none⟩ = _
 rw [h.hp.cell]
 exact EQ hk
structure ZN (SB : Nat → Prop) (w0 : World) (Wg : Nat) (o bud : Int) (l : List Op8) (b8 b14 gn gf : Nat) (Bs : Nat → Option Addr) (dz : Nat → Nat) (A' : Nat → Option Addr) (cc : Nat → Nat) (w : World) : Prop where
 h14 : Blk w b14 49 #[.slice (some ⟨gf, 0, none⟩) 8 8]
 hf : ∃ cs e, w.heap[gf]? = some (.cells cs e (0, 0))
 cells : ∀ k, k < 8 → w.cell? ⟨gf, 3 * k, none⟩ = some (.int .i64 (Br o bud l k).code) ∧ w.cell? ⟨gf, 3 * k + 1, none⟩ = some (.slice (A' k) (Br o bud l k).ord.length (cc k)) ∧ w.cell? ⟨gf, 3 * k + 2, none⟩ = some (.int .i64 (Br o bud l k).ent)
 ord : ∀ k, k < 8 → Gt (fun b => w0.heap.size ≤ b ∧ b < w.heap.size ∧ b ≠ Wg ∧ b ≠ b8) w (A' k) (cc k) (Br o bud l k).ord
 nums : ∀ k, k < 8 → Fh (fun b => w0.heap.size ≤ b ∧ b < w.heap.size ∧ b ≠ Wg ∧ b ≠ b8) w 3 1 (Bs k) (Ci l l.length k) (dz k) (NR l l.length k)
 hn : Blk w gn 24 (slC l Bs dz l.length)
 h8 : Blk w b8 33 zV.toArray
 n8 : b8 ≠ b14 ∧ b8 ≠ gn ∧ b8 ≠ gf
 mem : ∀ b, b = b8 ∨ b = b14 ∨ b = gn ∨ b = gf → w0.heap.size ≤ b ∧ b < w.heap.size ∧ b ≠ Wg
 wg : w0.heap.size ≤ Wg ∧ Wg < w.heap.size
 kept : Kept SB w0 w
def Aay (SB : Nat → Prop) (w0 : World) (o bud : Int) (l : List Op8) (cs : List Frame) (SB' : Nat → Prop) (g : Goroutine) (w : World) : Prop :=
 ∃ T Wg b8 b14 gn gf Bs dz A' cc, g = G7 T cs ∧ T7 b8 gn b14 T ∧ SB' = (fun b => SB b ∨ b = Wg) ∧ ZN SB w0 Wg o bud l b8 b14 gn gf Bs dz A' cc w
theorem VQ {c : Cfg} {l : LL} (hP : c.P = Tryd.prog) (k : LLR c l) {w : World} (hS : c.Sh w) (hK : LWK l w) : c.WO (HS c l) (born Tryd.prog l.call) w := by
 unfold Cfg.WO
 rw [hP]
 exact Eu (E := BZ none_ c.A.R) (fun e h M => .inl (Fy h)) (fun M w w1 h => Cfg.Df h) (Wz hP k w hK) hS
theorem AaM {l : LL} {f : Nat → Found} {B0 z0 N T0 : Nat} {SB : Nat → Prop} (h : At7 l B0 SB) (hkn : ∀ w w1 : World, w.heap.size ≤ w1.heap.size → (∀ b, (Gq l B0 z0 T0 SB).R b → w1.heap[b]? = w.heap[b]?) → l.Kn w → l.Kn w1) : LLR (OL l f B0 z0 N T0 SB) l where
 wg := rfl
 ch := rfl
 rk := h.rd _ (by simp)
 ro := h.rd _ (by simp)
 rp := h.rd _ (by simp)
 rb := h.rd _ (by simp)
 rf := h.rd _ (by simp)
 ra := h.rd _ (by simp)
 kn := hkn
theorem st8 {l : LL} {f : Nat → Found} {B0 z0 N T0 : Nat} {SB : Nat → Prop} {b8 gn b14 : Nat} {cs : List Frame} (K : (Hw l f B0 z0 N T0 SB b8 gn b14 cs).Ok) (k : LLR (OL l f B0 z0 N T0 SB) l) (hm : l.m = 8) (hb : b14 = l.Bf) : St7 (Hw l f B0 z0 N T0 SB b8 gn b14 cs) l b8 gn b14 cs :=
 ⟨K.toOk0, rfl, rfl, rfl, rfl, hm, by show 8 < 9223372036854775807; omega, hb, k.rk, k.rp, fun w hc => hc.2, fun w hSh => K.head _ _ hSh (VQ rfl k hSh hSh.2.2.2), fun T g w hT hw => ⟨T, hT, hw⟩⟩
theorem WK {z0 N T0 : Nat} {wkn : Nat} (C : DN SB w0 A n c l) (h : At9 SB w0 o bud (wkn : Int) l M w T b4 b6 b8 b12 b14 gp gn gf As cz Bs dz Ch bk) (hM : ∀ k, M k → k < w.heap.size ∧ ¬ SB k) (hN : N < 2147483648) (hz : z0 < N) (hwk : wkn ≤ 64) {w1 : World}
  (hS : (Hw (l8 w Ch bk b4 b12 b6 b14 gf gp o bud As cz l) (Br o bud l) (w.heap.size + 1) z0 N T0 SB b8 gn b14 cs).Sh w1) :
  (Hw (l8 w Ch bk b4 b12 b6 b14 gf gp o bud As cz l) (Br o bud l) (w.heap.size + 1) z0 N T0 SB b8 gn b14 cs).Spawns wkn (G (b7.at ((⟨T, []⟩ : Act).put (some 16) (.pointer (some ⟨w.heap.size, 0, none⟩))) (.inRegion Dh [] :: [.code s10])) cs) w1 := by
 have K := ok8 C h hM (z0 := z0) (N := N) (T0 := T0) (cs := cs) hN hz
 have H := st8 K (AaM (Yq C h hM) (O6 C h hM)) rfl rfl
 rw [Cfg.Mt]
 have hf := (Hr h.size).put (d := 16) (by omega) (.pointer (some ⟨w.heap.size, 0, none⟩))
 obtain ⟨s15, s3, s4, s6, s8, s9, s12, s13, s14, -⟩ := h.has
 refine Az (ρ := upd (fun i => T.getD i undef) 16 (.pointer (some ⟨w.heap.size, 0, none⟩))) mk7 (fun a w => stepG_region_end) ?_ _ w1 hf hS
 exact YG (wk := wkn) H hwk ⟨s3, s8, s13, s14, s12, s15, rfl, s4, s6, trivial⟩
end
end Go.Proofs.YtkkmokodaejheaaDoor
