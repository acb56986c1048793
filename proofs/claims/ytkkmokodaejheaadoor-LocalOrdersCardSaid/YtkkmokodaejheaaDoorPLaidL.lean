/- Texts of the proof, merged: Spl, Lin11, Open, OpenS, OpsOpen, LaidL. -/
import Derived.Test.YtkkmokodaejheaaDoorPSxX
import Derived.Test.YtkkmokodaejheaaDoorPReg
import Derived.Deep.Slices
import Derived.Deep.Fields
import Derived.ChangeSame
import Derived.Test.YtkkmokodaejheaaDoorPSxA
import Derived.Test.YtkkmokodaejheaaDoorPStr1
import Derived.Test.YtkkmokodaejheaaDoorRows
import Derived.ChangeVars
import Derived.JoinedOf
import Derived.RowKit
import Derived.RowKitTokens
import Derived.LaidLaws
import Derived.LaidHandle
import Derived.Lib.LaidTab
import Derived.Stop.Joined
import Derived.Stop.LaidErr
set_option linter.unusedVariables false
set_option linter.unusedSimpArgs false
set_option linter.unusedSectionVars false
namespace Go.Proofs.YtkkmokodaejheaaDoor
open Go.RowKit
def kix (l : List Op8) (k r : Nat) : List Nat := (List.range k).filter fun i => decide ((oAt l i).key = (r : Int))
theorem FD (l : List Op8) (k r : Nat) : kix l (k + 1) r = if (oAt l k).key = (r : Int) then kix l k r ++ [k] else kix l k r := by
 unfold kix
 rw [List.range_succ, List.filter_append]
 split
 ·next h => simp [h]
 ·next h => simp [h]
theorem QD (l : List Op8) (k r : Nat) : (kix l k r).length ≤ k := by
 unfold kix
 exact Nat.le_trans (List.length_filter_le ..) (by simp)
abbrev Ci (l : List Op8) (k r : Nat) : Nat := (kix l k r).length
def slC (l : List Op8) (As : Nat → Option Addr) (cs : Nat → Nat) (k : Nat) : Array Value := ((List.range 8).map fun r => Value.slice (As r) (Ci l k r) (cs r)).toArray
def KZ (l : List Op8) (k r : Nat) : List Value := (kix l k r).flatMap fun i => opV (oAt l i)
def NR (l : List Op8) (k r : Nat) : List Value := Ba ((kix l k r).map fun i : Nat => (i : Int))
def pE (l : List Op8) (As : Nat → Option Addr) (cs : Nat → Nat) (k r : Nat) : Ent := Row 0 63 8 (As r) (Ci l k r) (cs r) (KZ l k r)
def nE (l : List Op8) (As : Nat → Option Addr) (cs : Nat → Nat) (k r : Nat) : Ent := Row 0 3 1 (As r) (Ci l k r) (cs r) (NR l k r)
theorem EQ {l : List Op8} {As : Nat → Option Addr} {cs : Nat → Nat} {k r : Nat} (hr : r < 8) : (slC l As cs k)[r]? = some (.slice (As r) (Ci l k r) (cs r)) := by simp [slC, hr]
theorem Ai {l : List Op8} {As : Nat → Option Addr} {cs : Nat → Nat} {k r : Nat} {A : Option Addr} {c : Nat} (hr : (oAt l k).key = (r : Int)) : (slC l As cs k).setIfInBounds r (.slice A (Ci l k r + 1) c) = slC l (fun x => if x = r then A else As x) (fun x => if x = r then c else cs x) (k + 1) := by
 apply Array.ext'
 simp only [slC, Array.toList_setIfInBounds]
 refine List.ext_getElem (by simp) (fun i h1 h2 => ?_)
 simp only [List.getElem_set, List.getElem_map, List.getElem_range]
 unfold Ci
 rw [FD]
 by_cases h : r = i
 ·subst h; rw [if_pos hr]; simp
 ·rw [if_neg h, if_neg (Ne.symm h), if_neg (Ne.symm h), if_neg (by rw [hr]; omega)]
theorem Im {l : List Op8} {As : Nat → Option Addr} {cs : Nat → Nat} {k : Nat} (hr : ∀ r : Nat, r < 8 → (oAt l k).key ≠ (r : Int)) : slC l As cs (k + 1) = slC l As cs k := by
 unfold slC Ci
 congr 1
 refine List.map_congr_left fun r h => ?_
 rw [FD, if_neg (hr r (List.mem_range.1 h))]
theorem NL {l : List Op8} {As As' : Nat → Option Addr} {cs cs' : Nat → Nat} {k x : Nat} (hx : (oAt l k).key ≠ (x : Int)) (hA : As' x = As x) (hc : cs' x = cs x) : pE l As' cs' (k + 1) x = pE l As cs k x := by
 unfold pE Ci KZ
 rw [FD, if_neg hx, hA, hc]
theorem NS {l : List Op8} {As As' : Nat → Option Addr} {cs cs' : Nat → Nat} {k x : Nat} (hx : (oAt l k).key ≠ (x : Int)) (hA : As' x = As x) (hc : cs' x = cs x) : nE l As' cs' (k + 1) x = nE l As cs k x := by
 unfold nE Ci NR
 rw [FD, if_neg hx, hA, hc]
theorem Xe {l : List Op8} {As : Nat → Option Addr} {cs : Nat → Nat} {k r : Nat} {A : Option Addr} {c : Nat} (hr : (oAt l k).key = (r : Int)) : pE l (fun x => if x = r then A else As x) (fun x => if x = r then c else cs x) (k + 1) r = Row 0 63 8 A (Ci l k r + 1) c (KZ l k r ++ opV (oAt l k)) := by
 unfold pE Ci KZ
 rw [FD, if_pos hr]
 simp
theorem Xo {l : List Op8} {As : Nat → Option Addr} {cs : Nat → Nat} {k r : Nat} {A : Option Addr} {c : Nat} (hr : (oAt l k).key = (r : Int)) : nE l (fun x => if x = r then A else As x) (fun x => if x = r then c else cs x) (k + 1) r = Row 0 3 1 A (Ci l k r + 1) c (NR l k r ++ [.int .i64 (k : Int)]) := by
 unfold nE Ci NR
 rw [FD, if_pos hr]
 simp [Ba]
def SG (l : List Op8) (w0 : World) (en : Ending) (w' : World) : Prop :=
 ∃ gp gn As cs Bs ds, en = .returned (.tuple #[.slice (some ⟨gp, 0, none⟩) 8 8, .slice (some ⟨gn, 0, none⟩) 8 8]) ∧ Inv (fun _ => False) w0 w' [AY 8 (pE l As cs l.length), AY 8 (nE l Bs ds l.length), B gp 22 (slC l As cs l.length), B gn 24 (slC l Bs ds l.length)]
theorem Y7 {w : World} {g t : Nat} (o : Op8) (h : Blk w g t #[.int .i64 o.proc, .int .i64 o.key, .int .i64 o.kind, .int .i64 o.a, .int .i64 o.b, .int .i64 o.res, .int .i64 o.call, .int .i64 o.ret]) : ∀ (j : Nat) (u : Value), (opV o)[j]? = some u → w.cell? ⟨g, 0 + j, none⟩ = some u := fun j u hj => by
 rw [Nat.zero_add, h.cell, ← hj]
 simp [opV]
theorem Ee {S : Nat → Prop} {w0 w : World} {a b : Nat} {x y : Array Value} {H : List Ent} (h : Inv S w0 w (B a 3 x :: B b 63 y :: H)) : Inv S w0 w (B b 63 y :: B a 3 x :: H) := h.sw0
theorem Am {S : Nat → Prop} {w0 w : World} {l : List Op8} {k kn gp gn : Nat} {As Bs : Nat → Option Addr} {cs ds : Nat → Nat} {A A' : Option Addr} {c c' : Nat} {x y : Array Value} {o : Op8} {z : Ent} (h8 : kn < 8) (hkey : (oAt l k).key = (kn : Int)) (hop : oAt l k = o)
  (h : Inv S w0 w [B gp 22 x, B gn 24 y, z, Row 0 63 8 A (Ci l k kn + 1) c (KZ l k kn ++ opV o), Row 0 3 1 A' (Ci l k kn + 1) c' (NR l k kn ++ [.int .i64 (k : Int)]), AY 8 (fun j => if j = kn then Ent.nil else nE l Bs ds k j), AY 8 (fun j => if j = kn then Ent.nil else pE l As cs k j)]) :
  Inv S w0 w [AY 8 (pE l (fun x => if x = kn then A else As x) (fun x => if x = kn then c else cs x) (k + 1)), AY 8 (nE l (fun x => if x = kn then A' else Bs x) (fun x => if x = kn then c' else ds x) (k + 1)), B gp 22 x, B gn 24 y] := by
 have h1 : Inv S w0 w [AY 8 (nE l (fun x => if x = kn then A' else Bs x) (fun x => if x = kn then c' else ds x) (k + 1)), B gp 22 x, B gn 24 y, z, Row 0 63 8 A (Ci l k kn + 1) c (KZ l k kn ++ opV o), AY 8 (fun j => if j = kn then Ent.nil else pE l As cs k j)] := by
  refine (Inv.many_in (H := [_, _, _, _, _]) ((h.pull 5 rfl).pull 5 rfl) h8 (by simp)).many_congr fun i hi => ?_
  by_cases hik : i = kn
  ·subst hik; rw [Xo hkey]; simp
  ·simp only [if_neg hik]
   rw [NS (As := Bs) (cs := ds) (by rw [hkey]; omega) (if_neg hik) (if_neg hik)]
 refine (Inv.many_in (H := [_, _, _, _]) ((h1.pull 5 rfl).pull 5 rfl) h8 (by simp)).many_congr (fun i hi => ?_) |>.d4
 by_cases hik : i = kn
 ·subst hik; rw [Xe hkey, hop]; simp
 ·simp only [if_neg hik]
  rw [NL (As := As) (cs := cs) (by rw [hkey]; omega) (if_neg hik) (if_neg hik)]
set_option maxHeartbeats 4000000 in
theorem Ms (A : Option Addr) (n c : Nat) (l : List Op8) (D : Nat → Prop) (w0 : World) (h : BK w0 D (.slice A n c) l) (hb : l.length ≤ 10000) :
  Calls Tryd.prog 10 #[.slice A n c] w0 (SG l w0) := by
 obtain ⟨hn, hc1, hc2⟩ := h.len
 have hI := Inv.start (fun _ => False) w0
 refine Vx Tryd.f10.ntmps Tryd.func10 rfl ?_
 refine Ac (Ab (Vf rfl (Vf rfl (Aa ?_))))
 refine Bt (fun ρ w => ∃ gp gn, Has ρ [(0, .slice A n c), (2, .slice (some ⟨gp, 0, none⟩) 8 8), (3, .slice (some ⟨gn, 0, none⟩) 8 8)] ∧ Inv (fun _ => False) w0 w [B gp 22 (slC l (fun _ => none) (fun _ => 0) 0), B gn 24 (slC l (fun _ => none) (fun _ => 0) 0)]) ?_ ?_
 ·refine BB (by kernel_rfl) ?_
  refine BC (T := []) hI.drew ?_
  intro Sx hSx hXS
  replace hI := hI.drew
  refine T1 0 1 rfl ?_ ?_
  ·refine Ni (n := 8) (by_ := 24) (z := .slice none 0 0) hI rfl rfl rfl rfl rfl rfl Tryd.underlying39 (by kernel_rfl) rfl (by omega) (by omega) ?_
   clear hI; rintro b6 w - - hI
   refine Aa ⟨hXS _ hI.d0, ?_⟩
   refine Tn 2 (hXS _ hI.d0) rfl (V2 1 rfl ?_)
   refine Ni (n := 8) (by_ := 24) (z := .slice none 0 0) hI rfl rfl rfl rfl rfl rfl Tryd.underlying31 (by kernel_rfl) rfl (by omega) (by omega) ?_
   clear hI; rintro b7 w - - hI
   refine Aa ⟨hXS _ hI.d0.d0, ?_⟩
   refine Tn 3 (hXS _ hI.d0.d0) rfl (Av (by kernel_rfl) ?_)
   exact ⟨_, _, ⟨rfl, rfl, rfl, trivial⟩, hI.sw0⟩
  ·refine Ni (n := 8) (by_ := 24) (z := .slice none 0 0) hI rfl rfl rfl rfl rfl rfl Tryd.underlying31 (by kernel_rfl) rfl (by omega) (by omega) ?_
   clear hI; rintro b7 w - - hI
   refine Aa ⟨hXS _ hI.d0, ?_⟩
   refine V2 0 rfl ?_
   refine Ni (n := 8) (by_ := 24) (z := .slice none 0 0) hI rfl rfl rfl rfl rfl rfl Tryd.underlying39 (by kernel_rfl) rfl (by omega) (by omega) ?_
   clear hI; rintro b6 w - - hI
   refine Aa ⟨hXS _ hI.d0.d0, ?_⟩
   refine Tn 2 (hXS _ hI.d0.d0) rfl (Tn 3 (hXS _ hI.d0.d0) rfl (Av (by kernel_rfl) ?_))
   exact ⟨_, _, ⟨rfl, rfl, rfl, trivial⟩, hI⟩
 clear hI
 rintro ρ w ⟨gp, gn, hH, hI⟩
 obtain ⟨σ, rfl⟩ := hH.open
 refine Ac (Ac (Ab (V8 rfl (Vi rfl Tryd.underlying22 rfl (V0 rfl (Aa ?_))))))
 replace hI : Inv (fun _ => False) w0 w [AY 8 (pE l (fun _ => none) (fun _ => 0) 0), AY 8 (nE l (fun _ => none) (fun _ => 0) 0), B gp 22 (slC l (fun _ => none) (fun _ => 0) 0), B gn 24 (slC l (fun _ => none) (fun _ => 0) 0)] := by
  have h1 : Inv (fun _ => False) w0 w [AY 8 (nE l (fun _ => none) (fun _ => 0) 0), B gp 22 (slC l (fun _ => none) (fun _ => 0) 0), B gn 24 (slC l (fun _ => none) (fun _ => 0) 0)] :=
   hI.fresh (Pure.refl _) (AY.ok (fun i _ => Row.nil _ 0 3 1) (fun i j _ _ _ k hk => by simp [nE, Row] at hk)) (fun k hk => by obtain ⟨i, _, hk⟩ := hk; simp [nE, Row] at hk)
  exact h1.fresh (Pure.refl _) (AY.ok (fun i _ => Row.nil _ 0 63 8) (fun i j _ _ _ k hk => by simp [pE, Row] at hk)) (fun k hk => by obtain ⟨i, _, hk⟩ := hk; simp [pE, Row] at hk)
 refine Al ?_
 refine Ff (fun ρ w => ∃ (k : Nat) (As : Nat → Option Addr) (cs : Nat → Nat) (Bs : Nat → Option Addr) (ds : Nat → Nat), k ≤ n ∧ Has ρ [(10, .int .i64 (k : Int)), (9, .int .i64 (n : Int)), (8, .slice A n c), (2, .slice (some ⟨gp, 0, none⟩) 8 8), (3, .slice (some ⟨gn, 0, none⟩) 8 8)] ∧
  Inv (fun _ => False) w0 w [AY 8 (pE l As cs k), AY 8 (nE l Bs ds k), B gp 22 (slC l As cs k), B gn 24 (slC l Bs ds k)]) (fun ρ _ => n - cnt (ρ 10))
  ⟨0, _, _, _, _, by omega, ⟨rfl, rfl, rfl, rfl, rfl, trivial⟩, hI⟩ ?_
 clear hI
 rintro ρ w ⟨k, As, cs, Bs, ds, hk, hH, hI⟩
 obtain ⟨σ, rfl⟩ := hH.open
 by_cases hkn : k < n
 rotate_left
 ·obtain rfl : k = n := by omega
  refine Ac (Ab (Vo rfl (Aa (Ac (Ad false rfl ?_)))))
  refine BG ?_
  refine Ac (Ab (V8 rfl (V8 rfl (Vf rfl (Vf rfl (Aa ?_))))))
  refine Aj ?_
  refine DV 2 3 (.inr rfl) rfl ?_
  exact ⟨gp, gn, As, cs, Bs, ds, rfl, by rw [← hn]; exact hI⟩
 obtain ⟨bA, oA, rfl, hoc⟩ := h.at (show k < l.length by omega)
 generalize hop : oAt l k = op at hoc
 obtain ⟨proc, key, kind, a, b, res, call, ret⟩ := op
 have hkey : (oAt l k).key = key := by rw [hop]
 refine Ac (Ab (Vt rfl (Aa (Ac (Ad true rfl (Ah (Ac (Al (Ac (Ab (V0 rfl (Th 8 rfl Tryd.underlying22 rfl (Tj 8 rfl (by rfl) (fun k u hk => hI.oldp (hoc k u hk)) ?_)))))))))))))
 refine Vw (.agg #[.int .i64 0, .int .i64 0, .int .i64 0, .int .i64 0, .int .i64 0, .int .i64 0, .int .i64 0, .int .i64 0]) (#[.int .i64 0, .int .i64 0, .int .i64 0, .int .i64 0, .int .i64 0, .int .i64 0, .int .i64 0, .int .i64 0]) hI rfl ?_
 clear hI; rintro b5 w - - hI
 refine V9 rfl (Vz 8 (#[_, _, _, _, _, _, _, _]) (.agg _) hI rfl ?_)
 clear hI; intro w hI
 refine Aa ?_
 simp only [opV] at hI
 by_cases h0 : 0 ≤ key
 rotate_left
 ·refine Ac (Ab (V7 1 rfl (V3 (.int .i64 _) rfl (hI.c0 rfl) (Tg rfl (V5 rfl (V4 rfl (V4 rfl (V4 rfl (Vd rfl (Aa (Ad false rfl (Ah (Ab ?_)))))))))))))
  refine Vb rfl (V0 rfl (Aa ?_))
  refine ⟨⟨k + 1, As, cs, Bs, ds, by omega, ⟨rfl, rfl, rfl, rfl, rfl, trivial⟩, ?_⟩, by show n - ((k + 1 : Nat) : Int).toNat < n - (k : Int).toNat; omega⟩
  have hne : ∀ r : Nat, r < 8 → (oAt l k).key ≠ (r : Int) := fun r _ => by rw [hkey]; omega
  rw [Im hne, Im hne]
  exact (((hI.d0.many_congr fun i hi => (NL (hne i hi) rfl rfl).symm).sw0).many_congr fun i hi => (NS (hne i hi) rfl rfl).symm).sw0
 by_cases h8 : key < 8
 rotate_left
 ·refine Ac (Ab (V7 1 rfl (V3 (.int .i64 _) rfl (hI.c0 rfl) (Tc rfl (V5 rfl (V7 1 rfl (V3 (.int .i64 _) rfl (hI.c0 rfl) (Vo rfl (Vg rfl (Aa (Ad false rfl (Ah (Ab ?_)))))))))))))
  refine Vb rfl (V0 rfl (Aa ?_))
  refine ⟨⟨k + 1, As, cs, Bs, ds, by omega, ⟨rfl, rfl, rfl, rfl, rfl, trivial⟩, ?_⟩, by show n - ((k + 1 : Nat) : Int).toNat < n - (k : Int).toNat; omega⟩
  have hne : ∀ r : Nat, r < 8 → (oAt l k).key ≠ (r : Int) := fun r _ => by rw [hkey]; omega
  rw [Im hne, Im hne]
  exact (((hI.d0.many_congr fun i hi => (NL (hne i hi) rfl rfl).symm).sw0).many_congr fun i hi => (NS (hne i hi) rfl rfl).symm).sw0
 obtain ⟨kn, rfl⟩ : ∃ kn : Nat, key = (kn : Int) := ⟨key.toNat, by omega⟩
 have hkn8 : kn < 8 := by omega
 have hlk : Ci l k kn ≤ k := QD ..
 refine Ac (Ab (V7 1 rfl (V3 (.int .i64 _) rfl (hI.c0 rfl) (Tc rfl (V5 rfl (V7 1 rfl (V3 (.int .i64 _) rfl (hI.c0 rfl) (Vt rfl (Vg rfl (Aa (Ad true rfl ?_)))))))))))
 replace hI := (hI.sw0.many_out hkn8).pull 3 rfl
 replace hI := Inv.many_out (H := [_, _, _, _, _]) hI hkn8
 replace hI : Inv (fun _ => False) w0 w [B gp 22 (slC l As cs k), B gn 24 (slC l Bs ds k), B b5 63 (opV (oAt l k)).toArray, Row 0 63 8 (As kn) (Ci l k kn) (cs kn) (KZ l k kn), Row 0 3 1 (Bs kn) (Ci l k kn) (ds kn) (NR l k kn), AY 8 (fun j => if j = kn then Ent.nil else nE l Bs ds k j), AY 8 (fun j => if j = kn then Ent.nil else pE l As cs k j)] := by
  rw [hop]
  exact (((hI.pull 2 rfl).pull 4 rfl).pull 6 rfl).pull 6 rfl
 have hdec : n - ((k + 1 : Nat) : Int).toNat < n - (k : Int).toNat := by omega
 have hk : k + 1 ≤ n := by omega
 have hgp := EQ (l := l) (As := As) (cs := cs) (k := k) hkn8
 have hgn := EQ (l := l) (As := Bs) (cs := ds) (k := k) hkn8
 rw [hop] at hI
 simp only [opV] at hI
 have hagg := fun (W : World) (hh : Blk W b5 63 #[.int .i64 proc, .int .i64 (kn : Int), .int .i64 kind, .int .i64 a, .int .i64 b, .int .i64 res, .int .i64 call, .int .i64 ret]) => Y7 (⟨proc, (kn : Int), kind, a, b, res, call, ret⟩ : Op8) hh
 refine BB (by kernel_rfl) ?_
 refine BC (T := [24, 25]) hI.d0.d0.d1.d1.drew ?_
 intro Sx hSx hXS
 replace hI := hI.drew
 refine Vv 0 (hXS _ hI.d0.d0.d1.d1) rfl (Vq 1 1 (hXS _ hI.d0.d0.d1.d1) rfl (Vh 2 (.int .i64 _) (hXS _ hI.d0.d0.d1.d1) rfl (fun W hW => (hSx W hW).c0 rfl) (Vv 3 (hXS _ hI.d0.d0.d1.d1) rfl (Vq 4 1 (hXS _ hI.d0.d0.d1.d1) rfl (Vh 5 (.int .i64 _) (hXS _ hI.d0.d0.d1.d1) rfl (fun W hW => (hSx W hW).c0 rfl) (Vv 6 (hXS _ hI.d0.d0.d1.d1) rfl (Vq 7 1 (hXS _ hI.d0.d0.d1.d1) rfl (Vh 8 (.int .i64 _) (hXS _ hI.d0.d0.d1.d1) rfl (fun W hW => (hSx W hW).c0 rfl) (Vl 9 (hXS _ hI.d0.d0.d1.d1) rfl Tryd.underlying39 rfl ?_)))))))))
 refine Ae 11 rfl rfl (by kernel_rfl) (hXS _ hI.d0.d0.d1.d1) rfl (fun W hW => have hI := hSx W hW; (by exact LU (n := 8) rfl (by kernel_rfl) (by kernel_rfl) rfl (by rfl) (hagg _ hI.g0))) ?_
 refine Vv 14 (hXS _ hI.d0.d0.d1.d1) rfl (Vq 15 1 (hXS _ hI.d0.d0.d1.d1) rfl (Vh 16 (.int .i64 _) (hXS _ hI.d0.d0.d1.d1) rfl (fun W hW => (hSx W hW).c0 rfl) (Vl 17 (hXS _ hI.d0.d0.d1.d1) rfl Tryd.underlying31 rfl (Vs 19 (hXS _ hI.d0.d0.d1.d1) rfl ?_))))
 refine XR 10 12 18 20 rfl rfl rfl rfl (by kernel_rfl) rfl rfl rfl rfl ?_ ?_ ?_ ?_
 ·refine V3 (.slice _ _ _) rfl (hI.c0 hgp) ?_
  refine Aa ⟨hXS _ hI.d0.d0.d1.d1, ?_⟩
  refine FI 12 18 20 rfl rfl rfl (by kernel_rfl) rfl rfl rfl ?_ ?_ ?_
  ·refine Te 63 8 [opV ⟨proc, (kn : Int), kind, a, b, res, call, ret⟩] hI rfl Tryd.underlying22 rfl (by simp [opV]) ?_
   clear hI; rintro b35 w - - hI
   refine Aa ⟨hXS _ hI.d0.d0.d0.d1.d1, ?_⟩
   refine FI 13 18 20 rfl rfl rfl (by kernel_rfl) rfl rfl rfl ?_ ?_ ?_
   ·refine EY (z := .agg #[.int .i64 0, .int .i64 0, .int .i64 0, .int .i64 0, .int .i64 0, .int .i64 0, .int .i64 0, .int .i64 0]) (by_ := 64) hI rfl rfl rfl rfl rfl rfl Tryd.underlying22 (by kernel_rfl) rfl (by omega) (by rfl) hI.lit0 (by rfl) (by omega) (by omega) (by exact Nat.zero_le _) ?_
    clear hI; rintro A36 c36 w hA36 hc36 hI
    replace hI := hI.d0
    refine Aa ⟨hXS _ hI.d0.d0.d1.d1, ?_⟩
    refine T1 18 20 rfl ?_ ?_
    ·refine V3 (.slice _ _ _) rfl (hI.c1 hgn) ?_
     refine Aa ⟨hXS _ hI.d0.d0.d1.d1, ?_⟩
     refine V2 20 rfl ?_
     refine Vm [(0, .int .i64 _)] [_] [.int .i64 0] [0] hI rfl Tryd.underlying24 (fun _ => by kernel_rfl) ?_
     clear hI; rintro b43 w - - hI
     try replace hI := Ee hI
     refine Aa ⟨hXS _ hI.d0.d0.d0.d1.d1, ?_⟩
     refine V2 21 rfl ?_
     refine Ve 8 (.int .i64 0) hI rfl Tryd.underlying24 rfl (by rfl) hI.lit0 (by rfl) (Nat.zero_le _) ?_
     clear hI; rintro A44 c44 w hA44 hc44 hI
     replace hI := hI.d0
     refine Aa ⟨hXS _ hI.d0.d0.d1.d1, ?_⟩
     refine Vl 22 (hXS _ hI.d0.d0.d1.d1) rfl Tryd.underlying39 rfl (V2 23 rfl ?_)
     refine Vp kn (.slice _ _ _) hI rfl (by simp [Nat.blt, slC]; omega) rfl ?_
     rw [Ai hkey]
     clear hI; intro w hI
     refine Aa ⟨hXS _ hI.d0.d0.d1.d1, ?_⟩
     refine BV (by kernel_rfl) ?_
     clear hXS hSx
     refine Cm (fun _ => True) [] ?_
     refine Ae 24 rfl rfl (by kernel_rfl) trivial rfl (fun W _ => (by exact Bz rfl Tryd.underlying31 (by kernel_rfl) rfl rfl rfl (by omega))) ?_
     refine V2 25 rfl ?_
     refine Vr kn (.slice _ _ _) hI rfl (by simp [Nat.blt, slC]; omega) rfl ?_
     rw [Ai hkey]
     clear hI; intro w hI
     refine Aa ⟨trivial, ?_⟩
     refine Av (by kernel_rfl) (Ab (Vb rfl (V0 rfl (Aa ?_))))
     exact ⟨⟨k + 1, _, _, _, _, hk, ⟨rfl, rfl, rfl, rfl, rfl, trivial⟩, Am hkn8 hkey hop hI⟩, hdec⟩
    ·refine Vm [(0, .int .i64 _)] [_] [.int .i64 0] [0] hI rfl Tryd.underlying24 (fun _ => by kernel_rfl) ?_
     clear hI; rintro b43 w - - hI
     try replace hI := Ee hI
     refine Aa ⟨hXS _ hI.d0.d0.d0.d1.d1, ?_⟩
     refine V2 18 rfl ?_
     refine V3 (.slice _ _ _) rfl (hI.c2 hgn) ?_
     refine Aa ⟨hXS _ hI.d0.d0.d0.d1.d1, ?_⟩
     refine V2 21 rfl ?_
     refine Ve 8 (.int .i64 0) hI rfl Tryd.underlying24 rfl (by rfl) hI.lit0 (by rfl) (Nat.zero_le _) ?_
     clear hI; rintro A44 c44 w hA44 hc44 hI
     replace hI := hI.d0
     refine Aa ⟨hXS _ hI.d0.d0.d1.d1, ?_⟩
     refine Vl 22 (hXS _ hI.d0.d0.d1.d1) rfl Tryd.underlying39 rfl (V2 23 rfl ?_)
     refine Vp kn (.slice _ _ _) hI rfl (by simp [Nat.blt, slC]; omega) rfl ?_
     rw [Ai hkey]
     clear hI; intro w hI
     refine Aa ⟨hXS _ hI.d0.d0.d1.d1, ?_⟩
     refine BV (by kernel_rfl) ?_
     clear hXS hSx
     refine Cm (fun _ => True) [] ?_
     refine Ae 24 rfl rfl (by kernel_rfl) trivial rfl (fun W _ => (by exact Bz rfl Tryd.underlying31 (by kernel_rfl) rfl rfl rfl (by omega))) ?_
     refine V2 25 rfl ?_
     refine Vr kn (.slice _ _ _) hI rfl (by simp [Nat.blt, slC]; omega) rfl ?_
     rw [Ai hkey]
     clear hI; intro w hI
     refine Aa ⟨trivial, ?_⟩
     refine Av (by kernel_rfl) (Ab (Vb rfl (V0 rfl (Aa ?_))))
     exact ⟨⟨k + 1, _, _, _, _, hk, ⟨rfl, rfl, rfl, rfl, rfl, trivial⟩, Am hkn8 hkey hop hI⟩, hdec⟩
   ·refine V3 (.slice _ _ _) rfl (hI.c2 hgn) ?_
    refine Aa ⟨hXS _ hI.d0.d0.d0.d1.d1, ?_⟩
    refine T1 13 20 rfl ?_ ?_
    ·refine EY (z := .agg #[.int .i64 0, .int .i64 0, .int .i64 0, .int .i64 0, .int .i64 0, .int .i64 0, .int .i64 0, .int .i64 0]) (by_ := 64) hI rfl rfl rfl rfl rfl rfl Tryd.underlying22 (by kernel_rfl) rfl (by omega) (by rfl) hI.lit0 (by rfl) (by omega) (by omega) (by exact Nat.zero_le _) ?_
     clear hI; rintro A36 c36 w hA36 hc36 hI
     replace hI := hI.d0
     refine Aa ⟨hXS _ hI.d0.d0.d1.d1, ?_⟩
     refine V2 20 rfl ?_
     refine Vm [(0, .int .i64 _)] [_] [.int .i64 0] [0] hI rfl Tryd.underlying24 (fun _ => by kernel_rfl) ?_
     clear hI; rintro b43 w - - hI
     try replace hI := Ee hI
     refine Aa ⟨hXS _ hI.d0.d0.d0.d1.d1, ?_⟩
     refine V2 21 rfl ?_
     refine Ve 8 (.int .i64 0) hI rfl Tryd.underlying24 rfl (by rfl) hI.lit0 (by rfl) (Nat.zero_le _) ?_
     clear hI; rintro A44 c44 w hA44 hc44 hI
     replace hI := hI.d0
     refine Aa ⟨hXS _ hI.d0.d0.d1.d1, ?_⟩
     refine Vl 22 (hXS _ hI.d0.d0.d1.d1) rfl Tryd.underlying39 rfl (V2 23 rfl ?_)
     refine Vp kn (.slice _ _ _) hI rfl (by simp [Nat.blt, slC]; omega) rfl ?_
     rw [Ai hkey]
     clear hI; intro w hI
     refine Aa ⟨hXS _ hI.d0.d0.d1.d1, ?_⟩
     refine BV (by kernel_rfl) ?_
     clear hXS hSx
     refine Cm (fun _ => True) [] ?_
     refine Ae 24 rfl rfl (by kernel_rfl) trivial rfl (fun W _ => (by exact Bz rfl Tryd.underlying31 (by kernel_rfl) rfl rfl rfl (by omega))) ?_
     refine V2 25 rfl ?_
     refine Vr kn (.slice _ _ _) hI rfl (by simp [Nat.blt, slC]; omega) rfl ?_
     rw [Ai hkey]
     clear hI; intro w hI
     refine Aa ⟨trivial, ?_⟩
     refine Av (by kernel_rfl) (Ab (Vb rfl (V0 rfl (Aa ?_))))
     exact ⟨⟨k + 1, _, _, _, _, hk, ⟨rfl, rfl, rfl, rfl, rfl, trivial⟩, Am hkn8 hkey hop hI⟩, hdec⟩
    ·refine Vm [(0, .int .i64 _)] [_] [.int .i64 0] [0] hI rfl Tryd.underlying24 (fun _ => by kernel_rfl) ?_
     clear hI; rintro b43 w - - hI
     try replace hI := Ee hI
     refine Aa ⟨hXS _ hI.d0.d0.d0.d0.d1.d1, ?_⟩
     refine V2 13 rfl ?_
     refine Ve 64 (.agg #[.int .i64 0, .int .i64 0, .int .i64 0, .int .i64 0, .int .i64 0, .int .i64 0, .int .i64 0, .int .i64 0]) hI rfl Tryd.underlying22 rfl (by rfl) hI.lit0 (by rfl) (Nat.zero_le _) ?_
     clear hI; rintro A36 c36 w hA36 hc36 hI
     replace hI := hI.d0
     refine Aa ⟨hXS _ hI.d0.d0.d0.d1.d1, ?_⟩
     refine V2 21 rfl ?_
     refine Ve 8 (.int .i64 0) hI rfl Tryd.underlying24 rfl (by rfl) hI.lit0 (by rfl) (Nat.zero_le _) ?_
     clear hI; rintro A44 c44 w hA44 hc44 hI
     replace hI := hI.d0
     refine Aa ⟨hXS _ hI.d0.d0.d1.d1, ?_⟩
     refine Vl 22 (hXS _ hI.d0.d0.d1.d1) rfl Tryd.underlying39 rfl (V2 23 rfl ?_)
     refine Vp kn (.slice _ _ _) hI rfl (by simp [Nat.blt, slC]; omega) rfl ?_
     rw [Ai hkey]
     clear hI; intro w hI
     refine Aa ⟨hXS _ hI.d0.d0.d1.d1, ?_⟩
     refine BV (by kernel_rfl) ?_
     clear hXS hSx
     refine Cm (fun _ => True) [] ?_
     refine Ae 24 rfl rfl (by kernel_rfl) trivial rfl (fun W _ => (by exact Bz rfl Tryd.underlying31 (by kernel_rfl) rfl rfl rfl (by omega))) ?_
     refine V2 25 rfl ?_
     refine Vr kn (.slice _ _ _) hI rfl (by simp [Nat.blt, slC]; omega) rfl ?_
     rw [Ai hkey]
     clear hI; intro w hI
     refine Aa ⟨trivial, ?_⟩
     refine Av (by kernel_rfl) (Ab (Vb rfl (V0 rfl (Aa ?_))))
     exact ⟨⟨k + 1, _, _, _, _, hk, ⟨rfl, rfl, rfl, rfl, rfl, trivial⟩, Am hkn8 hkey hop hI⟩, hdec⟩
   ·refine Vm [(0, .int .i64 _)] [_] [.int .i64 0] [0] hI rfl Tryd.underlying24 (fun _ => by kernel_rfl) ?_
    clear hI; rintro b43 w - - hI
    try replace hI := Ee hI
    refine Aa ⟨hXS _ hI.d0.d0.d0.d0.d1.d1, ?_⟩
    refine T1 13 18 rfl ?_ ?_
    ·refine Ve 64 (.agg #[.int .i64 0, .int .i64 0, .int .i64 0, .int .i64 0, .int .i64 0, .int .i64 0, .int .i64 0, .int .i64 0]) hI rfl Tryd.underlying22 rfl (by rfl) hI.lit0 (by rfl) (Nat.zero_le _) ?_
     clear hI; rintro A36 c36 w hA36 hc36 hI
     replace hI := hI.d0
     refine Aa ⟨hXS _ hI.d0.d0.d0.d1.d1, ?_⟩
     refine V2 18 rfl ?_
     refine V3 (.slice _ _ _) rfl (hI.c2 hgn) ?_
     refine Aa ⟨hXS _ hI.d0.d0.d0.d1.d1, ?_⟩
     refine V2 21 rfl ?_
     refine Ve 8 (.int .i64 0) hI rfl Tryd.underlying24 rfl (by rfl) hI.lit0 (by rfl) (Nat.zero_le _) ?_
     clear hI; rintro A44 c44 w hA44 hc44 hI
     replace hI := hI.d0
     refine Aa ⟨hXS _ hI.d0.d0.d1.d1, ?_⟩
     refine Vl 22 (hXS _ hI.d0.d0.d1.d1) rfl Tryd.underlying39 rfl (V2 23 rfl ?_)
     refine Vp kn (.slice _ _ _) hI rfl (by simp [Nat.blt, slC]; omega) rfl ?_
     rw [Ai hkey]
     clear hI; intro w hI
     refine Aa ⟨hXS _ hI.d0.d0.d1.d1, ?_⟩
     refine BV (by kernel_rfl) ?_
     clear hXS hSx
     refine Cm (fun _ => True) [] ?_
     refine Ae 24 rfl rfl (by kernel_rfl) trivial rfl (fun W _ => (by exact Bz rfl Tryd.underlying31 (by kernel_rfl) rfl rfl rfl (by omega))) ?_
     refine V2 25 rfl ?_
     refine Vr kn (.slice _ _ _) hI rfl (by simp [Nat.blt, slC]; omega) rfl ?_
     rw [Ai hkey]
     clear hI; intro w hI
     refine Aa ⟨trivial, ?_⟩
     refine Av (by kernel_rfl) (Ab (Vb rfl (V0 rfl (Aa ?_))))
     exact ⟨⟨k + 1, _, _, _, _, hk, ⟨rfl, rfl, rfl, rfl, rfl, trivial⟩, Am hkn8 hkey hop hI⟩, hdec⟩
    ·refine V3 (.slice _ _ _) rfl (hI.c3 hgn) ?_
     refine Aa ⟨hXS _ hI.d0.d0.d0.d0.d1.d1, ?_⟩
     refine V2 13 rfl ?_
     refine Ve 64 (.agg #[.int .i64 0, .int .i64 0, .int .i64 0, .int .i64 0, .int .i64 0, .int .i64 0, .int .i64 0, .int .i64 0]) hI rfl Tryd.underlying22 rfl (by rfl) hI.lit0 (by rfl) (Nat.zero_le _) ?_
     clear hI; rintro A36 c36 w hA36 hc36 hI
     replace hI := hI.d0
     refine Aa ⟨hXS _ hI.d0.d0.d0.d1.d1, ?_⟩
     refine V2 21 rfl ?_
     refine Ve 8 (.int .i64 0) hI rfl Tryd.underlying24 rfl (by rfl) hI.lit0 (by rfl) (Nat.zero_le _) ?_
     clear hI; rintro A44 c44 w hA44 hc44 hI
     replace hI := hI.d0
     refine Aa ⟨hXS _ hI.d0.d0.d1.d1, ?_⟩
     refine Vl 22 (hXS _ hI.d0.d0.d1.d1) rfl Tryd.underlying39 rfl (V2 23 rfl ?_)
     refine Vp kn (.slice _ _ _) hI rfl (by simp [Nat.blt, slC]; omega) rfl ?_
     rw [Ai hkey]
     clear hI; intro w hI
     refine Aa ⟨hXS _ hI.d0.d0.d1.d1, ?_⟩
     refine BV (by kernel_rfl) ?_
     clear hXS hSx
     refine Cm (fun _ => True) [] ?_
     refine Ae 24 rfl rfl (by kernel_rfl) trivial rfl (fun W _ => (by exact Bz rfl Tryd.underlying31 (by kernel_rfl) rfl rfl rfl (by omega))) ?_
     refine V2 25 rfl ?_
     refine Vr kn (.slice _ _ _) hI rfl (by simp [Nat.blt, slC]; omega) rfl ?_
     rw [Ai hkey]
     clear hI; intro w hI
     refine Aa ⟨trivial, ?_⟩
     refine Av (by kernel_rfl) (Ab (Vb rfl (V0 rfl (Aa ?_))))
     exact ⟨⟨k + 1, _, _, _, _, hk, ⟨rfl, rfl, rfl, rfl, rfl, trivial⟩, Am hkn8 hkey hop hI⟩, hdec⟩
  ·refine V3 (.slice _ _ _) rfl (hI.c1 hgn) ?_
   refine Aa ⟨hXS _ hI.d0.d0.d1.d1, ?_⟩
   refine T1 12 20 rfl ?_ ?_
   ·refine Te 63 8 [opV ⟨proc, (kn : Int), kind, a, b, res, call, ret⟩] hI rfl Tryd.underlying22 rfl (by simp [opV]) ?_
    clear hI; rintro b35 w - - hI
    refine Aa ⟨hXS _ hI.d0.d0.d0.d1.d1, ?_⟩
    refine T1 13 20 rfl ?_ ?_
    ·refine EY (z := .agg #[.int .i64 0, .int .i64 0, .int .i64 0, .int .i64 0, .int .i64 0, .int .i64 0, .int .i64 0, .int .i64 0]) (by_ := 64) hI rfl rfl rfl rfl rfl rfl Tryd.underlying22 (by kernel_rfl) rfl (by omega) (by rfl) hI.lit0 (by rfl) (by omega) (by omega) (by exact Nat.zero_le _) ?_
     clear hI; rintro A36 c36 w hA36 hc36 hI
     replace hI := hI.d0
     refine Aa ⟨hXS _ hI.d0.d0.d1.d1, ?_⟩
     refine V2 20 rfl ?_
     refine Vm [(0, .int .i64 _)] [_] [.int .i64 0] [0] hI rfl Tryd.underlying24 (fun _ => by kernel_rfl) ?_
     clear hI; rintro b43 w - - hI
     try replace hI := Ee hI
     refine Aa ⟨hXS _ hI.d0.d0.d0.d1.d1, ?_⟩
     refine V2 21 rfl ?_
     refine Ve 8 (.int .i64 0) hI rfl Tryd.underlying24 rfl (by rfl) hI.lit0 (by rfl) (Nat.zero_le _) ?_
     clear hI; rintro A44 c44 w hA44 hc44 hI
     replace hI := hI.d0
     refine Aa ⟨hXS _ hI.d0.d0.d1.d1, ?_⟩
     refine Vl 22 (hXS _ hI.d0.d0.d1.d1) rfl Tryd.underlying39 rfl (V2 23 rfl ?_)
     refine Vp kn (.slice _ _ _) hI rfl (by simp [Nat.blt, slC]; omega) rfl ?_
     rw [Ai hkey]
     clear hI; intro w hI
     refine Aa ⟨hXS _ hI.d0.d0.d1.d1, ?_⟩
     refine BV (by kernel_rfl) ?_
     clear hXS hSx
     refine Cm (fun _ => True) [] ?_
     refine Ae 24 rfl rfl (by kernel_rfl) trivial rfl (fun W _ => (by exact Bz rfl Tryd.underlying31 (by kernel_rfl) rfl rfl rfl (by omega))) ?_
     refine V2 25 rfl ?_
     refine Vr kn (.slice _ _ _) hI rfl (by simp [Nat.blt, slC]; omega) rfl ?_
     rw [Ai hkey]
     clear hI; intro w hI
     refine Aa ⟨trivial, ?_⟩
     refine Av (by kernel_rfl) (Ab (Vb rfl (V0 rfl (Aa ?_))))
     exact ⟨⟨k + 1, _, _, _, _, hk, ⟨rfl, rfl, rfl, rfl, rfl, trivial⟩, Am hkn8 hkey hop hI⟩, hdec⟩
    ·refine Vm [(0, .int .i64 _)] [_] [.int .i64 0] [0] hI rfl Tryd.underlying24 (fun _ => by kernel_rfl) ?_
     clear hI; rintro b43 w - - hI
     try replace hI := Ee hI
     refine Aa ⟨hXS _ hI.d0.d0.d0.d0.d1.d1, ?_⟩
     refine V2 13 rfl ?_
     refine Ve 64 (.agg #[.int .i64 0, .int .i64 0, .int .i64 0, .int .i64 0, .int .i64 0, .int .i64 0, .int .i64 0, .int .i64 0]) hI rfl Tryd.underlying22 rfl (by rfl) hI.lit0 (by rfl) (Nat.zero_le _) ?_
     clear hI; rintro A36 c36 w hA36 hc36 hI
     replace hI := hI.d0
     refine Aa ⟨hXS _ hI.d0.d0.d0.d1.d1, ?_⟩
     refine V2 21 rfl ?_
     refine Ve 8 (.int .i64 0) hI rfl Tryd.underlying24 rfl (by rfl) hI.lit0 (by rfl) (Nat.zero_le _) ?_
     clear hI; rintro A44 c44 w hA44 hc44 hI
     replace hI := hI.d0
     refine Aa ⟨hXS _ hI.d0.d0.d1.d1, ?_⟩
     refine Vl 22 (hXS _ hI.d0.d0.d1.d1) rfl Tryd.underlying39 rfl (V2 23 rfl ?_)
     refine Vp kn (.slice _ _ _) hI rfl (by simp [Nat.blt, slC]; omega) rfl ?_
     rw [Ai hkey]
     clear hI; intro w hI
     refine Aa ⟨hXS _ hI.d0.d0.d1.d1, ?_⟩
     refine BV (by kernel_rfl) ?_
     clear hXS hSx
     refine Cm (fun _ => True) [] ?_
     refine Ae 24 rfl rfl (by kernel_rfl) trivial rfl (fun W _ => (by exact Bz rfl Tryd.underlying31 (by kernel_rfl) rfl rfl rfl (by omega))) ?_
     refine V2 25 rfl ?_
     refine Vr kn (.slice _ _ _) hI rfl (by simp [Nat.blt, slC]; omega) rfl ?_
     rw [Ai hkey]
     clear hI; intro w hI
     refine Aa ⟨trivial, ?_⟩
     refine Av (by kernel_rfl) (Ab (Vb rfl (V0 rfl (Aa ?_))))
     exact ⟨⟨k + 1, _, _, _, _, hk, ⟨rfl, rfl, rfl, rfl, rfl, trivial⟩, Am hkn8 hkey hop hI⟩, hdec⟩
   ·refine Vm [(0, .int .i64 _)] [_] [.int .i64 0] [0] hI rfl Tryd.underlying24 (fun _ => by kernel_rfl) ?_
    clear hI; rintro b43 w - - hI
    try replace hI := Ee hI
    refine Aa ⟨hXS _ hI.d0.d0.d0.d1.d1, ?_⟩
    refine V2 12 rfl ?_
    refine Te 63 8 [opV ⟨proc, (kn : Int), kind, a, b, res, call, ret⟩] hI rfl Tryd.underlying22 rfl (by simp [opV]) ?_
    clear hI; rintro b35 w - - hI
    refine Aa ⟨hXS _ hI.d0.d0.d0.d0.d1.d1, ?_⟩
    refine V2 13 rfl ?_
    refine Ve 64 (.agg #[.int .i64 0, .int .i64 0, .int .i64 0, .int .i64 0, .int .i64 0, .int .i64 0, .int .i64 0, .int .i64 0]) hI rfl Tryd.underlying22 rfl (by rfl) hI.lit0 (by rfl) (Nat.zero_le _) ?_
    clear hI; rintro A36 c36 w hA36 hc36 hI
    replace hI := hI.d0
    refine Aa ⟨hXS _ hI.d0.d0.d0.d1.d1, ?_⟩
    refine V2 21 rfl ?_
    refine Ve 8 (.int .i64 0) hI rfl Tryd.underlying24 rfl (by rfl) hI.lit0 (by rfl) (Nat.zero_le _) ?_
    clear hI; rintro A44 c44 w hA44 hc44 hI
    replace hI := hI.d0
    refine Aa ⟨hXS _ hI.d0.d0.d1.d1, ?_⟩
    refine Vl 22 (hXS _ hI.d0.d0.d1.d1) rfl Tryd.underlying39 rfl (V2 23 rfl ?_)
    refine Vp kn (.slice _ _ _) hI rfl (by simp [Nat.blt, slC]; omega) rfl ?_
    rw [Ai hkey]
    clear hI; intro w hI
    refine Aa ⟨hXS _ hI.d0.d0.d1.d1, ?_⟩
    refine BV (by kernel_rfl) ?_
    clear hXS hSx
    refine Cm (fun _ => True) [] ?_
    refine Ae 24 rfl rfl (by kernel_rfl) trivial rfl (fun W _ => (by exact Bz rfl Tryd.underlying31 (by kernel_rfl) rfl rfl rfl (by omega))) ?_
    refine V2 25 rfl ?_
    refine Vr kn (.slice _ _ _) hI rfl (by simp [Nat.blt, slC]; omega) rfl ?_
    rw [Ai hkey]
    clear hI; intro w hI
    refine Aa ⟨trivial, ?_⟩
    refine Av (by kernel_rfl) (Ab (Vb rfl (V0 rfl (Aa ?_))))
    exact ⟨⟨k + 1, _, _, _, _, hk, ⟨rfl, rfl, rfl, rfl, rfl, trivial⟩, Am hkn8 hkey hop hI⟩, hdec⟩
  ·refine Vm [(0, .int .i64 _)] [_] [.int .i64 0] [0] hI rfl Tryd.underlying24 (fun _ => by kernel_rfl) ?_
   clear hI; rintro b43 w - - hI
   try replace hI := Ee hI
   refine Aa ⟨hXS _ hI.d0.d0.d0.d1.d1, ?_⟩
   refine T1 12 18 rfl ?_ ?_
   ·refine Te 63 8 [opV ⟨proc, (kn : Int), kind, a, b, res, call, ret⟩] hI rfl Tryd.underlying22 rfl (by simp [opV]) ?_
    clear hI; rintro b35 w - - hI
    refine Aa ⟨hXS _ hI.d0.d0.d0.d0.d1.d1, ?_⟩
    refine T1 13 18 rfl ?_ ?_
    ·refine Ve 64 (.agg #[.int .i64 0, .int .i64 0, .int .i64 0, .int .i64 0, .int .i64 0, .int .i64 0, .int .i64 0, .int .i64 0]) hI rfl Tryd.underlying22 rfl (by rfl) hI.lit0 (by rfl) (Nat.zero_le _) ?_
     clear hI; rintro A36 c36 w hA36 hc36 hI
     replace hI := hI.d0
     refine Aa ⟨hXS _ hI.d0.d0.d0.d1.d1, ?_⟩
     refine V2 18 rfl ?_
     refine V3 (.slice _ _ _) rfl (hI.c2 hgn) ?_
     refine Aa ⟨hXS _ hI.d0.d0.d0.d1.d1, ?_⟩
     refine V2 21 rfl ?_
     refine Ve 8 (.int .i64 0) hI rfl Tryd.underlying24 rfl (by rfl) hI.lit0 (by rfl) (Nat.zero_le _) ?_
     clear hI; rintro A44 c44 w hA44 hc44 hI
     replace hI := hI.d0
     refine Aa ⟨hXS _ hI.d0.d0.d1.d1, ?_⟩
     refine Vl 22 (hXS _ hI.d0.d0.d1.d1) rfl Tryd.underlying39 rfl (V2 23 rfl ?_)
     refine Vp kn (.slice _ _ _) hI rfl (by simp [Nat.blt, slC]; omega) rfl ?_
     rw [Ai hkey]
     clear hI; intro w hI
     refine Aa ⟨hXS _ hI.d0.d0.d1.d1, ?_⟩
     refine BV (by kernel_rfl) ?_
     clear hXS hSx
     refine Cm (fun _ => True) [] ?_
     refine Ae 24 rfl rfl (by kernel_rfl) trivial rfl (fun W _ => (by exact Bz rfl Tryd.underlying31 (by kernel_rfl) rfl rfl rfl (by omega))) ?_
     refine V2 25 rfl ?_
     refine Vr kn (.slice _ _ _) hI rfl (by simp [Nat.blt, slC]; omega) rfl ?_
     rw [Ai hkey]
     clear hI; intro w hI
     refine Aa ⟨trivial, ?_⟩
     refine Av (by kernel_rfl) (Ab (Vb rfl (V0 rfl (Aa ?_))))
     exact ⟨⟨k + 1, _, _, _, _, hk, ⟨rfl, rfl, rfl, rfl, rfl, trivial⟩, Am hkn8 hkey hop hI⟩, hdec⟩
    ·refine V3 (.slice _ _ _) rfl (hI.c3 hgn) ?_
     refine Aa ⟨hXS _ hI.d0.d0.d0.d0.d1.d1, ?_⟩
     refine V2 13 rfl ?_
     refine Ve 64 (.agg #[.int .i64 0, .int .i64 0, .int .i64 0, .int .i64 0, .int .i64 0, .int .i64 0, .int .i64 0, .int .i64 0]) hI rfl Tryd.underlying22 rfl (by rfl) hI.lit0 (by rfl) (Nat.zero_le _) ?_
     clear hI; rintro A36 c36 w hA36 hc36 hI
     replace hI := hI.d0
     refine Aa ⟨hXS _ hI.d0.d0.d0.d1.d1, ?_⟩
     refine V2 21 rfl ?_
     refine Ve 8 (.int .i64 0) hI rfl Tryd.underlying24 rfl (by rfl) hI.lit0 (by rfl) (Nat.zero_le _) ?_
     clear hI; rintro A44 c44 w hA44 hc44 hI
     replace hI := hI.d0
     refine Aa ⟨hXS _ hI.d0.d0.d1.d1, ?_⟩
     refine Vl 22 (hXS _ hI.d0.d0.d1.d1) rfl Tryd.underlying39 rfl (V2 23 rfl ?_)
     refine Vp kn (.slice _ _ _) hI rfl (by simp [Nat.blt, slC]; omega) rfl ?_
     rw [Ai hkey]
     clear hI; intro w hI
     refine Aa ⟨hXS _ hI.d0.d0.d1.d1, ?_⟩
     refine BV (by kernel_rfl) ?_
     clear hXS hSx
     refine Cm (fun _ => True) [] ?_
     refine Ae 24 rfl rfl (by kernel_rfl) trivial rfl (fun W _ => (by exact Bz rfl Tryd.underlying31 (by kernel_rfl) rfl rfl rfl (by omega))) ?_
     refine V2 25 rfl ?_
     refine Vr kn (.slice _ _ _) hI rfl (by simp [Nat.blt, slC]; omega) rfl ?_
     rw [Ai hkey]
     clear hI; intro w hI
     refine Aa ⟨trivial, ?_⟩
     refine Av (by kernel_rfl) (Ab (Vb rfl (V0 rfl (Aa ?_))))
     exact ⟨⟨k + 1, _, _, _, _, hk, ⟨rfl, rfl, rfl, rfl, rfl, trivial⟩, Am hkn8 hkey hop hI⟩, hdec⟩
   ·refine V3 (.slice _ _ _) rfl (hI.c2 hgn) ?_
    refine Aa ⟨hXS _ hI.d0.d0.d0.d1.d1, ?_⟩
    refine V2 12 rfl ?_
    refine Te 63 8 [opV ⟨proc, (kn : Int), kind, a, b, res, call, ret⟩] hI rfl Tryd.underlying22 rfl (by simp [opV]) ?_
    clear hI; rintro b35 w - - hI
    refine Aa ⟨hXS _ hI.d0.d0.d0.d0.d1.d1, ?_⟩
    refine V2 13 rfl ?_
    refine Ve 64 (.agg #[.int .i64 0, .int .i64 0, .int .i64 0, .int .i64 0, .int .i64 0, .int .i64 0, .int .i64 0, .int .i64 0]) hI rfl Tryd.underlying22 rfl (by rfl) hI.lit0 (by rfl) (Nat.zero_le _) ?_
    clear hI; rintro A36 c36 w hA36 hc36 hI
    replace hI := hI.d0
    refine Aa ⟨hXS _ hI.d0.d0.d0.d1.d1, ?_⟩
    refine V2 21 rfl ?_
    refine Ve 8 (.int .i64 0) hI rfl Tryd.underlying24 rfl (by rfl) hI.lit0 (by rfl) (Nat.zero_le _) ?_
    clear hI; rintro A44 c44 w hA44 hc44 hI
    replace hI := hI.d0
    refine Aa ⟨hXS _ hI.d0.d0.d1.d1, ?_⟩
    refine Vl 22 (hXS _ hI.d0.d0.d1.d1) rfl Tryd.underlying39 rfl (V2 23 rfl ?_)
    refine Vp kn (.slice _ _ _) hI rfl (by simp [Nat.blt, slC]; omega) rfl ?_
    rw [Ai hkey]
    clear hI; intro w hI
    refine Aa ⟨hXS _ hI.d0.d0.d1.d1, ?_⟩
    refine BV (by kernel_rfl) ?_
    clear hXS hSx
    refine Cm (fun _ => True) [] ?_
    refine Ae 24 rfl rfl (by kernel_rfl) trivial rfl (fun W _ => (by exact Bz rfl Tryd.underlying31 (by kernel_rfl) rfl rfl rfl (by omega))) ?_
    refine V2 25 rfl ?_
    refine Vr kn (.slice _ _ _) hI rfl (by simp [Nat.blt, slC]; omega) rfl ?_
    rw [Ai hkey]
    clear hI; intro w hI
    refine Aa ⟨trivial, ?_⟩
    refine Av (by kernel_rfl) (Ab (Vb rfl (V0 rfl (Aa ?_))))
    exact ⟨⟨k + 1, _, _, _, _, hk, ⟨rfl, rfl, rfl, rfl, rfl, trivial⟩, Am hkn8 hkey hop hI⟩, hdec⟩
 ·refine Te 63 8 [opV ⟨proc, (kn : Int), kind, a, b, res, call, ret⟩] hI rfl Tryd.underlying22 rfl (by simp [opV]) ?_
  clear hI; rintro b35 w - - hI
  refine Aa ⟨hXS _ hI.d0.d0.d0.d1.d1, ?_⟩
  refine FI 10 18 20 rfl rfl rfl (by kernel_rfl) rfl rfl rfl ?_ ?_ ?_
  ·refine V3 (.slice _ _ _) rfl (hI.c1 hgp) ?_
   refine Aa ⟨hXS _ hI.d0.d0.d0.d1.d1, ?_⟩
   refine FI 13 18 20 rfl rfl rfl (by kernel_rfl) rfl rfl rfl ?_ ?_ ?_
   ·refine EY (z := .agg #[.int .i64 0, .int .i64 0, .int .i64 0, .int .i64 0, .int .i64 0, .int .i64 0, .int .i64 0, .int .i64 0]) (by_ := 64) hI rfl rfl rfl rfl rfl rfl Tryd.underlying22 (by kernel_rfl) rfl (by omega) (by rfl) hI.lit0 (by rfl) (by omega) (by omega) (by exact Nat.zero_le _) ?_
    clear hI; rintro A36 c36 w hA36 hc36 hI
    replace hI := hI.d0
    refine Aa ⟨hXS _ hI.d0.d0.d1.d1, ?_⟩
    refine T1 18 20 rfl ?_ ?_
    ·refine V3 (.slice _ _ _) rfl (hI.c1 hgn) ?_
     refine Aa ⟨hXS _ hI.d0.d0.d1.d1, ?_⟩
     refine V2 20 rfl ?_
     refine Vm [(0, .int .i64 _)] [_] [.int .i64 0] [0] hI rfl Tryd.underlying24 (fun _ => by kernel_rfl) ?_
     clear hI; rintro b43 w - - hI
     try replace hI := Ee hI
     refine Aa ⟨hXS _ hI.d0.d0.d0.d1.d1, ?_⟩
     refine V2 21 rfl ?_
     refine Ve 8 (.int .i64 0) hI rfl Tryd.underlying24 rfl (by rfl) hI.lit0 (by rfl) (Nat.zero_le _) ?_
     clear hI; rintro A44 c44 w hA44 hc44 hI
     replace hI := hI.d0
     refine Aa ⟨hXS _ hI.d0.d0.d1.d1, ?_⟩
     refine Vl 22 (hXS _ hI.d0.d0.d1.d1) rfl Tryd.underlying39 rfl (V2 23 rfl ?_)
     refine Vp kn (.slice _ _ _) hI rfl (by simp [Nat.blt, slC]; omega) rfl ?_
     rw [Ai hkey]
     clear hI; intro w hI
     refine Aa ⟨hXS _ hI.d0.d0.d1.d1, ?_⟩
     refine BV (by kernel_rfl) ?_
     clear hXS hSx
     refine Cm (fun _ => True) [] ?_
     refine Ae 24 rfl rfl (by kernel_rfl) trivial rfl (fun W _ => (by exact Bz rfl Tryd.underlying31 (by kernel_rfl) rfl rfl rfl (by omega))) ?_
     refine V2 25 rfl ?_
     refine Vr kn (.slice _ _ _) hI rfl (by simp [Nat.blt, slC]; omega) rfl ?_
     rw [Ai hkey]
     clear hI; intro w hI
     refine Aa ⟨trivial, ?_⟩
     refine Av (by kernel_rfl) (Ab (Vb rfl (V0 rfl (Aa ?_))))
     exact ⟨⟨k + 1, _, _, _, _, hk, ⟨rfl, rfl, rfl, rfl, rfl, trivial⟩, Am hkn8 hkey hop hI⟩, hdec⟩
    ·refine Vm [(0, .int .i64 _)] [_] [.int .i64 0] [0] hI rfl Tryd.underlying24 (fun _ => by kernel_rfl) ?_
     clear hI; rintro b43 w - - hI
     try replace hI := Ee hI
     refine Aa ⟨hXS _ hI.d0.d0.d0.d1.d1, ?_⟩
     refine V2 18 rfl ?_
     refine V3 (.slice _ _ _) rfl (hI.c2 hgn) ?_
     refine Aa ⟨hXS _ hI.d0.d0.d0.d1.d1, ?_⟩
     refine V2 21 rfl ?_
     refine Ve 8 (.int .i64 0) hI rfl Tryd.underlying24 rfl (by rfl) hI.lit0 (by rfl) (Nat.zero_le _) ?_
     clear hI; rintro A44 c44 w hA44 hc44 hI
     replace hI := hI.d0
     refine Aa ⟨hXS _ hI.d0.d0.d1.d1, ?_⟩
     refine Vl 22 (hXS _ hI.d0.d0.d1.d1) rfl Tryd.underlying39 rfl (V2 23 rfl ?_)
     refine Vp kn (.slice _ _ _) hI rfl (by simp [Nat.blt, slC]; omega) rfl ?_
     rw [Ai hkey]
     clear hI; intro w hI
     refine Aa ⟨hXS _ hI.d0.d0.d1.d1, ?_⟩
     refine BV (by kernel_rfl) ?_
     clear hXS hSx
     refine Cm (fun _ => True) [] ?_
     refine Ae 24 rfl rfl (by kernel_rfl) trivial rfl (fun W _ => (by exact Bz rfl Tryd.underlying31 (by kernel_rfl) rfl rfl rfl (by omega))) ?_
     refine V2 25 rfl ?_
     refine Vr kn (.slice _ _ _) hI rfl (by simp [Nat.blt, slC]; omega) rfl ?_
     rw [Ai hkey]
     clear hI; intro w hI
     refine Aa ⟨trivial, ?_⟩
     refine Av (by kernel_rfl) (Ab (Vb rfl (V0 rfl (Aa ?_))))
     exact ⟨⟨k + 1, _, _, _, _, hk, ⟨rfl, rfl, rfl, rfl, rfl, trivial⟩, Am hkn8 hkey hop hI⟩, hdec⟩
   ·refine V3 (.slice _ _ _) rfl (hI.c2 hgn) ?_
    refine Aa ⟨hXS _ hI.d0.d0.d0.d1.d1, ?_⟩
    refine T1 13 20 rfl ?_ ?_
    ·refine EY (z := .agg #[.int .i64 0, .int .i64 0, .int .i64 0, .int .i64 0, .int .i64 0, .int .i64 0, .int .i64 0, .int .i64 0]) (by_ := 64) hI rfl rfl rfl rfl rfl rfl Tryd.underlying22 (by kernel_rfl) rfl (by omega) (by rfl) hI.lit0 (by rfl) (by omega) (by omega) (by exact Nat.zero_le _) ?_
     clear hI; rintro A36 c36 w hA36 hc36 hI
     replace hI := hI.d0
     refine Aa ⟨hXS _ hI.d0.d0.d1.d1, ?_⟩
     refine V2 20 rfl ?_
     refine Vm [(0, .int .i64 _)] [_] [.int .i64 0] [0] hI rfl Tryd.underlying24 (fun _ => by kernel_rfl) ?_
     clear hI; rintro b43 w - - hI
     try replace hI := Ee hI
     refine Aa ⟨hXS _ hI.d0.d0.d0.d1.d1, ?_⟩
     refine V2 21 rfl ?_
     refine Ve 8 (.int .i64 0) hI rfl Tryd.underlying24 rfl (by rfl) hI.lit0 (by rfl) (Nat.zero_le _) ?_
     clear hI; rintro A44 c44 w hA44 hc44 hI
     replace hI := hI.d0
     refine Aa ⟨hXS _ hI.d0.d0.d1.d1, ?_⟩
     refine Vl 22 (hXS _ hI.d0.d0.d1.d1) rfl Tryd.underlying39 rfl (V2 23 rfl ?_)
     refine Vp kn (.slice _ _ _) hI rfl (by simp [Nat.blt, slC]; omega) rfl ?_
     rw [Ai hkey]
     clear hI; intro w hI
     refine Aa ⟨hXS _ hI.d0.d0.d1.d1, ?_⟩
     refine BV (by kernel_rfl) ?_
     clear hXS hSx
     refine Cm (fun _ => True) [] ?_
     refine Ae 24 rfl rfl (by kernel_rfl) trivial rfl (fun W _ => (by exact Bz rfl Tryd.underlying31 (by kernel_rfl) rfl rfl rfl (by omega))) ?_
     refine V2 25 rfl ?_
     refine Vr kn (.slice _ _ _) hI rfl (by simp [Nat.blt, slC]; omega) rfl ?_
     rw [Ai hkey]
     clear hI; intro w hI
     refine Aa ⟨trivial, ?_⟩
     refine Av (by kernel_rfl) (Ab (Vb rfl (V0 rfl (Aa ?_))))
     exact ⟨⟨k + 1, _, _, _, _, hk, ⟨rfl, rfl, rfl, rfl, rfl, trivial⟩, Am hkn8 hkey hop hI⟩, hdec⟩
    ·refine Vm [(0, .int .i64 _)] [_] [.int .i64 0] [0] hI rfl Tryd.underlying24 (fun _ => by kernel_rfl) ?_
     clear hI; rintro b43 w - - hI
     try replace hI := Ee hI
     refine Aa ⟨hXS _ hI.d0.d0.d0.d0.d1.d1, ?_⟩
     refine V2 13 rfl ?_
     refine Ve 64 (.agg #[.int .i64 0, .int .i64 0, .int .i64 0, .int .i64 0, .int .i64 0, .int .i64 0, .int .i64 0, .int .i64 0]) hI rfl Tryd.underlying22 rfl (by rfl) hI.lit0 (by rfl) (Nat.zero_le _) ?_
     clear hI; rintro A36 c36 w hA36 hc36 hI
     replace hI := hI.d0
     refine Aa ⟨hXS _ hI.d0.d0.d0.d1.d1, ?_⟩
     refine V2 21 rfl ?_
     refine Ve 8 (.int .i64 0) hI rfl Tryd.underlying24 rfl (by rfl) hI.lit0 (by rfl) (Nat.zero_le _) ?_
     clear hI; rintro A44 c44 w hA44 hc44 hI
     replace hI := hI.d0
     refine Aa ⟨hXS _ hI.d0.d0.d1.d1, ?_⟩
     refine Vl 22 (hXS _ hI.d0.d0.d1.d1) rfl Tryd.underlying39 rfl (V2 23 rfl ?_)
     refine Vp kn (.slice _ _ _) hI rfl (by simp [Nat.blt, slC]; omega) rfl ?_
     rw [Ai hkey]
     clear hI; intro w hI
     refine Aa ⟨hXS _ hI.d0.d0.d1.d1, ?_⟩
     refine BV (by kernel_rfl) ?_
     clear hXS hSx
     refine Cm (fun _ => True) [] ?_
     refine Ae 24 rfl rfl (by kernel_rfl) trivial rfl (fun W _ => (by exact Bz rfl Tryd.underlying31 (by kernel_rfl) rfl rfl rfl (by omega))) ?_
     refine V2 25 rfl ?_
     refine Vr kn (.slice _ _ _) hI rfl (by simp [Nat.blt, slC]; omega) rfl ?_
     rw [Ai hkey]
     clear hI; intro w hI
     refine Aa ⟨trivial, ?_⟩
     refine Av (by kernel_rfl) (Ab (Vb rfl (V0 rfl (Aa ?_))))
     exact ⟨⟨k + 1, _, _, _, _, hk, ⟨rfl, rfl, rfl, rfl, rfl, trivial⟩, Am hkn8 hkey hop hI⟩, hdec⟩
   ·refine Vm [(0, .int .i64 _)] [_] [.int .i64 0] [0] hI rfl Tryd.underlying24 (fun _ => by kernel_rfl) ?_
    clear hI; rintro b43 w - - hI
    try replace hI := Ee hI
    refine Aa ⟨hXS _ hI.d0.d0.d0.d0.d1.d1, ?_⟩
    refine T1 13 18 rfl ?_ ?_
    ·refine Ve 64 (.agg #[.int .i64 0, .int .i64 0, .int .i64 0, .int .i64 0, .int .i64 0, .int .i64 0, .int .i64 0, .int .i64 0]) hI rfl Tryd.underlying22 rfl (by rfl) hI.lit0 (by rfl) (Nat.zero_le _) ?_
     clear hI; rintro A36 c36 w hA36 hc36 hI
     replace hI := hI.d0
     refine Aa ⟨hXS _ hI.d0.d0.d0.d1.d1, ?_⟩
     refine V2 18 rfl ?_
     refine V3 (.slice _ _ _) rfl (hI.c2 hgn) ?_
     refine Aa ⟨hXS _ hI.d0.d0.d0.d1.d1, ?_⟩
     refine V2 21 rfl ?_
     refine Ve 8 (.int .i64 0) hI rfl Tryd.underlying24 rfl (by rfl) hI.lit0 (by rfl) (Nat.zero_le _) ?_
     clear hI; rintro A44 c44 w hA44 hc44 hI
     replace hI := hI.d0
     refine Aa ⟨hXS _ hI.d0.d0.d1.d1, ?_⟩
     refine Vl 22 (hXS _ hI.d0.d0.d1.d1) rfl Tryd.underlying39 rfl (V2 23 rfl ?_)
     refine Vp kn (.slice _ _ _) hI rfl (by simp [Nat.blt, slC]; omega) rfl ?_
     rw [Ai hkey]
     clear hI; intro w hI
     refine Aa ⟨hXS _ hI.d0.d0.d1.d1, ?_⟩
     refine BV (by kernel_rfl) ?_
     clear hXS hSx
     refine Cm (fun _ => True) [] ?_
     refine Ae 24 rfl rfl (by kernel_rfl) trivial rfl (fun W _ => (by exact Bz rfl Tryd.underlying31 (by kernel_rfl) rfl rfl rfl (by omega))) ?_
     refine V2 25 rfl ?_
     refine Vr kn (.slice _ _ _) hI rfl (by simp [Nat.blt, slC]; omega) rfl ?_
     rw [Ai hkey]
     clear hI; intro w hI
     refine Aa ⟨trivial, ?_⟩
     refine Av (by kernel_rfl) (Ab (Vb rfl (V0 rfl (Aa ?_))))
     exact ⟨⟨k + 1, _, _, _, _, hk, ⟨rfl, rfl, rfl, rfl, rfl, trivial⟩, Am hkn8 hkey hop hI⟩, hdec⟩
    ·refine V3 (.slice _ _ _) rfl (hI.c3 hgn) ?_
     refine Aa ⟨hXS _ hI.d0.d0.d0.d0.d1.d1, ?_⟩
     refine V2 13 rfl ?_
     refine Ve 64 (.agg #[.int .i64 0, .int .i64 0, .int .i64 0, .int .i64 0, .int .i64 0, .int .i64 0, .int .i64 0, .int .i64 0]) hI rfl Tryd.underlying22 rfl (by rfl) hI.lit0 (by rfl) (Nat.zero_le _) ?_
     clear hI; rintro A36 c36 w hA36 hc36 hI
     replace hI := hI.d0
     refine Aa ⟨hXS _ hI.d0.d0.d0.d1.d1, ?_⟩
     refine V2 21 rfl ?_
     refine Ve 8 (.int .i64 0) hI rfl Tryd.underlying24 rfl (by rfl) hI.lit0 (by rfl) (Nat.zero_le _) ?_
     clear hI; rintro A44 c44 w hA44 hc44 hI
     replace hI := hI.d0
     refine Aa ⟨hXS _ hI.d0.d0.d1.d1, ?_⟩
     refine Vl 22 (hXS _ hI.d0.d0.d1.d1) rfl Tryd.underlying39 rfl (V2 23 rfl ?_)
     refine Vp kn (.slice _ _ _) hI rfl (by simp [Nat.blt, slC]; omega) rfl ?_
     rw [Ai hkey]
     clear hI; intro w hI
     refine Aa ⟨hXS _ hI.d0.d0.d1.d1, ?_⟩
     refine BV (by kernel_rfl) ?_
     clear hXS hSx
     refine Cm (fun _ => True) [] ?_
     refine Ae 24 rfl rfl (by kernel_rfl) trivial rfl (fun W _ => (by exact Bz rfl Tryd.underlying31 (by kernel_rfl) rfl rfl rfl (by omega))) ?_
     refine V2 25 rfl ?_
     refine Vr kn (.slice _ _ _) hI rfl (by simp [Nat.blt, slC]; omega) rfl ?_
     rw [Ai hkey]
     clear hI; intro w hI
     refine Aa ⟨trivial, ?_⟩
     refine Av (by kernel_rfl) (Ab (Vb rfl (V0 rfl (Aa ?_))))
     exact ⟨⟨k + 1, _, _, _, _, hk, ⟨rfl, rfl, rfl, rfl, rfl, trivial⟩, Am hkn8 hkey hop hI⟩, hdec⟩
  ·refine V3 (.slice _ _ _) rfl (hI.c2 hgn) ?_
   refine Aa ⟨hXS _ hI.d0.d0.d0.d1.d1, ?_⟩
   refine T1 10 20 rfl ?_ ?_
   ·refine V3 (.slice _ _ _) rfl (hI.c1 hgp) ?_
    refine Aa ⟨hXS _ hI.d0.d0.d0.d1.d1, ?_⟩
    refine T1 13 20 rfl ?_ ?_
    ·refine EY (z := .agg #[.int .i64 0, .int .i64 0, .int .i64 0, .int .i64 0, .int .i64 0, .int .i64 0, .int .i64 0, .int .i64 0]) (by_ := 64) hI rfl rfl rfl rfl rfl rfl Tryd.underlying22 (by kernel_rfl) rfl (by omega) (by rfl) hI.lit0 (by rfl) (by omega) (by omega) (by exact Nat.zero_le _) ?_
     clear hI; rintro A36 c36 w hA36 hc36 hI
     replace hI := hI.d0
     refine Aa ⟨hXS _ hI.d0.d0.d1.d1, ?_⟩
     refine V2 20 rfl ?_
     refine Vm [(0, .int .i64 _)] [_] [.int .i64 0] [0] hI rfl Tryd.underlying24 (fun _ => by kernel_rfl) ?_
     clear hI; rintro b43 w - - hI
     try replace hI := Ee hI
     refine Aa ⟨hXS _ hI.d0.d0.d0.d1.d1, ?_⟩
     refine V2 21 rfl ?_
     refine Ve 8 (.int .i64 0) hI rfl Tryd.underlying24 rfl (by rfl) hI.lit0 (by rfl) (Nat.zero_le _) ?_
     clear hI; rintro A44 c44 w hA44 hc44 hI
     replace hI := hI.d0
     refine Aa ⟨hXS _ hI.d0.d0.d1.d1, ?_⟩
     refine Vl 22 (hXS _ hI.d0.d0.d1.d1) rfl Tryd.underlying39 rfl (V2 23 rfl ?_)
     refine Vp kn (.slice _ _ _) hI rfl (by simp [Nat.blt, slC]; omega) rfl ?_
     rw [Ai hkey]
     clear hI; intro w hI
     refine Aa ⟨hXS _ hI.d0.d0.d1.d1, ?_⟩
     refine BV (by kernel_rfl) ?_
     clear hXS hSx
     refine Cm (fun _ => True) [] ?_
     refine Ae 24 rfl rfl (by kernel_rfl) trivial rfl (fun W _ => (by exact Bz rfl Tryd.underlying31 (by kernel_rfl) rfl rfl rfl (by omega))) ?_
     refine V2 25 rfl ?_
     refine Vr kn (.slice _ _ _) hI rfl (by simp [Nat.blt, slC]; omega) rfl ?_
     rw [Ai hkey]
     clear hI; intro w hI
     refine Aa ⟨trivial, ?_⟩
     refine Av (by kernel_rfl) (Ab (Vb rfl (V0 rfl (Aa ?_))))
     exact ⟨⟨k + 1, _, _, _, _, hk, ⟨rfl, rfl, rfl, rfl, rfl, trivial⟩, Am hkn8 hkey hop hI⟩, hdec⟩
    ·refine Vm [(0, .int .i64 _)] [_] [.int .i64 0] [0] hI rfl Tryd.underlying24 (fun _ => by kernel_rfl) ?_
     clear hI; rintro b43 w - - hI
     try replace hI := Ee hI
     refine Aa ⟨hXS _ hI.d0.d0.d0.d0.d1.d1, ?_⟩
     refine V2 13 rfl ?_
     refine Ve 64 (.agg #[.int .i64 0, .int .i64 0, .int .i64 0, .int .i64 0, .int .i64 0, .int .i64 0, .int .i64 0, .int .i64 0]) hI rfl Tryd.underlying22 rfl (by rfl) hI.lit0 (by rfl) (Nat.zero_le _) ?_
     clear hI; rintro A36 c36 w hA36 hc36 hI
     replace hI := hI.d0
     refine Aa ⟨hXS _ hI.d0.d0.d0.d1.d1, ?_⟩
     refine V2 21 rfl ?_
     refine Ve 8 (.int .i64 0) hI rfl Tryd.underlying24 rfl (by rfl) hI.lit0 (by rfl) (Nat.zero_le _) ?_
     clear hI; rintro A44 c44 w hA44 hc44 hI
     replace hI := hI.d0
     refine Aa ⟨hXS _ hI.d0.d0.d1.d1, ?_⟩
     refine Vl 22 (hXS _ hI.d0.d0.d1.d1) rfl Tryd.underlying39 rfl (V2 23 rfl ?_)
     refine Vp kn (.slice _ _ _) hI rfl (by simp [Nat.blt, slC]; omega) rfl ?_
     rw [Ai hkey]
     clear hI; intro w hI
     refine Aa ⟨hXS _ hI.d0.d0.d1.d1, ?_⟩
     refine BV (by kernel_rfl) ?_
     clear hXS hSx
     refine Cm (fun _ => True) [] ?_
     refine Ae 24 rfl rfl (by kernel_rfl) trivial rfl (fun W _ => (by exact Bz rfl Tryd.underlying31 (by kernel_rfl) rfl rfl rfl (by omega))) ?_
     refine V2 25 rfl ?_
     refine Vr kn (.slice _ _ _) hI rfl (by simp [Nat.blt, slC]; omega) rfl ?_
     rw [Ai hkey]
     clear hI; intro w hI
     refine Aa ⟨trivial, ?_⟩
     refine Av (by kernel_rfl) (Ab (Vb rfl (V0 rfl (Aa ?_))))
     exact ⟨⟨k + 1, _, _, _, _, hk, ⟨rfl, rfl, rfl, rfl, rfl, trivial⟩, Am hkn8 hkey hop hI⟩, hdec⟩
   ·refine Vm [(0, .int .i64 _)] [_] [.int .i64 0] [0] hI rfl Tryd.underlying24 (fun _ => by kernel_rfl) ?_
    clear hI; rintro b43 w - - hI
    try replace hI := Ee hI
    refine Aa ⟨hXS _ hI.d0.d0.d0.d0.d1.d1, ?_⟩
    refine V2 10 rfl ?_
    refine V3 (.slice _ _ _) rfl (hI.c2 hgp) ?_
    refine Aa ⟨hXS _ hI.d0.d0.d0.d0.d1.d1, ?_⟩
    refine V2 13 rfl ?_
    refine Ve 64 (.agg #[.int .i64 0, .int .i64 0, .int .i64 0, .int .i64 0, .int .i64 0, .int .i64 0, .int .i64 0, .int .i64 0]) hI rfl Tryd.underlying22 rfl (by rfl) hI.lit0 (by rfl) (Nat.zero_le _) ?_
    clear hI; rintro A36 c36 w hA36 hc36 hI
    replace hI := hI.d0
    refine Aa ⟨hXS _ hI.d0.d0.d0.d1.d1, ?_⟩
    refine V2 21 rfl ?_
    refine Ve 8 (.int .i64 0) hI rfl Tryd.underlying24 rfl (by rfl) hI.lit0 (by rfl) (Nat.zero_le _) ?_
    clear hI; rintro A44 c44 w hA44 hc44 hI
    replace hI := hI.d0
    refine Aa ⟨hXS _ hI.d0.d0.d1.d1, ?_⟩
    refine Vl 22 (hXS _ hI.d0.d0.d1.d1) rfl Tryd.underlying39 rfl (V2 23 rfl ?_)
    refine Vp kn (.slice _ _ _) hI rfl (by simp [Nat.blt, slC]; omega) rfl ?_
    rw [Ai hkey]
    clear hI; intro w hI
    refine Aa ⟨hXS _ hI.d0.d0.d1.d1, ?_⟩
    refine BV (by kernel_rfl) ?_
    clear hXS hSx
    refine Cm (fun _ => True) [] ?_
    refine Ae 24 rfl rfl (by kernel_rfl) trivial rfl (fun W _ => (by exact Bz rfl Tryd.underlying31 (by kernel_rfl) rfl rfl rfl (by omega))) ?_
    refine V2 25 rfl ?_
    refine Vr kn (.slice _ _ _) hI rfl (by simp [Nat.blt, slC]; omega) rfl ?_
    rw [Ai hkey]
    clear hI; intro w hI
    refine Aa ⟨trivial, ?_⟩
    refine Av (by kernel_rfl) (Ab (Vb rfl (V0 rfl (Aa ?_))))
    exact ⟨⟨k + 1, _, _, _, _, hk, ⟨rfl, rfl, rfl, rfl, rfl, trivial⟩, Am hkn8 hkey hop hI⟩, hdec⟩
  ·refine Vm [(0, .int .i64 _)] [_] [.int .i64 0] [0] hI rfl Tryd.underlying24 (fun _ => by kernel_rfl) ?_
   clear hI; rintro b43 w - - hI
   try replace hI := Ee hI
   refine Aa ⟨hXS _ hI.d0.d0.d0.d0.d1.d1, ?_⟩
   refine T1 10 18 rfl ?_ ?_
   ·refine V3 (.slice _ _ _) rfl (hI.c2 hgp) ?_
    refine Aa ⟨hXS _ hI.d0.d0.d0.d0.d1.d1, ?_⟩
    refine T1 13 18 rfl ?_ ?_
    ·refine Ve 64 (.agg #[.int .i64 0, .int .i64 0, .int .i64 0, .int .i64 0, .int .i64 0, .int .i64 0, .int .i64 0, .int .i64 0]) hI rfl Tryd.underlying22 rfl (by rfl) hI.lit0 (by rfl) (Nat.zero_le _) ?_
     clear hI; rintro A36 c36 w hA36 hc36 hI
     replace hI := hI.d0
     refine Aa ⟨hXS _ hI.d0.d0.d0.d1.d1, ?_⟩
     refine V2 18 rfl ?_
     refine V3 (.slice _ _ _) rfl (hI.c2 hgn) ?_
     refine Aa ⟨hXS _ hI.d0.d0.d0.d1.d1, ?_⟩
     refine V2 21 rfl ?_
     refine Ve 8 (.int .i64 0) hI rfl Tryd.underlying24 rfl (by rfl) hI.lit0 (by rfl) (Nat.zero_le _) ?_
     clear hI; rintro A44 c44 w hA44 hc44 hI
     replace hI := hI.d0
     refine Aa ⟨hXS _ hI.d0.d0.d1.d1, ?_⟩
     refine Vl 22 (hXS _ hI.d0.d0.d1.d1) rfl Tryd.underlying39 rfl (V2 23 rfl ?_)
     refine Vp kn (.slice _ _ _) hI rfl (by simp [Nat.blt, slC]; omega) rfl ?_
     rw [Ai hkey]
     clear hI; intro w hI
     refine Aa ⟨hXS _ hI.d0.d0.d1.d1, ?_⟩
     refine BV (by kernel_rfl) ?_
     clear hXS hSx
     refine Cm (fun _ => True) [] ?_
     refine Ae 24 rfl rfl (by kernel_rfl) trivial rfl (fun W _ => (by exact Bz rfl Tryd.underlying31 (by kernel_rfl) rfl rfl rfl (by omega))) ?_
     refine V2 25 rfl ?_
     refine Vr kn (.slice _ _ _) hI rfl (by simp [Nat.blt, slC]; omega) rfl ?_
     rw [Ai hkey]
     clear hI; intro w hI
     refine Aa ⟨trivial, ?_⟩
     refine Av (by kernel_rfl) (Ab (Vb rfl (V0 rfl (Aa ?_))))
     exact ⟨⟨k + 1, _, _, _, _, hk, ⟨rfl, rfl, rfl, rfl, rfl, trivial⟩, Am hkn8 hkey hop hI⟩, hdec⟩
    ·refine V3 (.slice _ _ _) rfl (hI.c3 hgn) ?_
     refine Aa ⟨hXS _ hI.d0.d0.d0.d0.d1.d1, ?_⟩
     refine V2 13 rfl ?_
     refine Ve 64 (.agg #[.int .i64 0, .int .i64 0, .int .i64 0, .int .i64 0, .int .i64 0, .int .i64 0, .int .i64 0, .int .i64 0]) hI rfl Tryd.underlying22 rfl (by rfl) hI.lit0 (by rfl) (Nat.zero_le _) ?_
     clear hI; rintro A36 c36 w hA36 hc36 hI
     replace hI := hI.d0
     refine Aa ⟨hXS _ hI.d0.d0.d0.d1.d1, ?_⟩
     refine V2 21 rfl ?_
     refine Ve 8 (.int .i64 0) hI rfl Tryd.underlying24 rfl (by rfl) hI.lit0 (by rfl) (Nat.zero_le _) ?_
     clear hI; rintro A44 c44 w hA44 hc44 hI
     replace hI := hI.d0
     refine Aa ⟨hXS _ hI.d0.d0.d1.d1, ?_⟩
     refine Vl 22 (hXS _ hI.d0.d0.d1.d1) rfl Tryd.underlying39 rfl (V2 23 rfl ?_)
     refine Vp kn (.slice _ _ _) hI rfl (by simp [Nat.blt, slC]; omega) rfl ?_
     rw [Ai hkey]
     clear hI; intro w hI
     refine Aa ⟨hXS _ hI.d0.d0.d1.d1, ?_⟩
     refine BV (by kernel_rfl) ?_
     clear hXS hSx
     refine Cm (fun _ => True) [] ?_
     refine Ae 24 rfl rfl (by kernel_rfl) trivial rfl (fun W _ => (by exact Bz rfl Tryd.underlying31 (by kernel_rfl) rfl rfl rfl (by omega))) ?_
     refine V2 25 rfl ?_
     refine Vr kn (.slice _ _ _) hI rfl (by simp [Nat.blt, slC]; omega) rfl ?_
     rw [Ai hkey]
     clear hI; intro w hI
     refine Aa ⟨trivial, ?_⟩
     refine Av (by kernel_rfl) (Ab (Vb rfl (V0 rfl (Aa ?_))))
     exact ⟨⟨k + 1, _, _, _, _, hk, ⟨rfl, rfl, rfl, rfl, rfl, trivial⟩, Am hkn8 hkey hop hI⟩, hdec⟩
   ·refine V3 (.slice _ _ _) rfl (hI.c3 hgn) ?_
    refine Aa ⟨hXS _ hI.d0.d0.d0.d0.d1.d1, ?_⟩
    refine V2 10 rfl ?_
    refine V3 (.slice _ _ _) rfl (hI.c2 hgp) ?_
    refine Aa ⟨hXS _ hI.d0.d0.d0.d0.d1.d1, ?_⟩
    refine V2 13 rfl ?_
    refine Ve 64 (.agg #[.int .i64 0, .int .i64 0, .int .i64 0, .int .i64 0, .int .i64 0, .int .i64 0, .int .i64 0, .int .i64 0]) hI rfl Tryd.underlying22 rfl (by rfl) hI.lit0 (by rfl) (Nat.zero_le _) ?_
    clear hI; rintro A36 c36 w hA36 hc36 hI
    replace hI := hI.d0
    refine Aa ⟨hXS _ hI.d0.d0.d0.d1.d1, ?_⟩
    refine V2 21 rfl ?_
    refine Ve 8 (.int .i64 0) hI rfl Tryd.underlying24 rfl (by rfl) hI.lit0 (by rfl) (Nat.zero_le _) ?_
    clear hI; rintro A44 c44 w hA44 hc44 hI
    replace hI := hI.d0
    refine Aa ⟨hXS _ hI.d0.d0.d1.d1, ?_⟩
    refine Vl 22 (hXS _ hI.d0.d0.d1.d1) rfl Tryd.underlying39 rfl (V2 23 rfl ?_)
    refine Vp kn (.slice _ _ _) hI rfl (by simp [Nat.blt, slC]; omega) rfl ?_
    rw [Ai hkey]
    clear hI; intro w hI
    refine Aa ⟨hXS _ hI.d0.d0.d1.d1, ?_⟩
    refine BV (by kernel_rfl) ?_
    clear hXS hSx
    refine Cm (fun _ => True) [] ?_
    refine Ae 24 rfl rfl (by kernel_rfl) trivial rfl (fun W _ => (by exact Bz rfl Tryd.underlying31 (by kernel_rfl) rfl rfl rfl (by omega))) ?_
    refine V2 25 rfl ?_
    refine Vr kn (.slice _ _ _) hI rfl (by simp [Nat.blt, slC]; omega) rfl ?_
    rw [Ai hkey]
    clear hI; intro w hI
    refine Aa ⟨trivial, ?_⟩
    refine Av (by kernel_rfl) (Ab (Vb rfl (V0 rfl (Aa ?_))))
    exact ⟨⟨k + 1, _, _, _, _, hk, ⟨rfl, rfl, rfl, rfl, rfl, trivial⟩, Am hkn8 hkey hop hI⟩, hdec⟩
 ·refine V3 (.slice _ _ _) rfl (hI.c1 hgn) ?_
  refine Aa ⟨hXS _ hI.d0.d0.d1.d1, ?_⟩
  refine FI 10 12 20 rfl rfl rfl (by kernel_rfl) rfl rfl rfl ?_ ?_ ?_
  ·refine V3 (.slice _ _ _) rfl (hI.c0 hgp) ?_
   refine Aa ⟨hXS _ hI.d0.d0.d1.d1, ?_⟩
   refine T1 12 20 rfl ?_ ?_
   ·refine Te 63 8 [opV ⟨proc, (kn : Int), kind, a, b, res, call, ret⟩] hI rfl Tryd.underlying22 rfl (by simp [opV]) ?_
    clear hI; rintro b35 w - - hI
    refine Aa ⟨hXS _ hI.d0.d0.d0.d1.d1, ?_⟩
    refine T1 13 20 rfl ?_ ?_
    ·refine EY (z := .agg #[.int .i64 0, .int .i64 0, .int .i64 0, .int .i64 0, .int .i64 0, .int .i64 0, .int .i64 0, .int .i64 0]) (by_ := 64) hI rfl rfl rfl rfl rfl rfl Tryd.underlying22 (by kernel_rfl) rfl (by omega) (by rfl) hI.lit0 (by rfl) (by omega) (by omega) (by exact Nat.zero_le _) ?_
     clear hI; rintro A36 c36 w hA36 hc36 hI
     replace hI := hI.d0
     refine Aa ⟨hXS _ hI.d0.d0.d1.d1, ?_⟩
     refine V2 20 rfl ?_
     refine Vm [(0, .int .i64 _)] [_] [.int .i64 0] [0] hI rfl Tryd.underlying24 (fun _ => by kernel_rfl) ?_
     clear hI; rintro b43 w - - hI
     try replace hI := Ee hI
     refine Aa ⟨hXS _ hI.d0.d0.d0.d1.d1, ?_⟩
     refine V2 21 rfl ?_
     refine Ve 8 (.int .i64 0) hI rfl Tryd.underlying24 rfl (by rfl) hI.lit0 (by rfl) (Nat.zero_le _) ?_
     clear hI; rintro A44 c44 w hA44 hc44 hI
     replace hI := hI.d0
     refine Aa ⟨hXS _ hI.d0.d0.d1.d1, ?_⟩
     refine Vl 22 (hXS _ hI.d0.d0.d1.d1) rfl Tryd.underlying39 rfl (V2 23 rfl ?_)
     refine Vp kn (.slice _ _ _) hI rfl (by simp [Nat.blt, slC]; omega) rfl ?_
     rw [Ai hkey]
     clear hI; intro w hI
     refine Aa ⟨hXS _ hI.d0.d0.d1.d1, ?_⟩
     refine BV (by kernel_rfl) ?_
     clear hXS hSx
     refine Cm (fun _ => True) [] ?_
     refine Ae 24 rfl rfl (by kernel_rfl) trivial rfl (fun W _ => (by exact Bz rfl Tryd.underlying31 (by kernel_rfl) rfl rfl rfl (by omega))) ?_
     refine V2 25 rfl ?_
     refine Vr kn (.slice _ _ _) hI rfl (by simp [Nat.blt, slC]; omega) rfl ?_
     rw [Ai hkey]
     clear hI; intro w hI
     refine Aa ⟨trivial, ?_⟩
     refine Av (by kernel_rfl) (Ab (Vb rfl (V0 rfl (Aa ?_))))
     exact ⟨⟨k + 1, _, _, _, _, hk, ⟨rfl, rfl, rfl, rfl, rfl, trivial⟩, Am hkn8 hkey hop hI⟩, hdec⟩
    ·refine Vm [(0, .int .i64 _)] [_] [.int .i64 0] [0] hI rfl Tryd.underlying24 (fun _ => by kernel_rfl) ?_
     clear hI; rintro b43 w - - hI
     try replace hI := Ee hI
     refine Aa ⟨hXS _ hI.d0.d0.d0.d0.d1.d1, ?_⟩
     refine V2 13 rfl ?_
     refine Ve 64 (.agg #[.int .i64 0, .int .i64 0, .int .i64 0, .int .i64 0, .int .i64 0, .int .i64 0, .int .i64 0, .int .i64 0]) hI rfl Tryd.underlying22 rfl (by rfl) hI.lit0 (by rfl) (Nat.zero_le _) ?_
     clear hI; rintro A36 c36 w hA36 hc36 hI
     replace hI := hI.d0
     refine Aa ⟨hXS _ hI.d0.d0.d0.d1.d1, ?_⟩
     refine V2 21 rfl ?_
     refine Ve 8 (.int .i64 0) hI rfl Tryd.underlying24 rfl (by rfl) hI.lit0 (by rfl) (Nat.zero_le _) ?_
     clear hI; rintro A44 c44 w hA44 hc44 hI
     replace hI := hI.d0
     refine Aa ⟨hXS _ hI.d0.d0.d1.d1, ?_⟩
     refine Vl 22 (hXS _ hI.d0.d0.d1.d1) rfl Tryd.underlying39 rfl (V2 23 rfl ?_)
     refine Vp kn (.slice _ _ _) hI rfl (by simp [Nat.blt, slC]; omega) rfl ?_
     rw [Ai hkey]
     clear hI; intro w hI
     refine Aa ⟨hXS _ hI.d0.d0.d1.d1, ?_⟩
     refine BV (by kernel_rfl) ?_
     clear hXS hSx
     refine Cm (fun _ => True) [] ?_
     refine Ae 24 rfl rfl (by kernel_rfl) trivial rfl (fun W _ => (by exact Bz rfl Tryd.underlying31 (by kernel_rfl) rfl rfl rfl (by omega))) ?_
     refine V2 25 rfl ?_
     refine Vr kn (.slice _ _ _) hI rfl (by simp [Nat.blt, slC]; omega) rfl ?_
     rw [Ai hkey]
     clear hI; intro w hI
     refine Aa ⟨trivial, ?_⟩
     refine Av (by kernel_rfl) (Ab (Vb rfl (V0 rfl (Aa ?_))))
     exact ⟨⟨k + 1, _, _, _, _, hk, ⟨rfl, rfl, rfl, rfl, rfl, trivial⟩, Am hkn8 hkey hop hI⟩, hdec⟩
   ·refine Vm [(0, .int .i64 _)] [_] [.int .i64 0] [0] hI rfl Tryd.underlying24 (fun _ => by kernel_rfl) ?_
    clear hI; rintro b43 w - - hI
    try replace hI := Ee hI
    refine Aa ⟨hXS _ hI.d0.d0.d0.d1.d1, ?_⟩
    refine V2 12 rfl ?_
    refine Te 63 8 [opV ⟨proc, (kn : Int), kind, a, b, res, call, ret⟩] hI rfl Tryd.underlying22 rfl (by simp [opV]) ?_
    clear hI; rintro b35 w - - hI
    refine Aa ⟨hXS _ hI.d0.d0.d0.d0.d1.d1, ?_⟩
    refine V2 13 rfl ?_
    refine Ve 64 (.agg #[.int .i64 0, .int .i64 0, .int .i64 0, .int .i64 0, .int .i64 0, .int .i64 0, .int .i64 0, .int .i64 0]) hI rfl Tryd.underlying22 rfl (by rfl) hI.lit0 (by rfl) (Nat.zero_le _) ?_
    clear hI; rintro A36 c36 w hA36 hc36 hI
    replace hI := hI.d0
    refine Aa ⟨hXS _ hI.d0.d0.d0.d1.d1, ?_⟩
    refine V2 21 rfl ?_
    refine Ve 8 (.int .i64 0) hI rfl Tryd.underlying24 rfl (by rfl) hI.lit0 (by rfl) (Nat.zero_le _) ?_
    clear hI; rintro A44 c44 w hA44 hc44 hI
    replace hI := hI.d0
    refine Aa ⟨hXS _ hI.d0.d0.d1.d1, ?_⟩
    refine Vl 22 (hXS _ hI.d0.d0.d1.d1) rfl Tryd.underlying39 rfl (V2 23 rfl ?_)
    refine Vp kn (.slice _ _ _) hI rfl (by simp [Nat.blt, slC]; omega) rfl ?_
    rw [Ai hkey]
    clear hI; intro w hI
    refine Aa ⟨hXS _ hI.d0.d0.d1.d1, ?_⟩
    refine BV (by kernel_rfl) ?_
    clear hXS hSx
    refine Cm (fun _ => True) [] ?_
    refine Ae 24 rfl rfl (by kernel_rfl) trivial rfl (fun W _ => (by exact Bz rfl Tryd.underlying31 (by kernel_rfl) rfl rfl rfl (by omega))) ?_
    refine V2 25 rfl ?_
    refine Vr kn (.slice _ _ _) hI rfl (by simp [Nat.blt, slC]; omega) rfl ?_
    rw [Ai hkey]
    clear hI; intro w hI
    refine Aa ⟨trivial, ?_⟩
    refine Av (by kernel_rfl) (Ab (Vb rfl (V0 rfl (Aa ?_))))
    exact ⟨⟨k + 1, _, _, _, _, hk, ⟨rfl, rfl, rfl, rfl, rfl, trivial⟩, Am hkn8 hkey hop hI⟩, hdec⟩
  ·refine Te 63 8 [opV ⟨proc, (kn : Int), kind, a, b, res, call, ret⟩] hI rfl Tryd.underlying22 rfl (by simp [opV]) ?_
   clear hI; rintro b35 w - - hI
   refine Aa ⟨hXS _ hI.d0.d0.d0.d1.d1, ?_⟩
   refine T1 10 20 rfl ?_ ?_
   ·refine V3 (.slice _ _ _) rfl (hI.c1 hgp) ?_
    refine Aa ⟨hXS _ hI.d0.d0.d0.d1.d1, ?_⟩
    refine T1 13 20 rfl ?_ ?_
    ·refine EY (z := .agg #[.int .i64 0, .int .i64 0, .int .i64 0, .int .i64 0, .int .i64 0, .int .i64 0, .int .i64 0, .int .i64 0]) (by_ := 64) hI rfl rfl rfl rfl rfl rfl Tryd.underlying22 (by kernel_rfl) rfl (by omega) (by rfl) hI.lit0 (by rfl) (by omega) (by omega) (by exact Nat.zero_le _) ?_
     clear hI; rintro A36 c36 w hA36 hc36 hI
     replace hI := hI.d0
     refine Aa ⟨hXS _ hI.d0.d0.d1.d1, ?_⟩
     refine V2 20 rfl ?_
     refine Vm [(0, .int .i64 _)] [_] [.int .i64 0] [0] hI rfl Tryd.underlying24 (fun _ => by kernel_rfl) ?_
     clear hI; rintro b43 w - - hI
     try replace hI := Ee hI
     refine Aa ⟨hXS _ hI.d0.d0.d0.d1.d1, ?_⟩
     refine V2 21 rfl ?_
     refine Ve 8 (.int .i64 0) hI rfl Tryd.underlying24 rfl (by rfl) hI.lit0 (by rfl) (Nat.zero_le _) ?_
     clear hI; rintro A44 c44 w hA44 hc44 hI
     replace hI := hI.d0
     refine Aa ⟨hXS _ hI.d0.d0.d1.d1, ?_⟩
     refine Vl 22 (hXS _ hI.d0.d0.d1.d1) rfl Tryd.underlying39 rfl (V2 23 rfl ?_)
     refine Vp kn (.slice _ _ _) hI rfl (by simp [Nat.blt, slC]; omega) rfl ?_
     rw [Ai hkey]
     clear hI; intro w hI
     refine Aa ⟨hXS _ hI.d0.d0.d1.d1, ?_⟩
     refine BV (by kernel_rfl) ?_
     clear hXS hSx
     refine Cm (fun _ => True) [] ?_
     refine Ae 24 rfl rfl (by kernel_rfl) trivial rfl (fun W _ => (by exact Bz rfl Tryd.underlying31 (by kernel_rfl) rfl rfl rfl (by omega))) ?_
     refine V2 25 rfl ?_
     refine Vr kn (.slice _ _ _) hI rfl (by simp [Nat.blt, slC]; omega) rfl ?_
     rw [Ai hkey]
     clear hI; intro w hI
     refine Aa ⟨trivial, ?_⟩
     refine Av (by kernel_rfl) (Ab (Vb rfl (V0 rfl (Aa ?_))))
     exact ⟨⟨k + 1, _, _, _, _, hk, ⟨rfl, rfl, rfl, rfl, rfl, trivial⟩, Am hkn8 hkey hop hI⟩, hdec⟩
    ·refine Vm [(0, .int .i64 _)] [_] [.int .i64 0] [0] hI rfl Tryd.underlying24 (fun _ => by kernel_rfl) ?_
     clear hI; rintro b43 w - - hI
     try replace hI := Ee hI
     refine Aa ⟨hXS _ hI.d0.d0.d0.d0.d1.d1, ?_⟩
     refine V2 13 rfl ?_
     refine Ve 64 (.agg #[.int .i64 0, .int .i64 0, .int .i64 0, .int .i64 0, .int .i64 0, .int .i64 0, .int .i64 0, .int .i64 0]) hI rfl Tryd.underlying22 rfl (by rfl) hI.lit0 (by rfl) (Nat.zero_le _) ?_
     clear hI; rintro A36 c36 w hA36 hc36 hI
     replace hI := hI.d0
     refine Aa ⟨hXS _ hI.d0.d0.d0.d1.d1, ?_⟩
     refine V2 21 rfl ?_
     refine Ve 8 (.int .i64 0) hI rfl Tryd.underlying24 rfl (by rfl) hI.lit0 (by rfl) (Nat.zero_le _) ?_
     clear hI; rintro A44 c44 w hA44 hc44 hI
     replace hI := hI.d0
     refine Aa ⟨hXS _ hI.d0.d0.d1.d1, ?_⟩
     refine Vl 22 (hXS _ hI.d0.d0.d1.d1) rfl Tryd.underlying39 rfl (V2 23 rfl ?_)
     refine Vp kn (.slice _ _ _) hI rfl (by simp [Nat.blt, slC]; omega) rfl ?_
     rw [Ai hkey]
     clear hI; intro w hI
     refine Aa ⟨hXS _ hI.d0.d0.d1.d1, ?_⟩
     refine BV (by kernel_rfl) ?_
     clear hXS hSx
     refine Cm (fun _ => True) [] ?_
     refine Ae 24 rfl rfl (by kernel_rfl) trivial rfl (fun W _ => (by exact Bz rfl Tryd.underlying31 (by kernel_rfl) rfl rfl rfl (by omega))) ?_
     refine V2 25 rfl ?_
     refine Vr kn (.slice _ _ _) hI rfl (by simp [Nat.blt, slC]; omega) rfl ?_
     rw [Ai hkey]
     clear hI; intro w hI
     refine Aa ⟨trivial, ?_⟩
     refine Av (by kernel_rfl) (Ab (Vb rfl (V0 rfl (Aa ?_))))
     exact ⟨⟨k + 1, _, _, _, _, hk, ⟨rfl, rfl, rfl, rfl, rfl, trivial⟩, Am hkn8 hkey hop hI⟩, hdec⟩
   ·refine Vm [(0, .int .i64 _)] [_] [.int .i64 0] [0] hI rfl Tryd.underlying24 (fun _ => by kernel_rfl) ?_
    clear hI; rintro b43 w - - hI
    try replace hI := Ee hI
    refine Aa ⟨hXS _ hI.d0.d0.d0.d0.d1.d1, ?_⟩
    refine V2 10 rfl ?_
    refine V3 (.slice _ _ _) rfl (hI.c2 hgp) ?_
    refine Aa ⟨hXS _ hI.d0.d0.d0.d0.d1.d1, ?_⟩
    refine V2 13 rfl ?_
    refine Ve 64 (.agg #[.int .i64 0, .int .i64 0, .int .i64 0, .int .i64 0, .int .i64 0, .int .i64 0, .int .i64 0, .int .i64 0]) hI rfl Tryd.underlying22 rfl (by rfl) hI.lit0 (by rfl) (Nat.zero_le _) ?_
    clear hI; rintro A36 c36 w hA36 hc36 hI
    replace hI := hI.d0
    refine Aa ⟨hXS _ hI.d0.d0.d0.d1.d1, ?_⟩
    refine V2 21 rfl ?_
    refine Ve 8 (.int .i64 0) hI rfl Tryd.underlying24 rfl (by rfl) hI.lit0 (by rfl) (Nat.zero_le _) ?_
    clear hI; rintro A44 c44 w hA44 hc44 hI
    replace hI := hI.d0
    refine Aa ⟨hXS _ hI.d0.d0.d1.d1, ?_⟩
    refine Vl 22 (hXS _ hI.d0.d0.d1.d1) rfl Tryd.underlying39 rfl (V2 23 rfl ?_)
    refine Vp kn (.slice _ _ _) hI rfl (by simp [Nat.blt, slC]; omega) rfl ?_
    rw [Ai hkey]
    clear hI; intro w hI
    refine Aa ⟨hXS _ hI.d0.d0.d1.d1, ?_⟩
    refine BV (by kernel_rfl) ?_
    clear hXS hSx
    refine Cm (fun _ => True) [] ?_
    refine Ae 24 rfl rfl (by kernel_rfl) trivial rfl (fun W _ => (by exact Bz rfl Tryd.underlying31 (by kernel_rfl) rfl rfl rfl (by omega))) ?_
    refine V2 25 rfl ?_
    refine Vr kn (.slice _ _ _) hI rfl (by simp [Nat.blt, slC]; omega) rfl ?_
    rw [Ai hkey]
    clear hI; intro w hI
    refine Aa ⟨trivial, ?_⟩
    refine Av (by kernel_rfl) (Ab (Vb rfl (V0 rfl (Aa ?_))))
    exact ⟨⟨k + 1, _, _, _, _, hk, ⟨rfl, rfl, rfl, rfl, rfl, trivial⟩, Am hkn8 hkey hop hI⟩, hdec⟩
  ·refine Vm [(0, .int .i64 _)] [_] [.int .i64 0] [0] hI rfl Tryd.underlying24 (fun _ => by kernel_rfl) ?_
   clear hI; rintro b43 w - - hI
   try replace hI := Ee hI
   refine Aa ⟨hXS _ hI.d0.d0.d0.d1.d1, ?_⟩
   refine T1 10 12 rfl ?_ ?_
   ·refine V3 (.slice _ _ _) rfl (hI.c1 hgp) ?_
    refine Aa ⟨hXS _ hI.d0.d0.d0.d1.d1, ?_⟩
    refine V2 12 rfl ?_
    refine Te 63 8 [opV ⟨proc, (kn : Int), kind, a, b, res, call, ret⟩] hI rfl Tryd.underlying22 rfl (by simp [opV]) ?_
    clear hI; rintro b35 w - - hI
    refine Aa ⟨hXS _ hI.d0.d0.d0.d0.d1.d1, ?_⟩
    refine V2 13 rfl ?_
    refine Ve 64 (.agg #[.int .i64 0, .int .i64 0, .int .i64 0, .int .i64 0, .int .i64 0, .int .i64 0, .int .i64 0, .int .i64 0]) hI rfl Tryd.underlying22 rfl (by rfl) hI.lit0 (by rfl) (Nat.zero_le _) ?_
    clear hI; rintro A36 c36 w hA36 hc36 hI
    replace hI := hI.d0
    refine Aa ⟨hXS _ hI.d0.d0.d0.d1.d1, ?_⟩
    refine V2 21 rfl ?_
    refine Ve 8 (.int .i64 0) hI rfl Tryd.underlying24 rfl (by rfl) hI.lit0 (by rfl) (Nat.zero_le _) ?_
    clear hI; rintro A44 c44 w hA44 hc44 hI
    replace hI := hI.d0
    refine Aa ⟨hXS _ hI.d0.d0.d1.d1, ?_⟩
    refine Vl 22 (hXS _ hI.d0.d0.d1.d1) rfl Tryd.underlying39 rfl (V2 23 rfl ?_)
    refine Vp kn (.slice _ _ _) hI rfl (by simp [Nat.blt, slC]; omega) rfl ?_
    rw [Ai hkey]
    clear hI; intro w hI
    refine Aa ⟨hXS _ hI.d0.d0.d1.d1, ?_⟩
    refine BV (by kernel_rfl) ?_
    clear hXS hSx
    refine Cm (fun _ => True) [] ?_
    refine Ae 24 rfl rfl (by kernel_rfl) trivial rfl (fun W _ => (by exact Bz rfl Tryd.underlying31 (by kernel_rfl) rfl rfl rfl (by omega))) ?_
    refine V2 25 rfl ?_
    refine Vr kn (.slice _ _ _) hI rfl (by simp [Nat.blt, slC]; omega) rfl ?_
    rw [Ai hkey]
    clear hI; intro w hI
    refine Aa ⟨trivial, ?_⟩
    refine Av (by kernel_rfl) (Ab (Vb rfl (V0 rfl (Aa ?_))))
    exact ⟨⟨k + 1, _, _, _, _, hk, ⟨rfl, rfl, rfl, rfl, rfl, trivial⟩, Am hkn8 hkey hop hI⟩, hdec⟩
   ·refine Te 63 8 [opV ⟨proc, (kn : Int), kind, a, b, res, call, ret⟩] hI rfl Tryd.underlying22 rfl (by simp [opV]) ?_
    clear hI; rintro b35 w - - hI
    refine Aa ⟨hXS _ hI.d0.d0.d0.d0.d1.d1, ?_⟩
    refine V2 10 rfl ?_
    refine V3 (.slice _ _ _) rfl (hI.c2 hgp) ?_
    refine Aa ⟨hXS _ hI.d0.d0.d0.d0.d1.d1, ?_⟩
    refine V2 13 rfl ?_
    refine Ve 64 (.agg #[.int .i64 0, .int .i64 0, .int .i64 0, .int .i64 0, .int .i64 0, .int .i64 0, .int .i64 0, .int .i64 0]) hI rfl Tryd.underlying22 rfl (by rfl) hI.lit0 (by rfl) (Nat.zero_le _) ?_
    clear hI; rintro A36 c36 w hA36 hc36 hI
    replace hI := hI.d0
    refine Aa ⟨hXS _ hI.d0.d0.d0.d1.d1, ?_⟩
    refine V2 21 rfl ?_
    refine Ve 8 (.int .i64 0) hI rfl Tryd.underlying24 rfl (by rfl) hI.lit0 (by rfl) (Nat.zero_le _) ?_
    clear hI; rintro A44 c44 w hA44 hc44 hI
    replace hI := hI.d0
    refine Aa ⟨hXS _ hI.d0.d0.d1.d1, ?_⟩
    refine Vl 22 (hXS _ hI.d0.d0.d1.d1) rfl Tryd.underlying39 rfl (V2 23 rfl ?_)
    refine Vp kn (.slice _ _ _) hI rfl (by simp [Nat.blt, slC]; omega) rfl ?_
    rw [Ai hkey]
    clear hI; intro w hI
    refine Aa ⟨hXS _ hI.d0.d0.d1.d1, ?_⟩
    refine BV (by kernel_rfl) ?_
    clear hXS hSx
    refine Cm (fun _ => True) [] ?_
    refine Ae 24 rfl rfl (by kernel_rfl) trivial rfl (fun W _ => (by exact Bz rfl Tryd.underlying31 (by kernel_rfl) rfl rfl rfl (by omega))) ?_
    refine V2 25 rfl ?_
    refine Vr kn (.slice _ _ _) hI rfl (by simp [Nat.blt, slC]; omega) rfl ?_
    rw [Ai hkey]
    clear hI; intro w hI
    refine Aa ⟨trivial, ?_⟩
    refine Av (by kernel_rfl) (Ab (Vb rfl (V0 rfl (Aa ?_))))
    exact ⟨⟨k + 1, _, _, _, _, hk, ⟨rfl, rfl, rfl, rfl, rfl, trivial⟩, Am hkn8 hkey hop hI⟩, hdec⟩
 ·refine Vm [(0, .int .i64 _)] [_] [.int .i64 0] [0] hI rfl Tryd.underlying24 (fun _ => by kernel_rfl) ?_
  clear hI; rintro b43 w - - hI
  try replace hI := Ee hI
  refine Aa ⟨hXS _ hI.d0.d0.d0.d1.d1, ?_⟩
  refine FI 10 12 18 rfl rfl rfl (by kernel_rfl) rfl rfl rfl ?_ ?_ ?_
  ·refine V3 (.slice _ _ _) rfl (hI.c1 hgp) ?_
   refine Aa ⟨hXS _ hI.d0.d0.d0.d1.d1, ?_⟩
   refine T1 12 18 rfl ?_ ?_
   ·refine Te 63 8 [opV ⟨proc, (kn : Int), kind, a, b, res, call, ret⟩] hI rfl Tryd.underlying22 rfl (by simp [opV]) ?_
    clear hI; rintro b35 w - - hI
    refine Aa ⟨hXS _ hI.d0.d0.d0.d0.d1.d1, ?_⟩
    refine T1 13 18 rfl ?_ ?_
    ·refine Ve 64 (.agg #[.int .i64 0, .int .i64 0, .int .i64 0, .int .i64 0, .int .i64 0, .int .i64 0, .int .i64 0, .int .i64 0]) hI rfl Tryd.underlying22 rfl (by rfl) hI.lit0 (by rfl) (Nat.zero_le _) ?_
     clear hI; rintro A36 c36 w hA36 hc36 hI
     replace hI := hI.d0
     refine Aa ⟨hXS _ hI.d0.d0.d0.d1.d1, ?_⟩
     refine V2 18 rfl ?_
     refine V3 (.slice _ _ _) rfl (hI.c2 hgn) ?_
     refine Aa ⟨hXS _ hI.d0.d0.d0.d1.d1, ?_⟩
     refine V2 21 rfl ?_
     refine Ve 8 (.int .i64 0) hI rfl Tryd.underlying24 rfl (by rfl) hI.lit0 (by rfl) (Nat.zero_le _) ?_
     clear hI; rintro A44 c44 w hA44 hc44 hI
     replace hI := hI.d0
     refine Aa ⟨hXS _ hI.d0.d0.d1.d1, ?_⟩
     refine Vl 22 (hXS _ hI.d0.d0.d1.d1) rfl Tryd.underlying39 rfl (V2 23 rfl ?_)
     refine Vp kn (.slice _ _ _) hI rfl (by simp [Nat.blt, slC]; omega) rfl ?_
     rw [Ai hkey]
     clear hI; intro w hI
     refine Aa ⟨hXS _ hI.d0.d0.d1.d1, ?_⟩
     refine BV (by kernel_rfl) ?_
     clear hXS hSx
     refine Cm (fun _ => True) [] ?_
     refine Ae 24 rfl rfl (by kernel_rfl) trivial rfl (fun W _ => (by exact Bz rfl Tryd.underlying31 (by kernel_rfl) rfl rfl rfl (by omega))) ?_
     refine V2 25 rfl ?_
     refine Vr kn (.slice _ _ _) hI rfl (by simp [Nat.blt, slC]; omega) rfl ?_
     rw [Ai hkey]
     clear hI; intro w hI
     refine Aa ⟨trivial, ?_⟩
     refine Av (by kernel_rfl) (Ab (Vb rfl (V0 rfl (Aa ?_))))
     exact ⟨⟨k + 1, _, _, _, _, hk, ⟨rfl, rfl, rfl, rfl, rfl, trivial⟩, Am hkn8 hkey hop hI⟩, hdec⟩
    ·refine V3 (.slice _ _ _) rfl (hI.c3 hgn) ?_
     refine Aa ⟨hXS _ hI.d0.d0.d0.d0.d1.d1, ?_⟩
     refine V2 13 rfl ?_
     refine Ve 64 (.agg #[.int .i64 0, .int .i64 0, .int .i64 0, .int .i64 0, .int .i64 0, .int .i64 0, .int .i64 0, .int .i64 0]) hI rfl Tryd.underlying22 rfl (by rfl) hI.lit0 (by rfl) (Nat.zero_le _) ?_
     clear hI; rintro A36 c36 w hA36 hc36 hI
     replace hI := hI.d0
     refine Aa ⟨hXS _ hI.d0.d0.d0.d1.d1, ?_⟩
     refine V2 21 rfl ?_
     refine Ve 8 (.int .i64 0) hI rfl Tryd.underlying24 rfl (by rfl) hI.lit0 (by rfl) (Nat.zero_le _) ?_
     clear hI; rintro A44 c44 w hA44 hc44 hI
     replace hI := hI.d0
     refine Aa ⟨hXS _ hI.d0.d0.d1.d1, ?_⟩
     refine Vl 22 (hXS _ hI.d0.d0.d1.d1) rfl Tryd.underlying39 rfl (V2 23 rfl ?_)
     refine Vp kn (.slice _ _ _) hI rfl (by simp [Nat.blt, slC]; omega) rfl ?_
     rw [Ai hkey]
     clear hI; intro w hI
     refine Aa ⟨hXS _ hI.d0.d0.d1.d1, ?_⟩
     refine BV (by kernel_rfl) ?_
     clear hXS hSx
     refine Cm (fun _ => True) [] ?_
     refine Ae 24 rfl rfl (by kernel_rfl) trivial rfl (fun W _ => (by exact Bz rfl Tryd.underlying31 (by kernel_rfl) rfl rfl rfl (by omega))) ?_
     refine V2 25 rfl ?_
     refine Vr kn (.slice _ _ _) hI rfl (by simp [Nat.blt, slC]; omega) rfl ?_
     rw [Ai hkey]
     clear hI; intro w hI
     refine Aa ⟨trivial, ?_⟩
     refine Av (by kernel_rfl) (Ab (Vb rfl (V0 rfl (Aa ?_))))
     exact ⟨⟨k + 1, _, _, _, _, hk, ⟨rfl, rfl, rfl, rfl, rfl, trivial⟩, Am hkn8 hkey hop hI⟩, hdec⟩
   ·refine V3 (.slice _ _ _) rfl (hI.c2 hgn) ?_
    refine Aa ⟨hXS _ hI.d0.d0.d0.d1.d1, ?_⟩
    refine V2 12 rfl ?_
    refine Te 63 8 [opV ⟨proc, (kn : Int), kind, a, b, res, call, ret⟩] hI rfl Tryd.underlying22 rfl (by simp [opV]) ?_
    clear hI; rintro b35 w - - hI
    refine Aa ⟨hXS _ hI.d0.d0.d0.d0.d1.d1, ?_⟩
    refine V2 13 rfl ?_
    refine Ve 64 (.agg #[.int .i64 0, .int .i64 0, .int .i64 0, .int .i64 0, .int .i64 0, .int .i64 0, .int .i64 0, .int .i64 0]) hI rfl Tryd.underlying22 rfl (by rfl) hI.lit0 (by rfl) (Nat.zero_le _) ?_
    clear hI; rintro A36 c36 w hA36 hc36 hI
    replace hI := hI.d0
    refine Aa ⟨hXS _ hI.d0.d0.d0.d1.d1, ?_⟩
    refine V2 21 rfl ?_
    refine Ve 8 (.int .i64 0) hI rfl Tryd.underlying24 rfl (by rfl) hI.lit0 (by rfl) (Nat.zero_le _) ?_
    clear hI; rintro A44 c44 w hA44 hc44 hI
    replace hI := hI.d0
    refine Aa ⟨hXS _ hI.d0.d0.d1.d1, ?_⟩
    refine Vl 22 (hXS _ hI.d0.d0.d1.d1) rfl Tryd.underlying39 rfl (V2 23 rfl ?_)
    refine Vp kn (.slice _ _ _) hI rfl (by simp [Nat.blt, slC]; omega) rfl ?_
    rw [Ai hkey]
    clear hI; intro w hI
    refine Aa ⟨hXS _ hI.d0.d0.d1.d1, ?_⟩
    refine BV (by kernel_rfl) ?_
    clear hXS hSx
    refine Cm (fun _ => True) [] ?_
    refine Ae 24 rfl rfl (by kernel_rfl) trivial rfl (fun W _ => (by exact Bz rfl Tryd.underlying31 (by kernel_rfl) rfl rfl rfl (by omega))) ?_
    refine V2 25 rfl ?_
    refine Vr kn (.slice _ _ _) hI rfl (by simp [Nat.blt, slC]; omega) rfl ?_
    rw [Ai hkey]
    clear hI; intro w hI
    refine Aa ⟨trivial, ?_⟩
    refine Av (by kernel_rfl) (Ab (Vb rfl (V0 rfl (Aa ?_))))
    exact ⟨⟨k + 1, _, _, _, _, hk, ⟨rfl, rfl, rfl, rfl, rfl, trivial⟩, Am hkn8 hkey hop hI⟩, hdec⟩
  ·refine Te 63 8 [opV ⟨proc, (kn : Int), kind, a, b, res, call, ret⟩] hI rfl Tryd.underlying22 rfl (by simp [opV]) ?_
   clear hI; rintro b35 w - - hI
   refine Aa ⟨hXS _ hI.d0.d0.d0.d0.d1.d1, ?_⟩
   refine T1 10 18 rfl ?_ ?_
   ·refine V3 (.slice _ _ _) rfl (hI.c2 hgp) ?_
    refine Aa ⟨hXS _ hI.d0.d0.d0.d0.d1.d1, ?_⟩
    refine T1 13 18 rfl ?_ ?_
    ·refine Ve 64 (.agg #[.int .i64 0, .int .i64 0, .int .i64 0, .int .i64 0, .int .i64 0, .int .i64 0, .int .i64 0, .int .i64 0]) hI rfl Tryd.underlying22 rfl (by rfl) hI.lit0 (by rfl) (Nat.zero_le _) ?_
     clear hI; rintro A36 c36 w hA36 hc36 hI
     replace hI := hI.d0
     refine Aa ⟨hXS _ hI.d0.d0.d0.d1.d1, ?_⟩
     refine V2 18 rfl ?_
     refine V3 (.slice _ _ _) rfl (hI.c2 hgn) ?_
     refine Aa ⟨hXS _ hI.d0.d0.d0.d1.d1, ?_⟩
     refine V2 21 rfl ?_
     refine Ve 8 (.int .i64 0) hI rfl Tryd.underlying24 rfl (by rfl) hI.lit0 (by rfl) (Nat.zero_le _) ?_
     clear hI; rintro A44 c44 w hA44 hc44 hI
     replace hI := hI.d0
     refine Aa ⟨hXS _ hI.d0.d0.d1.d1, ?_⟩
     refine Vl 22 (hXS _ hI.d0.d0.d1.d1) rfl Tryd.underlying39 rfl (V2 23 rfl ?_)
     refine Vp kn (.slice _ _ _) hI rfl (by simp [Nat.blt, slC]; omega) rfl ?_
     rw [Ai hkey]
     clear hI; intro w hI
     refine Aa ⟨hXS _ hI.d0.d0.d1.d1, ?_⟩
     refine BV (by kernel_rfl) ?_
     clear hXS hSx
     refine Cm (fun _ => True) [] ?_
     refine Ae 24 rfl rfl (by kernel_rfl) trivial rfl (fun W _ => (by exact Bz rfl Tryd.underlying31 (by kernel_rfl) rfl rfl rfl (by omega))) ?_
     refine V2 25 rfl ?_
     refine Vr kn (.slice _ _ _) hI rfl (by simp [Nat.blt, slC]; omega) rfl ?_
     rw [Ai hkey]
     clear hI; intro w hI
     refine Aa ⟨trivial, ?_⟩
     refine Av (by kernel_rfl) (Ab (Vb rfl (V0 rfl (Aa ?_))))
     exact ⟨⟨k + 1, _, _, _, _, hk, ⟨rfl, rfl, rfl, rfl, rfl, trivial⟩, Am hkn8 hkey hop hI⟩, hdec⟩
    ·refine V3 (.slice _ _ _) rfl (hI.c3 hgn) ?_
     refine Aa ⟨hXS _ hI.d0.d0.d0.d0.d1.d1, ?_⟩
     refine V2 13 rfl ?_
     refine Ve 64 (.agg #[.int .i64 0, .int .i64 0, .int .i64 0, .int .i64 0, .int .i64 0, .int .i64 0, .int .i64 0, .int .i64 0]) hI rfl Tryd.underlying22 rfl (by rfl) hI.lit0 (by rfl) (Nat.zero_le _) ?_
     clear hI; rintro A36 c36 w hA36 hc36 hI
     replace hI := hI.d0
     refine Aa ⟨hXS _ hI.d0.d0.d0.d1.d1, ?_⟩
     refine V2 21 rfl ?_
     refine Ve 8 (.int .i64 0) hI rfl Tryd.underlying24 rfl (by rfl) hI.lit0 (by rfl) (Nat.zero_le _) ?_
     clear hI; rintro A44 c44 w hA44 hc44 hI
     replace hI := hI.d0
     refine Aa ⟨hXS _ hI.d0.d0.d1.d1, ?_⟩
     refine Vl 22 (hXS _ hI.d0.d0.d1.d1) rfl Tryd.underlying39 rfl (V2 23 rfl ?_)
     refine Vp kn (.slice _ _ _) hI rfl (by simp [Nat.blt, slC]; omega) rfl ?_
     rw [Ai hkey]
     clear hI; intro w hI
     refine Aa ⟨hXS _ hI.d0.d0.d1.d1, ?_⟩
     refine BV (by kernel_rfl) ?_
     clear hXS hSx
     refine Cm (fun _ => True) [] ?_
     refine Ae 24 rfl rfl (by kernel_rfl) trivial rfl (fun W _ => (by exact Bz rfl Tryd.underlying31 (by kernel_rfl) rfl rfl rfl (by omega))) ?_
     refine V2 25 rfl ?_
     refine Vr kn (.slice _ _ _) hI rfl (by simp [Nat.blt, slC]; omega) rfl ?_
     rw [Ai hkey]
     clear hI; intro w hI
     refine Aa ⟨trivial, ?_⟩
     refine Av (by kernel_rfl) (Ab (Vb rfl (V0 rfl (Aa ?_))))
     exact ⟨⟨k + 1, _, _, _, _, hk, ⟨rfl, rfl, rfl, rfl, rfl, trivial⟩, Am hkn8 hkey hop hI⟩, hdec⟩
   ·refine V3 (.slice _ _ _) rfl (hI.c3 hgn) ?_
    refine Aa ⟨hXS _ hI.d0.d0.d0.d0.d1.d1, ?_⟩
    refine V2 10 rfl ?_
    refine V3 (.slice _ _ _) rfl (hI.c2 hgp) ?_
    refine Aa ⟨hXS _ hI.d0.d0.d0.d0.d1.d1, ?_⟩
    refine V2 13 rfl ?_
    refine Ve 64 (.agg #[.int .i64 0, .int .i64 0, .int .i64 0, .int .i64 0, .int .i64 0, .int .i64 0, .int .i64 0, .int .i64 0]) hI rfl Tryd.underlying22 rfl (by rfl) hI.lit0 (by rfl) (Nat.zero_le _) ?_
    clear hI; rintro A36 c36 w hA36 hc36 hI
    replace hI := hI.d0
    refine Aa ⟨hXS _ hI.d0.d0.d0.d1.d1, ?_⟩
    refine V2 21 rfl ?_
    refine Ve 8 (.int .i64 0) hI rfl Tryd.underlying24 rfl (by rfl) hI.lit0 (by rfl) (Nat.zero_le _) ?_
    clear hI; rintro A44 c44 w hA44 hc44 hI
    replace hI := hI.d0
    refine Aa ⟨hXS _ hI.d0.d0.d1.d1, ?_⟩
    refine Vl 22 (hXS _ hI.d0.d0.d1.d1) rfl Tryd.underlying39 rfl (V2 23 rfl ?_)
    refine Vp kn (.slice _ _ _) hI rfl (by simp [Nat.blt, slC]; omega) rfl ?_
    rw [Ai hkey]
    clear hI; intro w hI
    refine Aa ⟨hXS _ hI.d0.d0.d1.d1, ?_⟩
    refine BV (by kernel_rfl) ?_
    clear hXS hSx
    refine Cm (fun _ => True) [] ?_
    refine Ae 24 rfl rfl (by kernel_rfl) trivial rfl (fun W _ => (by exact Bz rfl Tryd.underlying31 (by kernel_rfl) rfl rfl rfl (by omega))) ?_
    refine V2 25 rfl ?_
    refine Vr kn (.slice _ _ _) hI rfl (by simp [Nat.blt, slC]; omega) rfl ?_
    rw [Ai hkey]
    clear hI; intro w hI
    refine Aa ⟨trivial, ?_⟩
    refine Av (by kernel_rfl) (Ab (Vb rfl (V0 rfl (Aa ?_))))
    exact ⟨⟨k + 1, _, _, _, _, hk, ⟨rfl, rfl, rfl, rfl, rfl, trivial⟩, Am hkn8 hkey hop hI⟩, hdec⟩
  ·refine V3 (.slice _ _ _) rfl (hI.c2 hgn) ?_
   refine Aa ⟨hXS _ hI.d0.d0.d0.d1.d1, ?_⟩
   refine T1 10 12 rfl ?_ ?_
   ·refine V3 (.slice _ _ _) rfl (hI.c1 hgp) ?_
    refine Aa ⟨hXS _ hI.d0.d0.d0.d1.d1, ?_⟩
    refine V2 12 rfl ?_
    refine Te 63 8 [opV ⟨proc, (kn : Int), kind, a, b, res, call, ret⟩] hI rfl Tryd.underlying22 rfl (by simp [opV]) ?_
    clear hI; rintro b35 w - - hI
    refine Aa ⟨hXS _ hI.d0.d0.d0.d0.d1.d1, ?_⟩
    refine V2 13 rfl ?_
    refine Ve 64 (.agg #[.int .i64 0, .int .i64 0, .int .i64 0, .int .i64 0, .int .i64 0, .int .i64 0, .int .i64 0, .int .i64 0]) hI rfl Tryd.underlying22 rfl (by rfl) hI.lit0 (by rfl) (Nat.zero_le _) ?_
    clear hI; rintro A36 c36 w hA36 hc36 hI
    replace hI := hI.d0
    refine Aa ⟨hXS _ hI.d0.d0.d0.d1.d1, ?_⟩
    refine V2 21 rfl ?_
    refine Ve 8 (.int .i64 0) hI rfl Tryd.underlying24 rfl (by rfl) hI.lit0 (by rfl) (Nat.zero_le _) ?_
    clear hI; rintro A44 c44 w hA44 hc44 hI
    replace hI := hI.d0
    refine Aa ⟨hXS _ hI.d0.d0.d1.d1, ?_⟩
    refine Vl 22 (hXS _ hI.d0.d0.d1.d1) rfl Tryd.underlying39 rfl (V2 23 rfl ?_)
    refine Vp kn (.slice _ _ _) hI rfl (by simp [Nat.blt, slC]; omega) rfl ?_
    rw [Ai hkey]
    clear hI; intro w hI
    refine Aa ⟨hXS _ hI.d0.d0.d1.d1, ?_⟩
    refine BV (by kernel_rfl) ?_
    clear hXS hSx
    refine Cm (fun _ => True) [] ?_
    refine Ae 24 rfl rfl (by kernel_rfl) trivial rfl (fun W _ => (by exact Bz rfl Tryd.underlying31 (by kernel_rfl) rfl rfl rfl (by omega))) ?_
    refine V2 25 rfl ?_
    refine Vr kn (.slice _ _ _) hI rfl (by simp [Nat.blt, slC]; omega) rfl ?_
    rw [Ai hkey]
    clear hI; intro w hI
    refine Aa ⟨trivial, ?_⟩
    refine Av (by kernel_rfl) (Ab (Vb rfl (V0 rfl (Aa ?_))))
    exact ⟨⟨k + 1, _, _, _, _, hk, ⟨rfl, rfl, rfl, rfl, rfl, trivial⟩, Am hkn8 hkey hop hI⟩, hdec⟩
   ·refine Te 63 8 [opV ⟨proc, (kn : Int), kind, a, b, res, call, ret⟩] hI rfl Tryd.underlying22 rfl (by simp [opV]) ?_
    clear hI; rintro b35 w - - hI
    refine Aa ⟨hXS _ hI.d0.d0.d0.d0.d1.d1, ?_⟩
    refine V2 10 rfl ?_
    refine V3 (.slice _ _ _) rfl (hI.c2 hgp) ?_
    refine Aa ⟨hXS _ hI.d0.d0.d0.d0.d1.d1, ?_⟩
    refine V2 13 rfl ?_
    refine Ve 64 (.agg #[.int .i64 0, .int .i64 0, .int .i64 0, .int .i64 0, .int .i64 0, .int .i64 0, .int .i64 0, .int .i64 0]) hI rfl Tryd.underlying22 rfl (by rfl) hI.lit0 (by rfl) (Nat.zero_le _) ?_
    clear hI; rintro A36 c36 w hA36 hc36 hI
    replace hI := hI.d0
    refine Aa ⟨hXS _ hI.d0.d0.d0.d1.d1, ?_⟩
    refine V2 21 rfl ?_
    refine Ve 8 (.int .i64 0) hI rfl Tryd.underlying24 rfl (by rfl) hI.lit0 (by rfl) (Nat.zero_le _) ?_
    clear hI; rintro A44 c44 w hA44 hc44 hI
    replace hI := hI.d0
    refine Aa ⟨hXS _ hI.d0.d0.d1.d1, ?_⟩
    refine Vl 22 (hXS _ hI.d0.d0.d1.d1) rfl Tryd.underlying39 rfl (V2 23 rfl ?_)
    refine Vp kn (.slice _ _ _) hI rfl (by simp [Nat.blt, slC]; omega) rfl ?_
    rw [Ai hkey]
    clear hI; intro w hI
    refine Aa ⟨hXS _ hI.d0.d0.d1.d1, ?_⟩
    refine BV (by kernel_rfl) ?_
    clear hXS hSx
    refine Cm (fun _ => True) [] ?_
    refine Ae 24 rfl rfl (by kernel_rfl) trivial rfl (fun W _ => (by exact Bz rfl Tryd.underlying31 (by kernel_rfl) rfl rfl rfl (by omega))) ?_
    refine V2 25 rfl ?_
    refine Vr kn (.slice _ _ _) hI rfl (by simp [Nat.blt, slC]; omega) rfl ?_
    rw [Ai hkey]
    clear hI; intro w hI
    refine Aa ⟨trivial, ?_⟩
    refine Av (by kernel_rfl) (Ab (Vb rfl (V0 rfl (Aa ?_))))
    exact ⟨⟨k + 1, _, _, _, _, hk, ⟨rfl, rfl, rfl, rfl, rfl, trivial⟩, Am hkn8 hkey hop hI⟩, hdec⟩
theorem UD (l : List Op8) : (l.flatMap opV).length = l.length * 8 := by
 induction l with
 | nil => rfl
 | cons s l ih => rw [List.flatMap_cons, List.length_append, ih]; simp [opV]; omega
theorem BK.of_blk {w : World} {g T : Nat} {cs : Array Value} (l : List Op8) (hb : Blk w g T cs) (hc : cs.toList = l.flatMap opV) (hl : l.length ≤ 100000) : BK w (fun _ => True) (.slice (some ⟨g, 0, none⟩) l.length l.length) l :=
 ⟨_, _, rfl, Nat.le_refl _, by omega, UD l, fun _ => ⟨g, 0, rfl, trivial, fun j u hj => by
  rw [Nat.zero_add, hb.cell, ← Array.getElem?_toList, hc]; exact hj⟩⟩
def opW : Op8 := ⟨0, 0, 2, 1, 0, 0, 0, 1⟩
def opX (r : Int) : Op8 := ⟨0, 0, 1, 0, 0, r, 2, 3⟩
theorem lt2 {k : Nat} (h : k < 2) : k = 0 ∨ k = 1 := by omega
theorem Q0 (r : Int) (hr : r = 1 ∨ r = 2) : BA 1 [opW, opX r] 10 := by
 rcases hr with rfl | rfl
 all_goals
  refine ⟨by decide, by decide, by decide, by decide, ⟨by decide, fun k hk => ?_⟩, fun k hk => ?_⟩
  ·have hk : k < 2 := hk
   rcases lt2 hk with rfl | rfl
   ·refine ⟨by decide, by decide, by unfold MH; decide, fun k hk => ?_, fun k hk => ?_⟩
    ·have hk : k < 0 := hk; omega
    ·have hk : k < 0 := hk; omega
   ·refine ⟨by decide, by decide, by unfold MH; decide, fun k hk => ?_, fun k hk => ?_⟩
    ·have hk : k < 1 := hk
     obtain rfl : k = 0 := by omega
     unfold Ca; decide
    ·have hk : k < 1 := hk
     obtain rfl : k = 0 := by omega
     decide
  ·have hk : k < 2 := hk
   rcases lt2 hk with rfl | rfl
   ·decide
   ·exact (by decide : DD 1 1 = true)
theorem QZ : (Bj 1 [opW, opX 1] BN 10).1 = 1 := by decide +kernel
theorem Wy : (Bj 1 [opW, opX 1] BN 10).2.ord.length = 2 := by decide +kernel
theorem Wx : (Bj 1 [opW, opX 2] BN 10).1 = 2 := by decide +kernel
theorem Jn (w0 : World) (hk : Dq w0) : Calls Tryd.prog 8 #[] w0 fun en w' => en = .returned (.bool true) ∧ Pure w0 w' := by
 have hI := Inv.start (fun _ => False) w0
 refine Vx Tryd.f8.ntmps Tryd.func8 rfl ?_
 refine Ac (Ab (V6 rfl (Aa (Ac (Ab ?_)))))
 refine Af rfl rfl rfl (EI (qs := [(0, .int .i64 _), (2, .int .i64 _), (3, .int .i64 _), (6, .int .i64 _), (7, .int .i64 _)]) (vs := [_, _, _, _, _, _, _, _]) [.int .i64 0, .int .i64 0, .int .i64 0, .int .i64 0, .int .i64 0, .int .i64 0, .int .i64 0, .int .i64 0] [0, 2, 3, 6, 7] rfl rfl rfl (fun _ => by kernel_rfl)) ?_
 refine Vw (.agg #[.int .i64 0, .int .i64 0, .int .i64 0, .int .i64 0, .int .i64 0, .int .i64 0, .int .i64 0, .int .i64 0]) (#[.int .i64 0, .int .i64 0, .int .i64 0, .int .i64 0, .int .i64 0, .int .i64 0, .int .i64 0, .int .i64 0]) hI rfl ?_
 clear hI; rintro b1 w - - hI
 refine Vz 8 (#[_, _, _, _, _, _, _, _]) (.agg _) hI rfl ?_
 clear hI; intro w hI
 refine Aa (Ac (Ab ?_))
 refine Af rfl rfl rfl (EI (qs := [(0, .int .i64 _), (2, .int .i64 _), (5, .int .i64 _), (6, .int .i64 _), (7, .int .i64 _)]) (vs := [_, _, _, _, _, _, _, _]) [.int .i64 0, .int .i64 0, .int .i64 0, .int .i64 0, .int .i64 0, .int .i64 0, .int .i64 0, .int .i64 0] [0, 2, 5, 6, 7] rfl rfl rfl (fun _ => by kernel_rfl)) ?_
 refine Vw (.agg #[.int .i64 0, .int .i64 0, .int .i64 0, .int .i64 0, .int .i64 0, .int .i64 0, .int .i64 0, .int .i64 0]) (#[.int .i64 0, .int .i64 0, .int .i64 0, .int .i64 0, .int .i64 0, .int .i64 0, .int .i64 0, .int .i64 0]) hI rfl ?_
 clear hI; rintro b2 w - - hI
 refine Vz 8 (#[_, _, _, _, _, _, _, _]) (.agg _) hI rfl ?_
 clear hI; intro w hI
 refine Aa (Ac (Ab (Tk 8 rfl hI.g1 (Tk 8 rfl hI.g0 (Vm [(0, .agg #[_, _, _, _, _, _, _, _]), (1, .agg #[_, _, _, _, _, _, _, _])] [_, _, _, _, _, _, _, _, _, _, _, _, _, _, _, _] [.int .i64 0, .int .i64 0, .int .i64 0, .int .i64 0, .int .i64 0, .int .i64 0, .int .i64 0, .int .i64 0, .int .i64 0, .int .i64 0, .int .i64 0, .int .i64 0, .int .i64 0, .int .i64 0, .int .i64 0, .int .i64 0] [0, 8] hI rfl Tryd.underlying22 (fun _ => by kernel_rfl) ?_)))))
 clear hI; rintro b12 w - - hI
 refine Va [.int .i64 _, .slice _ _ _, .int .i64 _] rfl Tryd.func6 rfl ?_
 refine (Ki 1 _ 2 2 [opW, opX 1] 10 _ _ (BK.of_blk [opW, opX 1] hI.g0 rfl (by decide)) (hk.pure hI.pu)).mono ?_
 rintro e w1 (⟨_, A', c', rfl, hT⟩ | ⟨h1, _⟩)
 rotate_left
 ·exact absurd (Q0 1 (.inl rfl)) h1
 have e3 : F3 (Bj 1 [opW, opX 1] BN (10 : Int).toNat) = (Bj 1 [opW, opX 1] BN 10).2.ord := if_pos QZ
 rw [e3] at hT ⊢
 rw [show (10 : Int).toNat = 10 from rfl, QZ, Wy]
 refine ⟨_, rfl, ?_⟩
 replace hI := hI.app1 hT
 refine Ta rfl (Vk rfl (Vk rfl (Vw (.agg #[.int .i64 0, .slice none 0 0, .int .i64 0]) (#[.int .i64 0, .slice none 0 0, .int .i64 0]) hI rfl ?_)))
 clear hI; rintro b3 w - - hI
 refine Vz 3 (#[_, _, _]) (.agg _) hI rfl ?_
 clear hI; intro w hI
 refine Vy rfl (Aa (Ac (Ab (V7 5 rfl ?_))))
 refine ZC (u := .int .i64 _) hI rfl rfl rfl rfl rfl rfl (by kernel_rfl) rfl rfl rfl ?_
 clear hI; intro w hI
 refine Aa (Ac (Ab (Tk 8 rfl hI.g4 (Tk 8 rfl hI.g3 (Vm [(0, .agg #[_, _, _, _, _, _, _, _]), (1, .agg #[_, _, _, _, _, _, _, _])] [_, _, _, _, _, _, _, _, _, _, _, _, _, _, _, _] [.int .i64 0, .int .i64 0, .int .i64 0, .int .i64 0, .int .i64 0, .int .i64 0, .int .i64 0, .int .i64 0, .int .i64 0, .int .i64 0, .int .i64 0, .int .i64 0, .int .i64 0, .int .i64 0, .int .i64 0, .int .i64 0] [0, 8] hI rfl Tryd.underlying22 (fun _ => by kernel_rfl) ?_)))))
 clear hI; rintro b20 w - - hI
 refine Va [.int .i64 _, .slice _ _ _, .int .i64 _] rfl Tryd.func6 rfl ?_
 refine (Ki 1 _ 2 2 [opW, opX 2] 10 _ _ (BK.of_blk [opW, opX 2] hI.g0 rfl (by decide)) (hk.pure hI.pu)).mono ?_
 rintro e w1 (⟨_, A', c', rfl, hT⟩ | ⟨h1, _⟩)
 rotate_left
 ·exact absurd (Q0 2 (.inr rfl)) h1
 rw [show (10 : Int).toNat = 10 from rfl, Wx]
 refine ⟨_, rfl, ?_⟩
 replace hI := hI.app1 hT
 refine Ta rfl (Vk rfl (Vk rfl (Vw (.agg #[.int .i64 0, .slice none 0 0, .int .i64 0]) (#[.int .i64 0, .slice none 0 0, .int .i64 0]) hI rfl ?_)))
 clear hI; rintro b5 w - - hI
 refine Vz 3 (#[_, _, _]) (.agg _) hI rfl ?_
 clear hI; intro w hI
 refine Vy rfl (Aa (Ac (Ab ?_)))
 refine Af rfl rfl rfl (by exact Fb rfl rfl) ?_
 refine Af rfl rfl rfl (by exact Qo rfl Tryd.underlying28 rfl) ?_
 refine V5 rfl ?_
 refine Af rfl rfl rfl (by exact Fb rfl rfl) ?_
 refine Af rfl rfl rfl (by exact Qo rfl Tryd.underlying28 rfl) ?_
 refine Vg rfl (V5 rfl (V7 0 rfl (V3 (.int .i64 _) rfl (hI.c3 rfl) (Vu rfl (Vg rfl (V5 rfl (V7 1 rfl (V3 (.slice _ _ _) rfl (hI.c3 rfl) (Vi rfl Tryd.underlying24 rfl (Vu rfl (Vg rfl (V5 rfl (V7 0 rfl ?_)))))))))))))
 refine V3 (.int .i64 _) rfl (hI.c0 rfl) (Vu rfl (Vg rfl (V6 rfl (Aa ?_))))
 refine Aj ?_
 exact Bw 0 (.inr rfl) rfl ⟨rfl, hI.pu⟩
end Go.Proofs.YtkkmokodaejheaaDoor
namespace Go.Proofs.YtkkmokodaejheaaDoor
open Go Go.ChangeShapes Go.WideShapes Go.Deep
theorem NU {α : Type} {P : Nat → α → Prop} : ∀ (n : Nat), (∀ i, i < n → ∃ x, P i x) → ∃ l : List α, l.length = n ∧ ∀ (i : Nat) x, l[i]? = some x → P i x
 | 0, _ => ⟨[], rfl, fun i x h => by simp at h⟩
 | n + 1, h => by
  obtain ⟨l, hl, hp⟩ := NU n (fun i hi => h i (by omega))
  obtain ⟨x, hx⟩ := h n (by omega)
  refine ⟨l ++ [x], by simp [hl], fun i y hy => ?_⟩
  rcases Nat.lt_trichotomy i n with hlt | heq | hgt
  ·rw [List.getElem?_append_left (by omega)] at hy; exact hp i y hy
  ·subst heq
   rw [List.getElem?_append_right (by omega), hl, Nat.sub_self] at hy
   simp at hy
   rw [← hy]; exact hx
  ·have := (List.getElem?_eq_some_iff.1 hy).1
   simp at this
   omega
theorem JV {size : Nat} : ∀ (ys : List (List Value)), (∀ y ∈ ys, y.length = size) → ∀ (k : Nat) (u : Value), ys.flatten[k]? = some u → 0 < size → ∃ i j y, k = i * size + j ∧ j < size ∧ ys[i]? = some y ∧ y[j]? = some u
 | [], _, k, u, h, _ => by simp at h
 | y :: ys, hs, k, u, h, h0 => by
  have hy := hs y (by simp)
  rw [List.flatten_cons] at h
  rcases Nat.lt_or_ge k size with hlt | hge
  ·rw [List.getElem?_append_left (by omega)] at h
   exact ⟨0, k, y, by omega, hlt, rfl, h⟩
  ·rw [List.getElem?_append_right (by omega), hy] at h
   obtain ⟨i, j, z, h1, h2, h3, h4⟩ := JV ys (fun z hz => hs z (by simp [hz])) (k - size) u h h0
   exact ⟨i + 1, j, z, by rw [Nat.add_mul]; omega, h2, h3, h4⟩
section
variable {H : Type} {enc : TypeId × Value → H} {P : Program} {w : World} {base : Nat} {spare : Nat → Bool} {held : Bool}
theorem Sd {t e : TypeId} {size fuel : Nat} {v : Value} {x : DataW H × List MemPlace} (ht : P.underlying t = some (.slice e)) (hC : P.cellsOf e = size) (h0 : 0 < size) (h : DataW.trod enc P w base spare held fuel t [v] = some x) :
  ∃ (A : Option Addr) (n c : Nat) (ys : List (List Value)), v = .slice A n c ∧ n ≤ c ∧ c ≤ 9223372036854775807 ∧ ys.length = n ∧ Rd w (fun k => k < w.heap.size) size (.slice A n c) n ys.flatten ∧
   ∀ y ∈ ys, y.length = size ∧ ∃ n' d, DataW.trod enc P w base spare held n' e y = some d := by
 rcases open_slice ht h with ⟨hcs, _⟩ | ⟨a, len, cap, m, n, D, Pl, hcs, hb, hl, hm, hmm, hx, hi⟩
 ·injection hcs with hcs _
  subst hcs
  exact ⟨none, 0, 0, [], rfl, Nat.le_refl _, by omega, rfl, Rd.nil w _ size, by simp⟩
 ·injection hcs with hcs _
  subst hcs
  have hlm : len ≤ m := by rw [hmm]; split <;> omega
  obtain ⟨ys, hyl, hy⟩ := NU (P := fun i y => (∀ j, j < size → w.cell? ((a.add (i * size)).add j) = y[j]?) ∧ y.length = size ∧ ∃ n' d, DataW.trod enc P w base spare held n' e y = some d) len (fun i hlt => by
   obtain ⟨cs', h1, h2⟩ := hi i (by omega)
   rw [hC] at h1
   obtain ⟨_, h3, h4⟩ := World.cells?_some h1
   exact ⟨cs', h4, h3, n, _, h2⟩)
  have hall : ∀ y ∈ ys, y.length = size ∧ ∃ n' d, DataW.trod enc P w base spare held n' e y = some d := fun y hmem => by
   obtain ⟨i, hi⟩ := List.getElem?_of_mem hmem
   exact (hy i y hi).2
  refine ⟨some a, len, cap, ys, rfl, hl, by simpa [maxLen] using hm, hyl, ⟨_, _, rfl, hl, by simpa [maxLen] using hm, ?_, fun hn => ?_⟩, hall⟩
  ·have : ∀ (l : List (List Value)), (∀ y ∈ l, y.length = size) → l.flatten.length = l.length * size := by
    intro l
    induction l with
    | nil => simp
    | cons y l ih =>
     intro hs
     rw [List.flatten_cons, List.length_append, hs y (by simp), ih (fun z hz => hs z (by simp [hz])), List.length_cons, Nat.add_mul]
     omega
   rw [this ys (fun y hm => (hall y hm).1), hyl]
  ·obtain ⟨y0, hy0⟩ : ∃ y, ys[0]? = some y := ⟨_, List.getElem?_eq_getElem (by omega)⟩
   obtain ⟨hc0, hl0, _⟩ := hy 0 y0 hy0
   have h1 := hc0 0 h0
   rw [List.getElem?_eq_getElem (by omega)] at h1
   obtain ⟨b, o, sp⟩ := a
   have hs : sp = none := by
    have := RZ h1
    simpa [Addr.add] using this
   subst hs
   refine ⟨b, o, rfl, ?_, fun k u hk => ?_⟩
   ·have := World.block_lt_of_cell? w _ h1
    simpa [Addr.add] using this
   ·obtain ⟨i, j, y, rfl, hj, hyi, hyj⟩ := JV ys (fun y hm => (hall y hm).1) k u hk h0
    have h2 := (hy i y hyi).1 j hj
    rw [hyj, Addr.add_lit, Addr.add_lit] at h2
    rw [← h2]
    congr 2
    omega
theorem Qw {e : TypeId} {fs : Array Field} {fuel : Nat} {y : List Value} {x : DataW H × List MemPlace} (he : P.underlying e = some (.struct fs)) (hone : oneCellFields P fs = true) (hC : P.cellsOf e = fs.size) (h : DataW.trod enc P w base spare held fuel e y = some x) :
  y.length = fs.size ∧ ∀ (j : Nat) (f : Field), fs[j]? = some f → ∃ (v : Value) (n' : Nat) (d : DataW H × List MemPlace), y[j]? = some v ∧ DataW.trod enc P w base spare held n' f.type [v] = some d := by
 obtain ⟨ys, n', hn', hy, hlen, hyl, hf⟩ := DataW.trod_struct he h
 rw [hC] at hlen
 refine ⟨hlen, fun j f hj => ?_⟩
 obtain ⟨ho, hk⟩ := hone_of hone j f hj
 have hjl : j < fs.size := (Array.getElem?_eq_some_iff.1 hj).1
 have hv : y[j]? = some (y[j]'(by omega)) := List.getElem?_eq_getElem (by omega)
 have h1 := hf j f hj
 rw [ho, hk] at h1
 have hone' : (y.drop j).take 1 = [y[j]'(by omega)] := by
  rw [List.drop_eq_getElem_cons (by omega)]
  rfl
 rw [hone'] at h1
 have hys : ys[j]? = some (ys[j]'(by omega)) := List.getElem?_eq_getElem (by omega)
 exact ⟨_, n', _, hv, h1.trans hys⟩
theorem decode {α : Type} {f : α → List Value} {R : α → Prop} : ∀ (ys : List (List Value)), (∀ y ∈ ys, ∃ a, y = f a ∧ R a) → ∃ l : List α, l.length = ys.length ∧ ys.flatten = l.flatMap f ∧ ∀ a ∈ l, R a
 | [], _ => ⟨[], rfl, rfl, by simp⟩
 | y :: ys, h => by
  obtain ⟨a, rfl, ha⟩ := h y (by simp)
  obtain ⟨l, h1, h2, h3⟩ := decode ys (fun z hz => h z (by simp [hz]))
  refine ⟨a :: l, by simp [h1], by simp [h2], fun b hb => ?_⟩
  rcases List.mem_cons.1 hb with rfl | hb
  ·exact ha
  ·exact h3 b hb
end
section
variable {H : Type} {enc : TypeId × Value → H} {P : Program} {w : World} {base : Nat} {spare : Nat → Bool} {held : Bool}
theorem UH {e : TypeId} {fs : Array Field} {fuel : Nat} {y : List Value} {x : DataW H × List MemPlace} (he : P.underlying e = some (.struct fs)) (hone : oneCellFields P fs = true) (hC : P.cellsOf e = fs.size) (hi : fs.toList.all (fun f => match P.underlying f.type with | some (.int .i64) => true | _ => false) = true) (h : DataW.trod enc P w base spare held fuel e y = some x) :
  ∃ l : List Int, l.length = fs.size ∧ y = Ba l ∧ ∀ z ∈ l, -9223372036854775808 ≤ z ∧ z ≤ 9223372036854775807 := by
 obtain ⟨hy, hf⟩ := Qw he hone hC h
 obtain ⟨l, hl, hP⟩ := NU (P := fun i z => y[i]? = some (Value.int .i64 z) ∧ -9223372036854775808 ≤ z ∧ z ≤ 9223372036854775807) fs.size (fun i hlt => by
  obtain ⟨v, n', d, hv, hd⟩ := hf i fs[i] (Array.getElem?_eq_getElem hlt)
  have ht : P.underlying fs[i].type = some (.int .i64) := by
   have := List.all_eq_true.1 hi fs[i] (by simp)
   split at this
   ·assumption
   ·cases this
  obtain ⟨z, hz, _, hwf⟩ := DataW.trod_int ht hd
  injection hz with hz _
  exact ⟨z, by rw [hv, hz], LH hwf⟩)
 refine ⟨l, hl, ?_, fun z hz => ?_⟩
 ·refine List.ext_getElem? fun i => ?_
  by_cases hlt : i < fs.size
  ·obtain ⟨z, hz⟩ : ∃ z, l[i]? = some z := ⟨_, List.getElem?_eq_getElem (by omega)⟩
   rw [(hP i z hz).1]
   simp [Ba, hz]
  ·rw [List.getElem?_eq_none (by omega), List.getElem?_eq_none (by simp [Ba]; omega)]
 ·obtain ⟨i, hi⟩ := List.getElem?_of_mem hz
  exact (hP i z hi).2
end
section
open Go.ChangeShapes Go.WideShapes Go.Deep
variable {H : Type} {enc : TypeId × Value → H} {w : World} {base : Nat} {spare : Nat → Bool} {held : Bool}
theorem Y5 {fuel : Nat} {y : List Value} {x : DataW H × List MemPlace} (hd : DataW.trod enc Tryd.prog w base spare held fuel 63 y = some x) : ∃ s : Op8, y = opV s := by
 obtain ⟨l, hl, rfl, _⟩ := UH Tryd.underlying63 (by kernel_rfl) (by kernel_rfl) (by kernel_rfl) hd
 match l, hl with
 | [a0, a1, a2, a3, a4, a5, a6, a7], _ => exact ⟨⟨a0, a1, a2, a3, a4, a5, a6, a7⟩, rfl⟩
theorem UG {fuel : Nat} {v : Value} {x : DataW H × List MemPlace} (h : DataW.trod enc Tryd.prog w base spare held fuel 22 [v] = some x) : ∃ A c l, v = .slice A l.length c ∧ BK w (fun k => k < w.heap.size) (.slice A l.length c) l := by
 obtain ⟨A, n, c, ys, rfl, _, _, hyl, hrd, hys⟩ := Sd (size := 8) Tryd.underlying22 (by kernel_rfl) (by omega) h
 obtain ⟨l, hl, hfl, _⟩ := decode (f := opV) (R := fun _ => True) ys (fun y hy => by
  obtain ⟨_, n', d, hd⟩ := hys y hy
  obtain ⟨s, hs⟩ := Y5 hd
  exact ⟨s, hs, trivial⟩)
 refine ⟨A, c, l, by rw [hl, hyl], ?_⟩
 unfold BK
 rw [hl, hyl, ← hfl]
 exact hrd
theorem Xi {v : Value} {d : DataW H} {p : List MemPlace} (h : DataW.Trod enc Tryd.prog w base spare held 22 v d p) (hv : v.cells = #[v]) : ∃ A c l, v = .slice A l.length c ∧ BK w (fun k => k < w.heap.size) (.slice A l.length c) l := by
 obtain ⟨fuel, hf⟩ := h
 rw [hv] at hf
 exact UG hf
end
end Go.Proofs.YtkkmokodaejheaaDoor
namespace Go.Proofs.YtkkmokodaejheaaDoor
open Go Go.ChangeShapes Go.WideShapes Go.RowKit
set_option maxRecDepth 20000
abbrev MS : List (String × DataW Unit) := [("math/bits.deBruijn32tab", Rows.laid_math_bits_deBruijn32tab), ("math/bits.deBruijn64tab", Rows.laid_math_bits_deBruijn64tab), ("internal/strconv.uint64pow10", Rows.laid_internal_strconv_uint64pow10), ("testimony/model.knows", Rows.laid_testimony_model_knows)]
theorem Aap : Tryd.prog.globalNamed "testimony/model.knows" = some 0 := by kernel_rfl
theorem LY {W : World} (h : laidMetH Tryd.prog MS W) : Dq W := by
 have h0 : laidMet Tryd.prog [("math/bits.deBruijn32tab", Rows.laid_math_bits_deBruijn32tab), ("math/bits.deBruijn64tab", Rows.laid_math_bits_deBruijn64tab), ("internal/strconv.uint64pow10", Rows.laid_internal_strconv_uint64pow10), ("testimony/model.knows", Rows.laid_testimony_model_knows)] W := h
 have h' : laidMet Tryd.prog [("testimony/model.knows", Lib.tabData .i64 knT)] W := h0.tail.tail.tail
 have ht := Lib.tabIs_of_head (k := .i64) (zs := knT) Aap (t := 105) (by kernel_rfl) Tryd.underlying105 Tryd.underlying3 (by kernel_rfl) (by kernel_rfl) h'
 exact fun i hi => ht.cell Aap i (by simpa [knT] using hi)
def XC (cs : Array Value) : Obj → Obj
 | .cells _ t f => .cells cs t f
 | o => o
noncomputable def Jr (os : Os) : World :=
 { World.holding Tryd.prog os ⟨#[], #[], []⟩ with heap := (((((((((World.holding Tryd.prog os ⟨#[], #[], []⟩).heap).modify 2 (XC #[.int .u8 0, .int .u8 1, .int .u8 28, .int .u8 2, .int .u8 29, .int .u8 14, .int .u8 24, .int .u8 3, .int .u8 30, .int .u8 22, .int .u8 20, .int .u8 15, .int .u8 25, .int .u8 17, .int .u8 4, .int .u8 8, .int .u8 31, .int .u8 27, .int .u8 13, .int .u8 23, .int .u8 21, .int .u8 19, .int .u8 16, .int .u8 7, .int .u8 26, .int .u8 12, .int .u8 18, .int .u8 6, .int .u8 11, .int .u8 5, .int .u8 10, .int .u8 9]))).modify 3 (XC #[.int .u8 0, .int .u8 1, .int .u8 56, .int .u8 2, .int .u8 57, .int .u8 49, .int .u8 28, .int .u8 3, .int .u8 61, .int .u8 58, .int .u8 42, .int .u8 50, .int .u8 38, .int .u8 29, .int .u8 17, .int .u8 4, .int .u8 62, .int .u8 47, .int .u8 59, .int .u8 36, .int .u8 45, .int .u8 43, .int .u8 51, .int .u8 22, .int .u8 53, .int .u8 39, .int .u8 33, .int .u8 30, .int .u8 24, .int .u8 18, .int .u8 12, .int .u8 5, .int .u8 63, .int .u8 55, .int .u8 48, .int .u8 27, .int .u8 60, .int .u8 41, .int .u8 37, .int .u8 16, .int .u8 46, .int .u8 35, .int .u8 44, .int .u8 21, .int .u8 52, .int .u8 32, .int .u8 23, .int .u8 11, .int .u8 54, .int .u8 26, .int .u8 40, .int .u8 15, .int .u8 34, .int .u8 20, .int .u8 31, .int .u8 10, .int .u8 25, .int .u8 14, .int .u8 19, .int .u8 9, .int .u8 13, .int .u8 8, .int .u8 7, .int .u8 6]))).modify 1 (XC #[.int .u64 1, .int .u64 10, .int .u64 100, .int .u64 1000, .int .u64 10000, .int .u64 100000, .int .u64 1000000, .int .u64 10000000, .int .u64 100000000, .int .u64 1000000000, .int .u64 10000000000, .int .u64 100000000000, .int .u64 1000000000000, .int .u64 10000000000000, .int .u64 100000000000000, .int .u64 1000000000000000, .int .u64 10000000000000000, .int .u64 100000000000000000, .int .u64 1000000000000000000, .int .u64 10000000000000000000]))).modify 0 (XC #[.int .i64 0, .int .i64 14, .int .i64 48, .int .i64 448, .int .i64 1536, .int .i64 1536, .int .i64 6144])) }
theorem LW (os : Os) (args : Array Value) : laidMetH Tryd.prog MS ((Jr os).forCall (fun _ _ => 0) ⟨#[], args, []⟩).memory := by
 have h : laidMet Tryd.prog [("math/bits.deBruijn32tab", Rows.laid_math_bits_deBruijn32tab), ("math/bits.deBruijn64tab", Rows.laid_math_bits_deBruijn64tab), ("internal/strconv.uint64pow10", Rows.laid_internal_strconv_uint64pow10), ("testimony/model.knows", Rows.laid_testimony_model_knows)] ((Jr os).forCall (fun _ _ => 0) ⟨#[], args, []⟩).memory :=
  laidMet_of_run (ps := [.cell 2 0, .cell 2 1, .cell 2 2, .cell 2 3, .cell 2 4, .cell 2 5, .cell 2 6, .cell 2 7, .cell 2 8, .cell 2 9, .cell 2 10, .cell 2 11, .cell 2 12, .cell 2 13, .cell 2 14, .cell 2 15, .cell 2 16, .cell 2 17, .cell 2 18, .cell 2 19, .cell 2 20, .cell 2 21, .cell 2 22, .cell 2 23, .cell 2 24, .cell 2 25, .cell 2 26, .cell 2 27, .cell 2 28, .cell 2 29, .cell 2 30, .cell 2 31, .cell 3 0, .cell 3 1, .cell 3 2, .cell 3 3, .cell 3 4, .cell 3 5, .cell 3 6, .cell 3 7, .cell 3 8, .cell 3 9, .cell 3 10, .cell 3 11, .cell 3 12, .cell 3 13, .cell 3 14, .cell 3 15, .cell 3 16, .cell 3 17, .cell 3 18, .cell 3 19, .cell 3 20, .cell 3 21, .cell 3 22, .cell 3 23, .cell 3 24, .cell 3 25, .cell 3 26, .cell 3 27, .cell 3 28, .cell 3 29, .cell 3 30, .cell 3 31, .cell 3 32, .cell 3 33, .cell 3 34, .cell 3 35, .cell 3 36, .cell 3 37, .cell 3 38, .cell 3 39, .cell 3 40, .cell 3 41, .cell 3 42, .cell 3 43, .cell 3 44, .cell 3 45, .cell 3 46, .cell 3 47, .cell 3 48, .cell 3 49, .cell 3 50, .cell 3 51, .cell 3 52, .cell 3 53, .cell 3 54, .cell 3 55, .cell 3 56, .cell 3 57, .cell 3 58, .cell 3 59, .cell 3 60, .cell 3 61, .cell 3 62, .cell 3 63, .cell 1 0, .cell 1 1, .cell 1 2, .cell 1 3, .cell 1 4, .cell 1 5, .cell 1 6, .cell 1 7, .cell 1 8, .cell 1 9, .cell 1 10, .cell 1 11, .cell 1 12, .cell 1 13, .cell 1 14, .cell 1 15, .cell 1 16, .cell 1 17, .cell 1 18, .cell 1 19, .cell 0 0, .cell 0 1, .cell 0 2, .cell 0 3, .cell 0 4, .cell 0 5, .cell 0 6]) 80 (by kernel_rfl) (by kernel_rfl) (by kernel_rfl)
 exact h
end Go.Proofs.YtkkmokodaejheaaDoor
