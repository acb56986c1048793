/- record: Decode, Frame. -/
import Derived.Test.YtfagfkgmibmanaaRec3
namespace Go.Proofs.Ytfagfkgmibmanaa
open Go.RowKit
set_option linter.unusedVariables false
set_option linter.unusedSimpArgs false

theorem Bts.back {w0 w : World} {D : Nat → Prop} {v : Value} {l : List Nat} (hp : Pure w0 w) (hD : ∀ k, D k → k < w0.heap.size) (h : Bts w D v l) : Bts w0 D v l := by
  obtain ⟨A, c, hv, h1, h2, h3, h4⟩ := h
  refine ⟨A, c, hv, h1, h2, h3, fun hn => ?_⟩
  obtain ⟨b, o, e, hb, hc⟩ := h4 hn
  exact ⟨b, o, e, hb, fun j u hj => (World.cell?_of_block (hp.block b (hD b hb)).symm).trans (hc j u hj)⟩
def cN : Nat → List Nat → Option (List Int × List Nat)
  | 0, l => some ([], l)
  | k + 1, l => match cN k l with
    | some (vs, r) => (numF r).map fun p => (vs ++ [numV p.1], p.2)
    | none => none
theorem cN_len : ∀ {k : Nat} {l r : List Nat} {vs : List Int}, cN k l = some (vs, r) → vs.length = k
  | 0, l, r, vs, h => by simp [cN] at h; simp [← h.1]
  | k + 1, l, r, vs, h => by
    unfold cN at h
    split at h
    · rename_i vs' r' h'
      cases hn : numF r' with
      | none => simp [hn] at h
      | some q =>
        simp only [hn, Option.map_some, Option.some.injEq, Prod.mk.injEq] at h
        rw [← h.1, List.length_append, cN_len h']
        rfl
    · cases h
def codeRead (l : List Nat) : Option Ev := match l with
  | p :: t :: k :: d :: r => (cN 3 r).map fun q => ⟨p, t, k, d, q.1.getD 0 0, q.1.getD 1 0, q.1.getD 2 0⟩
  | _ => none
theorem codeRead_enc {e : Ev} (h : evOkB e = true) : codeRead (enc e) = some e := by
  obtain ⟨h1, h2, h3, h4, h5, h6, h7⟩ := ok_bounds h
  unfold enc codeRead
  simp only [List.append_assoc, List.cons_append, List.nil_append]
  have a1 := (num_enc h5 (encN e.b ++ encN e.res)).1
  have b1 := (num_enc h6 (encN e.res)).1
  have c1 := (num_enc h7 []).1
  rw [List.append_nil] at c1
  simp only [cN, a1, b1, c1, Option.map_some, numV_enc h5, numV_enc h6, numV_enc h7]
  obtain ⟨p, t, k, d, a, b, c⟩ := e
  dsimp only at *
  simp
  omega
theorem decF_code (l : List Nat) : decF l = match codeRead l with
    | some e => if evOkB e = true ∧ enc e = l then some e else none
    | none => none := by
  cases hc : codeRead l with
  | none =>
    cases hd : decF l with
    | none => rfl
    | some e =>
      obtain ⟨h1, h2⟩ := decF_some hd
      have := codeRead_enc h1
      rw [h2, hc] at this
      cases this
  | some e =>
    simp only
    by_cases hok : evOkB e = true ∧ enc e = l
    · rw [if_pos hok]
      have := decF_enc hok.1
      rwa [hok.2] at this
    · rw [if_neg hok]
      cases hd : decF l with
      | none => rfl
      | some e2 =>
        obtain ⟨h1, h2⟩ := decF_some hd
        have := codeRead_enc h1
        rw [h2, hc] at this
        injection this with this
        subst this
        exact absurd ⟨h1, h2⟩ hok
def arr3 (vs : List Int) : Array Value := #[.int .i64 (vs.getD 0 0), .int .i64 (vs.getD 1 0), .int .i64 (vs.getD 2 0)]
theorem arr3_set {vs : List Int} {k : Nat} (h : vs.length = k) (hk : k < 3) (v : Int) : (arr3 vs).setIfInBounds (0 + k * 1) (.int .i64 v) = arr3 (vs ++ [v]) := by
  subst h
  match vs, hk with
  | [], _ => rfl
  | [a], _ => rfl
  | [a, b], _ => rfl
  | a :: b :: c :: r, hk => simp at hk; omega
theorem varF_byte : ∀ (f u : Nat), ∀ x ∈ varF f u, x < 256
  | 0, _, x, h => by simp [varF] at h
  | f + 1, u, x, h => by
    unfold varF at h
    split at h
    · simp at h; omega
    · rcases List.mem_cons.1 h with rfl | h
      · omega
      · exact varF_byte f _ x h
theorem enc_byte {e : Ev} (h : evOkB e = true) : ∀ x ∈ enc e, x < 256 := by
  obtain ⟨h1, h2, h3, h4, _, _, _⟩ := ok_bounds h
  intro x hx
  unfold enc at hx
  simp only [List.append_assoc, List.mem_append, List.mem_cons, List.not_mem_nil, or_false] at hx
  rcases hx with (rfl | rfl | rfl | rfl) | hx | hx | hx
  · omega
  · omega
  · omega
  · omega
  · exact varF_byte _ _ x hx
  · exact varF_byte _ _ x hx
  · exact varF_byte _ _ x hx
def ev0 : Ev := ⟨0, 0, 0, 0, 0, 0, 0⟩
def DecPost (w : World) (l : List Nat) (en : Ending) (w' : World) : Prop :=
  Pure w w' ∧ ((∃ e, decF l = some e ∧ en = .returned (.tuple #[.agg (evL e).toArray, .nilIface])) ∨ (decF l = none ∧ ∃ x, IsErr x ∧ en = .returned (.tuple #[.agg (evL ev0).toArray, x])))

set_option maxHeartbeats 2000000 in
theorem decode_any (A : Option Addr) (n c : Nat) (l : List Nat) (D : Nat → Prop) (w0 : World) (h : Bts w0 D (.slice A n c) l) (hl : l.length = n) (hb : ∀ x ∈ l, x < 256) (hn : n < 1000000000) (hD : ∀ k, D k → k < w0.heap.size) :
    Calls Try.prog 19 #[.slice A n c] w0 (DecPost w0 l) := by
  subst hl
  have hcode := decF_code l
  have hI := Inv.start (fun _ => False) w0
  refine calls_of_W (N := Try.f19.ntmps) Try.func19 rfl rfl rfl ?_
  refine W_seq ?_
  refine W_region ?_
  refine WL_alloc (u := .agg #[.int .i64 0, .int .i64 0, .int .i64 0, .int .i64 0, .int .i64 0, .int .i64 0, .int .i64 0]) (vs := #[.int .i64 0, .int .i64 0, .int .i64 0, .int .i64 0, .int .i64 0, .int .i64 0, .int .i64 0]) hI rfl rfl rfl rfl (by kernel_rfl) rfl ?_
  clear hI; rintro b2 w - - hI
  refine WL_val rfl rfl rfl (by first | exact rAsgnN rfl rfl | exact rAsgnE rfl rfl | exact rAsgn rfl) ?_
  refine WL_nil ?_
  by_cases h4 : l.length < 4
  · have hnone : decF l = none := by
      rw [hcode]
      match l, h4 with
      | [], _ => rfl
      | [_], _ => rfl
      | [_, _], _ => rfl
      | [_, _, _], _ => rfl
      | _ :: _ :: _ :: _ :: _, h4 => simp at h4; omega
    refine W_seq ?_
    refine W_seq ?_
    refine W_region ?_
    refine WL_val rfl rfl rfl (by first | exact rMoveS rfl rfl | exact rMove rfl) ?_
    refine WL_val rfl rfl rfl (rLen rfl Try.underlying45 rfl) ?_
    refine WL_val rfl rfl rfl (by first | exact rLssT rfl rfl rfl (by omega) | exact rLssF rfl rfl rfl (by omega) | exact rLss rfl rfl rfl) ?_
    refine WL_nil ?_
    refine W_cond true rfl ?_
    refine W_seq ?_
    refine W_region ?_
    refine WL_val rfl rfl rfl (rBuild (qs := []) (vs := [_, _, _, _, _, _, _]) [.int .i64 0, .int .i64 0, .int .i64 0, .int .i64 0, .int .i64 0, .int .i64 0, .int .i64 0] [] rfl rfl rfl (fun _ => by kernel_rfl)) ?_
    refine WL_val rfl rfl rfl (rIface rfl Try.underlying40 rfl rfl) ?_
    first | refine WL_stw0 (u := .agg _) (vs := #[_, _, _, _, _, _, _]) (n := 7) hI rfl rfl rfl rfl rfl rfl (by kernel_rfl) rfl rfl rfl ?_
    clear hI; intro w hI
    refine WL_val rfl rfl rfl (by first | exact rAsgnN rfl rfl | exact rAsgnE rfl rfl | exact rAsgn rfl) ?_
    refine WL_nil ?_
    refine W_ret ?_
    exact retC2 (n := 7) (t := 30) (.inr rfl) rfl rfl (by kernel_rfl) (by kernel_rfl) rfl hI.g0 ⟨hI.pu, .inr ⟨hnone, _, ⟨_, rfl⟩, rfl⟩⟩
  · obtain ⟨p, t, k, d, r0, rfl⟩ : ∃ p t k d r, l = p :: t :: k :: d :: r := by
      match l, h4 with
      | [], h4 => simp at h4
      | [_], h4 => simp at h4
      | [_, _], h4 => simp at h4
      | [_, _, _], h4 => simp at h4
      | p :: t :: k :: d :: r, _ => exact ⟨p, t, k, d, r, rfl⟩
    have hlen : (p :: t :: k :: d :: r0).length = r0.length + 4 := by simp
    have hd4 := h.drop (k := 4) (by omega)
    rw [show (p :: t :: k :: d :: r0).drop 4 = r0 from rfl] at hd4
    obtain ⟨_, _, hv, hcc, _⟩ := h.form
    injection hv with _ _ hv
    subst hv
    refine W_seq ?_
    refine W_seq ?_
    refine W_region ?_
    refine WL_val rfl rfl rfl (by first | exact rMoveS rfl rfl | exact rMove rfl) ?_
    refine WL_val rfl rfl rfl (rLen rfl Try.underlying45 rfl) ?_
    refine WL_val rfl rfl rfl (by first | exact rLssT rfl rfl rfl (by omega) | exact rLssF rfl rfl rfl (by omega) | exact rLss rfl rfl rfl) ?_
    refine WL_nil ?_
    refine W_cond false rfl ?_
    refine W_skip ?_
    refine W_seq ?_
    refine W_region ?_
    refine WL_alloc (u := .agg #[.int .i64 0, .int .i64 0, .int .i64 0]) (vs := #[.int .i64 0, .int .i64 0, .int .i64 0]) hI rfl rfl rfl rfl (by kernel_rfl) rfl ?_
    clear hI; rintro b4 w - - hI
    refine WL_nil ?_
    refine W_seq ?_
    refine W_region ?_
    refine WL_val rfl rfl rfl (by first | exact rMoveS rfl rfl | exact rMove rfl) ?_
    refine WL_val rfl rfl rfl (by first | exact rSliceFrom (sz := 1) (i := 4) rfl Try.underlying45 (by kernel_rfl) rfl rfl (by omega) (by omega) | exact rSliceFromG (sz := 1) (i := 4) rfl Try.underlying45 (by kernel_rfl) rfl rfl (by omega)) ?_
    refine WL_val rfl rfl rfl (by first | exact rAsgnS rfl rfl | exact rAsgn rfl) ?_
    refine WL_nil ?_
    refine W_seq ?_
    refine W_seq ?_
    refine W_region ?_
    refine WL_val rfl rfl rfl (by first | exact rMoveI rfl rfl | exact rMove rfl) ?_
    refine WL_nil ?_
    have hbr : ∀ x ∈ r0, x < 256 := fun x hx => hb x (by simp [hx])
    generalize (if c = 4 then A else A.map (·.add (4 * 1))) = A4 at *
    refine W_block ?_
    refine W_loop (fun ρ w => ∃ (j : Nat) (vs : List Int) (r : List Nat) (A' : Option Addr) (c' : Nat), j ≤ 3 ∧ Has ρ [(18, .int .i64 j), (5, .slice A' r.length c'), (4, .pointer (some ⟨b4, 0, none⟩)), (2, .pointer (some ⟨b2, 0, none⟩)), (0, .slice A (p :: t :: k :: d :: r0).length c)] ∧ cN j r0 = some (vs, r) ∧ (∀ x ∈ r, x < 256) ∧ r.length ≤ r0.length ∧ Bts w0 D (.slice A' r.length c') r ∧
      Inv (fun _ => False) w0 w [B b4 77 (arr3 vs), B b2 30 #[.int .i64 0, .int .i64 0, .int .i64 0, .int .i64 0, .int .i64 0, .int .i64 0, .int .i64 0]]) (fun ρ _ => 3 - cnt (ρ 18))
      ⟨0, [], r0, A4, c - 4, by omega, ⟨rfl, rfl, rfl, rfl, rfl, trivial⟩, rfl, hbr, Nat.le_refl _, hd4, hI⟩ ?_
    clear hI
    rintro ρ w ⟨j, vs, r, A', c', hj, hH, hcn, hrb, hrl, hbts, hI⟩
    obtain ⟨σ, rfl⟩ := hH.open
    have hvl := cN_len hcn
    by_cases hj3 : j < 3
    · refine W_seq ?_
      refine W_region ?_
      refine WL_val rfl rfl rfl (by first | exact rLssT rfl rfl rfl (by omega) | exact rLssF rfl rfl rfl (by omega) | exact rLss rfl rfl rfl) ?_
      refine WL_nil ?_
      refine W_seq ?_
      refine W_cond true rfl ?_
      refine W_skip ?_
      refine W_seq ?_
      refine W_block ?_
      refine W_seq ?_
      refine W_region ?_
      refine WL_val rfl rfl rfl (by first | exact rMoveI rfl rfl | exact rMove rfl) ?_
      refine WL_val rfl rfl rfl (by first | exact rAsgnI rfl rfl | exact rAsgn rfl) ?_
      refine WL_nil ?_
      refine W_seq ?_
      refine W_region ?_
      refine WL_val rfl rfl rfl (by first | exact rAsgnB rfl rfl | exact rAsgn rfl) ?_
      refine WL_nil ?_
      refine W_seq ?_
      refine W_region ?_
      refine WL_val rfl rfl rfl (by first | exact rMoveI rfl rfl | exact rMove rfl) ?_
      refine WL_val rfl rfl rfl (by first | exact rMoveS rfl rfl | exact rMove rfl) ?_
      refine WL_call rfl rfl rfl (rCall (vs := [.slice _ _ _]) rfl Try.func34 rfl rfl rfl) ?_
      refine (number_any A' _ c' r D _ (hbts.pure hI.pu) rfl hrb (by omega)).mono ?_
      rintro en w1 ⟨hp, ⟨q, r', A2, c2, hnum, rfl, hb2⟩ | ⟨hnone, rfl⟩⟩
      · refine ⟨_, rfl, ?_⟩
        replace hI := hI.pure hp
        have hchg := Bts.back hI.pu hD hb2
        obtain ⟨hsp, _⟩ := numF_split hnum
        refine WL_val rfl rfl rfl (by first | exact rMoveT rfl rfl | exact rMove rfl) ?_
        refine WL_val rfl rfl rfl (rExtr rfl rfl rfl) ?_
        refine WL_val rfl rfl rfl (rExtr rfl rfl rfl) ?_
        refine WL_val rfl rfl rfl (rExtr rfl rfl rfl) ?_
        refine WL_val rfl rfl rfl (rIdxArr (sz := 1) rfl Try.underlying77 (by kernel_rfl) rfl rfl rfl (by omega)) ?_
        refine WL_st0 (u := .int .i64 _) (j := 0 + j * 1) hI rfl rfl rfl rfl rfl rfl (by kernel_rfl) rfl (by show Nat.blt (0 + j * 1) 3 = true; simp [Nat.blt]; omega) rfl ?_
        clear hI; intro w hI
        refine WL_val rfl rfl rfl (rAsgnS rfl rfl) ?_
        refine WL_val rfl rfl rfl (rAsgnB rfl rfl) ?_
        refine WL_nil ?_
        rw [arr3_set hvl hj3] at hI
        refine W_seq ?_
        refine W_region ?_
        refine WL_val rfl rfl rfl (by first | exact rMoveB rfl rfl | exact rMove rfl) ?_
        refine WL_val rfl rfl rfl (by first | exact rNotT rfl rfl | exact rNotF rfl rfl | exact rNot rfl rfl) ?_
        refine WL_nil ?_
        refine W_cond false rfl ?_
        refine W_skip ?_
        refine W_region ?_
        refine WL_val rfl rfl rfl (by first | exact rInc rfl rfl rfl (by omega) | exact rAdd rfl rfl rfl (by omega) | exact rAddW rfl rfl rfl) ?_
        refine WL_val rfl rfl rfl (by first | exact rMoveI rfl rfl | exact rMove rfl) ?_
        refine WL_nil ?_
        refine ⟨⟨j + 1, vs ++ [numV q], r', A2, c2, by omega, ⟨rfl, rfl, rfl, rfl, rfl, trivial⟩, by simp only [cN, hcn, hnum, Option.map_some], fun x hx => hrb x (by rw [hsp]; simp [hx]), ?_, hchg, hI⟩, by show 3 - ((j + 1 : Nat) : Int).toNat < 3 - (j : Int).toNat; omega⟩
        have := congrArg List.length hsp
        simp at this
        omega
      · refine ⟨_, rfl, ?_⟩
        replace hI := hI.pure hp
        refine WL_val rfl rfl rfl (by first | exact rMoveT rfl rfl | exact rMove rfl) ?_
        refine WL_val rfl rfl rfl (rExtr rfl rfl rfl) ?_
        refine WL_val rfl rfl rfl (rExtr rfl rfl rfl) ?_
        refine WL_val rfl rfl rfl (rExtr rfl rfl rfl) ?_
        refine WL_val rfl rfl rfl (rIdxArr (sz := 1) rfl Try.underlying77 (by kernel_rfl) rfl rfl rfl (by omega)) ?_
        refine WL_st0 (u := .int .i64 _) (j := 0 + j * 1) hI rfl rfl rfl rfl rfl rfl (by kernel_rfl) rfl (by show Nat.blt (0 + j * 1) 3 = true; simp [Nat.blt]; omega) rfl ?_
        clear hI; intro w hI
        refine WL_val rfl rfl rfl (rAsgnS rfl rfl) ?_
        refine WL_val rfl rfl rfl (rAsgnB rfl rfl) ?_
        refine WL_nil ?_
        refine W_seq ?_
        refine W_region ?_
        refine WL_val rfl rfl rfl (by first | exact rMoveB rfl rfl | exact rMove rfl) ?_
        refine WL_val rfl rfl rfl (by first | exact rNotT rfl rfl | exact rNotF rfl rfl | exact rNot rfl rfl) ?_
        refine WL_nil ?_
        refine W_cond true rfl ?_
        refine W_seq ?_
        refine W_region ?_
        refine WL_val rfl rfl rfl (rBuild (qs := []) (vs := [_, _, _, _, _, _, _]) [.int .i64 0, .int .i64 0, .int .i64 0, .int .i64 0, .int .i64 0, .int .i64 0, .int .i64 0] [] rfl rfl rfl (fun _ => by kernel_rfl)) ?_
        refine WL_val rfl rfl rfl (rIface rfl Try.underlying40 rfl rfl) ?_
        first | refine WL_stw0 (u := .agg _) (vs := #[_, _, _, _, _, _, _]) (n := 7) hI rfl rfl rfl rfl rfl rfl (by kernel_rfl) rfl rfl rfl ?_ | refine WL_stw1 (u := .agg _) (vs := #[_, _, _, _, _, _, _]) (n := 7) hI rfl rfl rfl rfl rfl rfl (by kernel_rfl) rfl rfl rfl ?_
        clear hI; intro w hI
        refine WL_val rfl rfl rfl (by first | exact rAsgnN rfl rfl | exact rAsgnE rfl rfl | exact rAsgn rfl) ?_
        refine WL_nil ?_
        refine W_ret ?_
        have hc3 : cN 3 r0 = none := by
          have h1 : cN (j + 1) r0 = none := by simp only [cN, hcn, hnone, Option.map_none]
          match j, hj3, h1 with
          | 0, _, h1 => have : cN 2 r0 = none := by unfold cN; rw [h1]
                        unfold cN; rw [this]
          | 1, _, h1 => unfold cN; rw [h1]
          | 2, _, h1 => exact h1
        exact retC2 (n := 7) (t := 30) (.inr rfl) rfl rfl (by kernel_rfl) (by kernel_rfl) rfl hI.g1 ⟨hI.pu, .inr ⟨by rw [hcode]; simp [codeRead, hc3], _, ⟨_, rfl⟩, rfl⟩⟩
    · obtain rfl : j = 3 := by omega
      refine W_seq ?_
      refine W_region ?_
      refine WL_val rfl rfl rfl (by first | exact rLssT rfl rfl rfl (by omega) | exact rLssF rfl rfl rfl (by omega) | exact rLss rfl rfl rfl) ?_
      refine WL_nil ?_
      refine W_seq ?_
      refine W_cond false rfl ?_
      refine W_exit ?_
      obtain ⟨g, o, rfl, hDg, c0⟩ := h.get (k := 0) (b := p) rfl
      obtain ⟨_, _, e1, _, c1⟩ := h.get (k := 1) (b := t) rfl
      obtain ⟨_, _, e2, _, c2⟩ := h.get (k := 2) (b := k) rfl
      obtain ⟨_, _, e3, _, c3⟩ := h.get (k := 3) (b := d) rfl
      injection e1 with e1; injection e1 with e11 e12; subst e11 e12
      injection e2 with e2; injection e2 with e21 e22; subst e21 e22
      injection e3 with e3; injection e3 with e31 e32; subst e31 e32
      rw [Nat.add_zero] at c0
      have hp256 := hb p (by simp)
      have ht256 := hb t (by simp)
      have hk256 := hb k (by simp)
      have hd256 := hb d (by simp)
      have hcr : codeRead (p :: t :: k :: d :: r0) = some ⟨p, t, k, d, vs.getD 0 0, vs.getD 1 0, vs.getD 2 0⟩ := by simp [codeRead, hcn]
      rw [hcr] at hcode
      simp only at hcode
      refine W_seq ?_
      refine W_draw (by kernel_rfl) ?_
      refine WA_inv (T := []) hI.drew ?_
      intro Sx hSx hXS
      replace hI := hI.drew
      refine WT_take 0 rfl rfl (by kernel_rfl) (hXS _ hI) rfl (fun W hW => have hI := hSx W hW; (by first | exact rMoveS rfl rfl | exact rMove rfl)) ?_
      refine WT_take 1 rfl rfl (by kernel_rfl) (hXS _ hI) rfl (fun W hW => have hI := hSx W hW; (by first | exact rIdx0 (i := 0) rfl Try.underlying45 (by kernel_rfl) rfl rfl rfl (by omega) | exact rIdx1 (i := 0) rfl Try.underlying45 (by kernel_rfl) rfl rfl (by omega))) ?_
      refine WT_take 2 rfl rfl (by kernel_rfl) (hXS _ hI) rfl (fun W hW => have hI := hSx W hW; (by first | exact rLd (v := .int .u8 _) rfl (by kernel_rfl) rfl (by first | exact hI.c0 rfl | exact hI.oldp c0 | exact c0 | exact hI.oldp c1 | exact c1 | exact hI.oldp c2 | exact c2 | exact hI.oldp c3 | exact c3) | exact rLd rfl (by kernel_rfl) rfl (by first | exact hI.c0 rfl | exact hI.oldp c0 | exact c0 | exact hI.oldp c1 | exact c1 | exact hI.oldp c2 | exact c2 | exact hI.oldp c3 | exact c3))) ?_
      refine WT_take 3 rfl rfl (by kernel_rfl) (hXS _ hI) rfl (fun W hW => have hI := hSx W hW; (by first | exact rConv_i64 rfl Try.underlying5 Try.underlying3 rfl (by omega) | exact rConvW rfl Try.underlying5 Try.underlying3 rfl)) ?_
      refine WT_take 4 rfl rfl (by kernel_rfl) (hXS _ hI) rfl (fun W hW => have hI := hSx W hW; (by first | exact rMoveS rfl rfl | exact rMove rfl)) ?_
      refine WT_take 5 rfl rfl (by kernel_rfl) (hXS _ hI) rfl (fun W hW => have hI := hSx W hW; (by first | exact rIdx0 (i := 1) rfl Try.underlying45 (by kernel_rfl) rfl rfl rfl (by omega) | exact rIdx1 (i := 1) rfl Try.underlying45 (by kernel_rfl) rfl rfl (by omega))) ?_
      refine WT_take 6 rfl rfl (by kernel_rfl) (hXS _ hI) rfl (fun W hW => have hI := hSx W hW; (by first | exact rLd (v := .int .u8 _) rfl (by kernel_rfl) rfl (by first | exact hI.c0 rfl | exact hI.oldp c0 | exact c0 | exact hI.oldp c1 | exact c1 | exact hI.oldp c2 | exact c2 | exact hI.oldp c3 | exact c3) | exact rLd rfl (by kernel_rfl) rfl (by first | exact hI.c0 rfl | exact hI.oldp c0 | exact c0 | exact hI.oldp c1 | exact c1 | exact hI.oldp c2 | exact c2 | exact hI.oldp c3 | exact c3))) ?_
      refine WT_take 7 rfl rfl (by kernel_rfl) (hXS _ hI) rfl (fun W hW => have hI := hSx W hW; (by first | exact rConv_i64 rfl Try.underlying5 Try.underlying3 rfl (by omega) | exact rConvW rfl Try.underlying5 Try.underlying3 rfl)) ?_
      refine WT_take 8 rfl rfl (by kernel_rfl) (hXS _ hI) rfl (fun W hW => have hI := hSx W hW; (by first | exact rMoveS rfl rfl | exact rMove rfl)) ?_
      refine WT_take 9 rfl rfl (by kernel_rfl) (hXS _ hI) rfl (fun W hW => have hI := hSx W hW; (by first | exact rIdx0 (i := 2) rfl Try.underlying45 (by kernel_rfl) rfl rfl rfl (by omega) | exact rIdx1 (i := 2) rfl Try.underlying45 (by kernel_rfl) rfl rfl (by omega))) ?_
      refine WT_take 10 rfl rfl (by kernel_rfl) (hXS _ hI) rfl (fun W hW => have hI := hSx W hW; (by first | exact rLd (v := .int .u8 _) rfl (by kernel_rfl) rfl (by first | exact hI.c0 rfl | exact hI.oldp c0 | exact c0 | exact hI.oldp c1 | exact c1 | exact hI.oldp c2 | exact c2 | exact hI.oldp c3 | exact c3) | exact rLd rfl (by kernel_rfl) rfl (by first | exact hI.c0 rfl | exact hI.oldp c0 | exact c0 | exact hI.oldp c1 | exact c1 | exact hI.oldp c2 | exact c2 | exact hI.oldp c3 | exact c3))) ?_
      refine WT_take 11 rfl rfl (by kernel_rfl) (hXS _ hI) rfl (fun W hW => have hI := hSx W hW; (by first | exact rConv_i64 rfl Try.underlying5 Try.underlying3 rfl (by omega) | exact rConvW rfl Try.underlying5 Try.underlying3 rfl)) ?_
      refine WT_take 12 rfl rfl (by kernel_rfl) (hXS _ hI) rfl (fun W hW => have hI := hSx W hW; (by first | exact rMoveS rfl rfl | exact rMove rfl)) ?_
      refine WT_take 13 rfl rfl (by kernel_rfl) (hXS _ hI) rfl (fun W hW => have hI := hSx W hW; (by first | exact rIdx0 (i := 3) rfl Try.underlying45 (by kernel_rfl) rfl rfl rfl (by omega) | exact rIdx1 (i := 3) rfl Try.underlying45 (by kernel_rfl) rfl rfl (by omega))) ?_
      refine WT_take 14 rfl rfl (by kernel_rfl) (hXS _ hI) rfl (fun W hW => have hI := hSx W hW; (by first | exact rLd (v := .int .u8 _) rfl (by kernel_rfl) rfl (by first | exact hI.c0 rfl | exact hI.oldp c0 | exact c0 | exact hI.oldp c1 | exact c1 | exact hI.oldp c2 | exact c2 | exact hI.oldp c3 | exact c3) | exact rLd rfl (by kernel_rfl) rfl (by first | exact hI.c0 rfl | exact hI.oldp c0 | exact c0 | exact hI.oldp c1 | exact c1 | exact hI.oldp c2 | exact c2 | exact hI.oldp c3 | exact c3))) ?_
      refine WT_take 15 rfl rfl (by kernel_rfl) (hXS _ hI) rfl (fun W hW => have hI := hSx W hW; (by first | exact rConv_i64 rfl Try.underlying5 Try.underlying3 rfl (by omega) | exact rConvW rfl Try.underlying5 Try.underlying3 rfl)) ?_
      refine WT_take 16 rfl rfl (by kernel_rfl) (hXS _ hI) rfl (fun W hW => have hI := hSx W hW; (rIdxArr (sz := 1) (i := 0) rfl Try.underlying77 (by kernel_rfl) rfl rfl rfl (by omega))) ?_
      refine WT_take 17 rfl rfl (by kernel_rfl) (hXS _ hI) rfl (fun W hW => have hI := hSx W hW; (by first | exact rLd (v := .int .i64 _) rfl (by kernel_rfl) rfl (by first | exact hI.c0 rfl | exact hI.oldp c0 | exact c0 | exact hI.oldp c1 | exact c1 | exact hI.oldp c2 | exact c2 | exact hI.oldp c3 | exact c3) | exact rLd rfl (by kernel_rfl) rfl (by first | exact hI.c0 rfl | exact hI.oldp c0 | exact c0 | exact hI.oldp c1 | exact c1 | exact hI.oldp c2 | exact c2 | exact hI.oldp c3 | exact c3))) ?_
      refine WT_take 18 rfl rfl (by kernel_rfl) (hXS _ hI) rfl (fun W hW => have hI := hSx W hW; (rIdxArr (sz := 1) (i := 1) rfl Try.underlying77 (by kernel_rfl) rfl rfl rfl (by omega))) ?_
      refine WT_take 19 rfl rfl (by kernel_rfl) (hXS _ hI) rfl (fun W hW => have hI := hSx W hW; (by first | exact rLd (v := .int .i64 _) rfl (by kernel_rfl) rfl (by first | exact hI.c0 rfl | exact hI.oldp c0 | exact c0 | exact hI.oldp c1 | exact c1 | exact hI.oldp c2 | exact c2 | exact hI.oldp c3 | exact c3) | exact rLd rfl (by kernel_rfl) rfl (by first | exact hI.c0 rfl | exact hI.oldp c0 | exact c0 | exact hI.oldp c1 | exact c1 | exact hI.oldp c2 | exact c2 | exact hI.oldp c3 | exact c3))) ?_
      refine WT_take 20 rfl rfl (by kernel_rfl) (hXS _ hI) rfl (fun W hW => have hI := hSx W hW; (rIdxArr (sz := 1) (i := 2) rfl Try.underlying77 (by kernel_rfl) rfl rfl rfl (by omega))) ?_
      refine WT_take 21 rfl rfl (by kernel_rfl) (hXS _ hI) rfl (fun W hW => have hI := hSx W hW; (by first | exact rLd (v := .int .i64 _) rfl (by kernel_rfl) rfl (by first | exact hI.c0 rfl | exact hI.oldp c0 | exact c0 | exact hI.oldp c1 | exact c1 | exact hI.oldp c2 | exact c2 | exact hI.oldp c3 | exact c3) | exact rLd rfl (by kernel_rfl) rfl (by first | exact hI.c0 rfl | exact hI.oldp c0 | exact c0 | exact hI.oldp c1 | exact c1 | exact hI.oldp c2 | exact c2 | exact hI.oldp c3 | exact c3))) ?_
      refine WT_take 22 rfl rfl (by kernel_rfl) (hXS _ hI) rfl (fun W hW => have hI := hSx W hW; (rBuild (qs := [(0, .int .i64 _), (1, .int .i64 _), (2, .int .i64 _), (3, .int .i64 _), (4, .int .i64 _), (5, .int .i64 _), (6, .int .i64 _)]) (vs := [_, _, _, _, _, _, _]) [.int .i64 0, .int .i64 0, .int .i64 0, .int .i64 0, .int .i64 0, .int .i64 0, .int .i64 0] [0, 1, 2, 3, 4, 5, 6] rfl rfl rfl (fun _ => by kernel_rfl))) ?_
      refine WT_one 23 rfl (by kernel_rfl) rfl ?_
      refine WL_alloc (u := .agg #[.int .i64 0, .int .i64 0, .int .i64 0, .int .i64 0, .int .i64 0, .int .i64 0, .int .i64 0]) (vs := #[.int .i64 0, .int .i64 0, .int .i64 0, .int .i64 0, .int .i64 0, .int .i64 0, .int .i64 0]) hI rfl rfl rfl rfl (by kernel_rfl) rfl ?_
      clear hI; rintro b8 w - - hI
      refine WL_nil ⟨hXS _ hI.d0, ?_⟩
      refine WT_one 24 rfl (by kernel_rfl) rfl ?_
      first | refine WL_stw0 (u := .agg _) (vs := #[_, _, _, _, _, _, _]) (n := 7) hI rfl rfl rfl rfl rfl rfl (by kernel_rfl) rfl rfl rfl ?_
      clear hI; intro w hI
      refine WL_nil ⟨hXS _ hI.d0, ?_⟩
      refine WT_end (by kernel_rfl) ?_
      refine W_seq ?_
      refine W_seq ?_
      refine W_region ?_
      refine WL_val rfl rfl rfl (by first | exact rLdB (n := 7) rfl (by kernel_rfl) (by kernel_rfl) rfl rfl hI.g0) ?_
      refine WL_call rfl rfl rfl (rCall (vs := [.agg _]) rfl Try.func16 rfl rfl rfl) ?_
      refine (encode_any ⟨p, t, k, d, vs.getD 0 0, vs.getD 1 0, vs.getD 2 0⟩ _).mono ?_
      rintro en w1 ⟨hp, ⟨hok, A2, c2', rfl, hown⟩ | ⟨hno, x, ⟨u, rfl⟩, rfl⟩⟩
      · refine ⟨_, rfl, ?_⟩
        replace hI := hI.pure hp
        have hag : Bts w1 (fun _ => True) (.slice A2 (enc ⟨p, t, k, d, vs.getD 0 0, vs.getD 1 0, vs.getD 2 0⟩).length c2') (enc ⟨p, t, k, d, vs.getD 0 0, vs.getD 1 0, vs.getD 2 0⟩) := Rd.of_own hown (fun _ _ _ => trivial)
        refine WL_val rfl rfl rfl (by first | exact rMoveT rfl rfl | exact rMove rfl) ?_
        refine WL_val rfl rfl rfl (rExtr rfl rfl rfl) ?_
        refine WL_val rfl rfl rfl (rExtr rfl rfl rfl) ?_
        refine WL_val rfl rfl rfl (by first | exact rAsgnS rfl rfl | exact rAsgn rfl) ?_
        refine WL_val rfl rfl rfl (by first | exact rAsgnN rfl rfl | exact rAsgnE rfl rfl | exact rAsgn rfl) ?_
        refine WL_nil ?_
        refine W_seq ?_
        refine W_region ?_
        refine WL_val rfl rfl rfl (by first | exact rMoveN rfl rfl | exact rMoveE rfl rfl | exact rMove rfl) ?_
        refine WL_val rfl rfl rfl (by first | exact rIfaceNe rfl Try.underlying32 rfl rfl | exact rNilNe rfl Try.underlying32 rfl) ?_
        refine WL_val rfl rfl rfl (by first | exact rMoveB rfl rfl | exact rMove rfl) ?_
        first | refine WL_val rfl rfl rfl (by first | exact rMoveS rfl rfl | exact rMove rfl) ?_ | refine WL_skip rfl rfl rfl ?_
        first | refine WL_val rfl rfl rfl (by first | exact rMoveS rfl rfl | exact rMove rfl) ?_ | refine WL_skip rfl rfl rfl ?_
        refine WL_call rfl rfl rfl (rCall (vs := [.slice _ _ _, .slice _ _ _]) rfl Try.func35 rfl rfl rfl) ?_
        refine (bequal_any A2 _ _ _ _ _ (enc ⟨p, t, k, d, vs.getD 0 0, vs.getD 1 0, vs.getD 2 0⟩) (p :: t :: k :: d :: r0) _ D _ hag rfl (h.pure hI.pu) rfl (enc_byte hok) hb).mono ?_
        rintro en w2 ⟨rfl, rfl⟩
        refine ⟨_, rfl, ?_⟩
        by_cases heq : enc ⟨p, t, k, d, vs.getD 0 0, vs.getD 1 0, vs.getD 2 0⟩ = p :: t :: k :: d :: r0
        · have hd1 : decide (enc ⟨p, t, k, d, vs.getD 0 0, vs.getD 1 0, vs.getD 2 0⟩ = p :: t :: k :: d :: r0) = true := by simpa using heq
          rw [hd1]
          first | refine WL_val rfl rfl rfl (by first | exact rNotT rfl rfl | exact rNotF rfl rfl | exact rNot rfl rfl) ?_ | refine WL_skip rfl rfl rfl ?_
          refine WL_val rfl rfl rfl (by first | exact rPickTB rfl rfl rfl | exact rPickFB rfl rfl rfl | exact rPickB rfl rfl rfl rfl) ?_
          refine WL_nil ?_
          refine W_cond false rfl ?_
          refine W_skip ?_
          refine W_seq ?_
          refine W_region ?_
          refine WL_val rfl rfl rfl (by first | exact rLdB (n := 7) rfl (by kernel_rfl) (by kernel_rfl) rfl rfl hI.g0 | exact rLdB (n := 7) rfl (by kernel_rfl) (by kernel_rfl) rfl rfl hI.g1 | exact rLdB (n := 7) rfl (by kernel_rfl) (by kernel_rfl) rfl rfl hI.g2) ?_
          first | refine WL_stw0 (u := .agg _) (vs := #[_, _, _, _, _, _, _]) (n := 7) hI rfl rfl rfl rfl rfl rfl (by kernel_rfl) rfl rfl rfl ?_ | refine WL_stw1 (u := .agg _) (vs := #[_, _, _, _, _, _, _]) (n := 7) hI rfl rfl rfl rfl rfl rfl (by kernel_rfl) rfl rfl rfl ?_ | refine WL_stw2 (u := .agg _) (vs := #[_, _, _, _, _, _, _]) (n := 7) hI rfl rfl rfl rfl rfl rfl (by kernel_rfl) rfl rfl rfl ?_
          clear hI; intro w hI
          refine WL_val rfl rfl rfl (by first | exact rAsgnN rfl rfl | exact rAsgnE rfl rfl | exact rAsgn rfl) ?_
          refine WL_nil ?_
          refine W_ret ?_
          exact retC2 (n := 7) (t := 30) (.inr rfl) rfl rfl (by kernel_rfl) (by kernel_rfl) rfl hI.g2 ⟨hI.pu, .inl ⟨_, by rw [hcode, if_pos ⟨hok, heq⟩], rfl⟩⟩
        · have hd1 : decide (enc ⟨p, t, k, d, vs.getD 0 0, vs.getD 1 0, vs.getD 2 0⟩ = p :: t :: k :: d :: r0) = false := by simpa using heq
          rw [hd1]
          first | refine WL_val rfl rfl rfl (by first | exact rNotT rfl rfl | exact rNotF rfl rfl | exact rNot rfl rfl) ?_ | refine WL_skip rfl rfl rfl ?_
          refine WL_val rfl rfl rfl (by first | exact rPickTB rfl rfl rfl | exact rPickFB rfl rfl rfl | exact rPickB rfl rfl rfl rfl) ?_
          refine WL_nil ?_
          refine W_cond true rfl ?_
          refine W_seq ?_
          refine W_region ?_
          refine WL_val rfl rfl rfl (rBuild (qs := []) (vs := [_, _, _, _, _, _, _]) [.int .i64 0, .int .i64 0, .int .i64 0, .int .i64 0, .int .i64 0, .int .i64 0, .int .i64 0] [] rfl rfl rfl (fun _ => by kernel_rfl)) ?_
          refine WL_val rfl rfl rfl (rIface rfl Try.underlying40 rfl rfl) ?_
          first | refine WL_stw0 (u := .agg _) (vs := #[_, _, _, _, _, _, _]) (n := 7) hI rfl rfl rfl rfl rfl rfl (by kernel_rfl) rfl rfl rfl ?_ | refine WL_stw1 (u := .agg _) (vs := #[_, _, _, _, _, _, _]) (n := 7) hI rfl rfl rfl rfl rfl rfl (by kernel_rfl) rfl rfl rfl ?_ | refine WL_stw2 (u := .agg _) (vs := #[_, _, _, _, _, _, _]) (n := 7) hI rfl rfl rfl rfl rfl rfl (by kernel_rfl) rfl rfl rfl ?_
          clear hI; intro w hI
          refine WL_val rfl rfl rfl (by first | exact rAsgnN rfl rfl | exact rAsgnE rfl rfl | exact rAsgn rfl) ?_
          refine WL_nil ?_
          refine W_ret ?_
          exact retC2 (n := 7) (t := 30) (.inr rfl) rfl rfl (by kernel_rfl) (by kernel_rfl) rfl hI.g2 ⟨hI.pu, .inr ⟨by rw [hcode, if_neg (fun hh => heq hh.2)], _, ⟨_, rfl⟩, rfl⟩⟩
      · refine ⟨_, rfl, ?_⟩
        replace hI := hI.pure hp
        refine WL_val rfl rfl rfl (by first | exact rMoveT rfl rfl | exact rMove rfl) ?_
        refine WL_val rfl rfl rfl (rExtr rfl rfl rfl) ?_
        refine WL_val rfl rfl rfl (rExtr rfl rfl rfl) ?_
        refine WL_val rfl rfl rfl (by first | exact rAsgnS rfl rfl | exact rAsgn rfl) ?_
        refine WL_val rfl rfl rfl (by first | exact rAsgnN rfl rfl | exact rAsgnE rfl rfl | exact rAsgn rfl) ?_
        refine WL_nil ?_
        refine W_seq ?_
        refine W_region ?_
        refine WL_val rfl rfl rfl (by first | exact rMoveN rfl rfl | exact rMoveE rfl rfl | exact rMove rfl) ?_
        refine WL_val rfl rfl rfl (by first | exact rIfaceNe rfl Try.underlying32 rfl rfl | exact rNilNe rfl Try.underlying32 rfl) ?_
        refine WL_val rfl rfl rfl (by first | exact rMoveB rfl rfl | exact rMove rfl) ?_
        refine WL_skip rfl rfl rfl ?_
        refine WL_skip rfl rfl rfl ?_
        refine WL_skip rfl rfl rfl ?_
        refine WL_skip rfl rfl rfl ?_
        refine WL_val rfl rfl rfl (by first | exact rPickTB rfl rfl rfl | exact rPickFB rfl rfl rfl | exact rPickB rfl rfl rfl rfl) ?_
        refine WL_nil ?_
        refine W_cond true rfl ?_
        refine W_seq ?_
        refine W_region ?_
        refine WL_val rfl rfl rfl (rBuild (qs := []) (vs := [_, _, _, _, _, _, _]) [.int .i64 0, .int .i64 0, .int .i64 0, .int .i64 0, .int .i64 0, .int .i64 0, .int .i64 0] [] rfl rfl rfl (fun _ => by kernel_rfl)) ?_
        refine WL_val rfl rfl rfl (rIface rfl Try.underlying40 rfl rfl) ?_
        first | refine WL_stw0 (u := .agg _) (vs := #[_, _, _, _, _, _, _]) (n := 7) hI rfl rfl rfl rfl rfl rfl (by kernel_rfl) rfl rfl rfl ?_ | refine WL_stw1 (u := .agg _) (vs := #[_, _, _, _, _, _, _]) (n := 7) hI rfl rfl rfl rfl rfl rfl (by kernel_rfl) rfl rfl rfl ?_ | refine WL_stw2 (u := .agg _) (vs := #[_, _, _, _, _, _, _]) (n := 7) hI rfl rfl rfl rfl rfl rfl (by kernel_rfl) rfl rfl rfl ?_
        clear hI; intro w hI
        refine WL_val rfl rfl rfl (by first | exact rAsgnN rfl rfl | exact rAsgnE rfl rfl | exact rAsgn rfl) ?_
        refine WL_nil ?_
        refine W_ret ?_
        exact retC2 (n := 7) (t := 30) (.inr rfl) rfl rfl (by kernel_rfl) (by kernel_rfl) rfl hI.g2 ⟨hI.pu, .inr ⟨by rw [hcode, if_neg (by rintro ⟨h1, _⟩; rw [hno] at h1; cases h1)], _, ⟨_, rfl⟩, rfl⟩⟩

theorem headF_byte (l : List Nat) : ∀ x ∈ headF l, x < 256 := by
  intro x hx
  unfold headF at hx
  simp only [List.mem_cons, List.not_mem_nil, or_false] at hx
  rcases hx with rfl | rfl | rfl | rfl | rfl | rfl <;> exact Nat.mod_lt _ (by decide)
theorem frameF_byte {l : List Nat} (h : ∀ x ∈ l, x < 256) : ∀ x ∈ frameF l, x < 256 := by
  intro x hx
  rcases List.mem_append.1 hx with hx | hx
  · exact headF_byte l x hx
  · exact h x hx
theorem Bts.cells {w : World} {D : Nat → Prop} {g o n c : Nat} {l : List Nat} (h : Bts w D (.slice (some ⟨g, o, none⟩) n c) l) : ∀ (k : Nat) (u : Value), (bytesV l)[k]? = some u → w.cell? ⟨g, o + k, none⟩ = some u := fun k u hk => by
  have hlt := (List.getElem?_eq_some_iff.1 hk).1
  rw [bytesV_len] at hlt
  obtain ⟨b, o', c', hv, _, _, _, hc⟩ := Rd.at_ (k := k) (u := u) h hk (by omega)
  injection hv with hv
  injection hv with hv
  injection hv with h1 h2
  subst h1 h2
  exact hc
theorem shr8_run (n : Nat) : IntKind.u8.wrap ((n : Int).fdiv (2 ^ min (8 : Int).toNat IntKind.i64.bits)) = ((n / 256 % 256 : Nat) : Int) := by
  show IntKind.u8.wrap ((n : Int).fdiv (2 ^ 8)) = _
  rw [Int.fdiv_eq_ediv_of_nonneg _ (by decide)]
  have : ((n : Int) / 2 ^ 8) = ((n / 256 : Nat) : Int) := by omega
  rw [this, wrap_u8_mod]
def FrmPost (w : World) (l : List Nat) (en : Ending) (w' : World) : Prop :=
  Pure w w' ∧ ∃ A c, en = .returned (.slice A (frameF l).length c) ∧ w'.ownsRow w.heap.size 5 1 (.slice A (frameF l).length c) (frameF l).length (bytesV (frameF l))
theorem sumF_lt {l : List Nat} (h : ∀ x ∈ l, x < 256) : sumF l < 4294967296 := Nat.xor_lt_two_pow (n := 32) (crcL_lt h) (by decide)
set_option maxHeartbeats 1000000 in
theorem frame_any (A : Option Addr) (n c : Nat) (l : List Nat) (D : Nat → Prop) (w0 : World) (h : Bts w0 D (.slice A n c) l) (hl : l.length = n) (hb : ∀ x ∈ l, x < 256) (hn : n < 1000000000) (hn0 : 0 < n) :
    Calls Try.prog 17 #[.slice A n c] w0 (FrmPost w0 l) := by
  subst hl
  have hI := Inv.start (fun _ => False) w0
  have hsl := sumF_lt hb
  obtain ⟨x0, hx0⟩ : ∃ x, l[0]? = some x := ⟨_, List.getElem?_eq_getElem hn0⟩
  obtain ⟨g, o, rfl, hDg, _⟩ := h.get hx0
  refine calls_of_W (N := Try.f17.ntmps) Try.func17 rfl rfl rfl ?_
  refine W_seq ?_
  refine W_region ?_
  refine WL_val rfl rfl rfl (by first | exact rAsgnS rfl rfl | exact rAsgn rfl) ?_
  refine WL_nil ?_
  refine W_seq ?_
  refine W_region ?_
  refine WL_val rfl rfl rfl (by first | exact rMoveS rfl rfl | exact rMove rfl) ?_
  refine WL_val rfl rfl rfl (rLen rfl Try.underlying45 rfl) ?_
  refine WL_val rfl rfl rfl (by first | exact rMoveS rfl rfl | exact rMove rfl) ?_
  refine WL_call rfl rfl rfl (rCall (vs := [.slice _ _ _]) rfl Try.func32 rfl rfl rfl) ?_
  refine (sum_any _ _ c l D _ h rfl hb (by omega)).mono ?_
  rintro en w1 ⟨rfl, rfl⟩
  refine ⟨_, rfl, ?_⟩
  refine WL_val rfl rfl rfl (by first | exact rAsgnI rfl rfl | exact rAsgn rfl) ?_
  refine WL_val rfl rfl rfl (by first | exact rAsgnI rfl rfl | exact rAsgn rfl) ?_
  refine WL_nil ?_
  have hS : sumF l < 4294967296 := hsl
  generalize hs : sumF l = S at *
  refine W_seq ?_
  refine W_region ?_
  refine WL_val rfl rfl rfl (by first | exact rMoveI rfl rfl | exact rMove rfl) ?_
  refine WL_val rfl rfl rfl (rShrW rfl rfl rfl (by omega)) ?_
  refine WL_val rfl rfl rfl (by first | exact rConv_u8s rfl Try.underlying3 Try.underlying5 rfl (by omega) | exact rConv_u8 rfl Try.underlying3 Try.underlying5 rfl | exact rConvW rfl Try.underlying3 Try.underlying5 rfl) ?_
  refine WL_val rfl rfl rfl (by first | exact rMoveI rfl rfl | exact rMove rfl) ?_
  refine WL_val rfl rfl rfl (by first | exact rConv_u8s rfl Try.underlying3 Try.underlying5 rfl (by omega) | exact rConv_u8 rfl Try.underlying3 Try.underlying5 rfl | exact rConvW rfl Try.underlying3 Try.underlying5 rfl) ?_
  refine WL_val rfl rfl rfl (by first | exact rMoveI rfl rfl | exact rMove rfl) ?_
  refine WL_val rfl rfl rfl (by first | exact rShr_u32 (c := 24) rfl rfl rfl (by omega) | exact rShrW rfl rfl rfl (by omega)) ?_
  refine WL_val rfl rfl rfl (by first | exact rConv_u8s rfl Try.underlying71 Try.underlying5 rfl (by omega) | exact rConv_u8 rfl Try.underlying71 Try.underlying5 rfl | exact rConvW rfl Try.underlying71 Try.underlying5 rfl) ?_
  refine WL_val rfl rfl rfl (by first | exact rMoveI rfl rfl | exact rMove rfl) ?_
  refine WL_val rfl rfl rfl (by first | exact rShr_u32 (c := 16) rfl rfl rfl (by omega) | exact rShrW rfl rfl rfl (by omega)) ?_
  refine WL_val rfl rfl rfl (by first | exact rConv_u8s rfl Try.underlying71 Try.underlying5 rfl (by omega) | exact rConv_u8 rfl Try.underlying71 Try.underlying5 rfl | exact rConvW rfl Try.underlying71 Try.underlying5 rfl) ?_
  refine WL_val rfl rfl rfl (by first | exact rMoveI rfl rfl | exact rMove rfl) ?_
  refine WL_val rfl rfl rfl (by first | exact rShr_u32 (c := 8) rfl rfl rfl (by omega) | exact rShrW rfl rfl rfl (by omega)) ?_
  refine WL_val rfl rfl rfl (by first | exact rConv_u8s rfl Try.underlying71 Try.underlying5 rfl (by omega) | exact rConv_u8 rfl Try.underlying71 Try.underlying5 rfl | exact rConvW rfl Try.underlying71 Try.underlying5 rfl) ?_
  refine WL_val rfl rfl rfl (by first | exact rMoveI rfl rfl | exact rMove rfl) ?_
  refine WL_val rfl rfl rfl (by first | exact rConv_u8s rfl Try.underlying71 Try.underlying5 rfl (by omega) | exact rConv_u8 rfl Try.underlying71 Try.underlying5 rfl | exact rConvW rfl Try.underlying71 Try.underlying5 rfl) ?_
  refine WL_lit (vs := [_, _, _, _, _, _]) (qs := [(0, .int .u8 _), (1, .int .u8 _), (2, .int .u8 _), (3, .int .u8 _), (4, .int .u8 _), (5, .int .u8 _)]) [.int .u8 0, .int .u8 0, .int .u8 0, .int .u8 0, .int .u8 0, .int .u8 0] [0, 1, 2, 3, 4, 5] hI rfl rfl rfl rfl rfl rfl Try.underlying45 (fun _ => by kernel_rfl) ?_
  clear hI; rintro b26 w - - hI
  refine WL_val rfl rfl rfl (by first | exact rAsgnS rfl rfl | exact rAsgn rfl) ?_
  refine WL_nil ?_
  have hrow : [Value.int .u8 (IntKind.u8.wrap ((l.length : Int).fdiv (2 ^ min (8 : Int).toNat IntKind.i64.bits))), .int .u8 ((l.length % 256 : Nat) : Int), .int .u8 ((S / 2 ^ 24 : Nat) : Int), .int .u8 ((S / 2 ^ 16 % 256 : Nat) : Int), .int .u8 ((S / 2 ^ 8 % 256 : Nat) : Int), .int .u8 ((S % 256 : Nat) : Int)] = bytesV (headF l) := by
    unfold bytesV headF
    rw [hs, shr8_run]
    rw [show S / 16777216 % 256 = S / 2 ^ 24 from by omega]
    rfl
  have hlo := (hI.own _ (List.mem_of_getElem? (i := 0) rfl) b26 rfl).resolve_left id
  replace hI := hI.u0 (e' := Row w0.heap.size 5 1 (some ⟨b26, 0, none⟩) 6 6 (bytesV (headF l))) (Chg.refl _ _) (hrow ▸ Row.of_blk hI.g0 hlo rfl (by omega)) (fun k hk => .inl (by have : some b26 = some k := hk; injection this with this; exact this.symm))
  refine W_seq ?_
  refine W_region ?_
  refine WL_val rfl rfl rfl (by first | exact rMoveS rfl rfl | exact rMove rfl) ?_
  refine WL_val rfl rfl rfl (by first | exact rMoveS rfl rfl | exact rMove rfl) ?_
  -- STOP: call ['Op.call', ('st', {'callee': ['Callee.builtin', 'Builtin.append'], 'args': ('arr', [['Operand.tmp', '27'], ['Operand.tmp', '28']]), 'argTypes': ('arr
  refine WL_app0 (z := .int .u8 0) (by_ := 1) (news := bytesV l) hI rfl rfl rfl rfl rfl rfl Try.underlying45 (by kernel_rfl) rfl (by omega) (by rw [bytesV_len, Nat.mul_one]) (h.pure hI.pu).cells (bytesV_one l) (by omega) (by omega) hI.pu.size ?_
  clear hI; rintro A' c' w hc1 hc2 hI
  refine WL_val rfl rfl rfl (by first | exact rAsgnS rfl rfl | exact rAsgn rfl) ?_
  refine WL_nil ?_
  refine W_ret ?_
  have hfl : (frameF l).length = 6 + l.length := by unfold frameF; simp [headF]; omega
  refine ret1 2 (.inr rfl) rfl ⟨hI.pu, A', c', ?_, ?_⟩
  · rw [hfl]; rfl
  · rw [hfl]
    unfold frameF
    rw [bytesV_append]
    exact hI.g0
end Go.Proofs.Ytfagfkgmibmanaa
