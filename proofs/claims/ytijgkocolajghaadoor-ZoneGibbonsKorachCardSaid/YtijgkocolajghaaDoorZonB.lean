/- Zon4, Zon5, Zon6, in one text. -/
import Derived.Test.YtijgkocolajghaaDoorZonA
/-! Zon4: zone: what Zones knows of values, step by step; zones of values; when two clash. Plain, but for the values. -/
namespace Go.Proofs.YtijgkocolajghaaDoor
open Go.RowKit
set_option linter.unusedVariables false
set_option linter.unusedSimpArgs false
abbrev endsV (c r g : Int) : Value := .agg #[.int .i64 c, .int .i64 r, .int .i64 g]
def zvF (l : List Op8) (m k : Nat) (v : Int) : Option Value := if v = 0 ∨ fdN (wrB l v) m ≠ none then some (endsV (wcF l m v) (lsF l m v k) (grF l m v k)) else none
section
variable {l : List Op8} {m k : Nat}
theorem zvF_start (l : List Op8) : (fun v : Int => if v = 0 then some (endsV (-2) (-1) (-2)) else (none : Option Value)) = zvF l 0 0 := by
  funext v
  unfold zvF
  by_cases hv : v = 0
  · rw [if_pos hv, if_pos (.inl hv)]; rfl
  · rw [if_neg hv, if_neg (by rintro (h | h); exact hv h; exact h rfl)]
theorem fdN_skip {p : Nat → Bool} (h : p m = false) : fdN p (m + 1) = fdN p m := by
  rw [fdN_succ, h]
  cases fdN p m <;> rfl
theorem zvF_same1 (h : ∀ v, wrB l v m = false) : zvF l m 0 = zvF l (m + 1) 0 := by
  funext v
  unfold zvF lsF grF wcF wrtF
  rw [fdN_skip (h v)]
theorem zvF_new1 {a c r : Int} (h : ∀ v, wrB l v m = true ↔ v = a) (hc : (oAt l m).call = c) (hr : (oAt l m).ret = r) (hn : fdN (wrB l a) m = none) : (fun v => if v = a then some (endsV c r c) else zvF l m 0 v) = zvF l (m + 1) 0 := by
  funext v
  by_cases hv : v = a
  · subst hv
    have e : fdN (wrB l v) (m + 1) = some m := by rw [fdN_succ, hn, (h v).2 rfl]; rfl
    rw [if_pos rfl]
    unfold zvF lsF grF wcF wrtF
    rw [e, if_pos (.inr (by simp))]
    simp only [hc, hr]
  · have : wrB l v m = false := by
      cases hw : wrB l v m with
      | false => rfl
      | true => exact absurd ((h v).1 hw) hv
    rw [if_neg hv]
    unfold zvF lsF grF wcF wrtF
    rw [fdN_skip this]
theorem zvF_same2 (h : ∀ v, rdB l v k = false) : zvF l m k = zvF l m (k + 1) := by
  funext v
  unfold zvF
  rw [show lsF l m v (k + 1) = lsF l m v k by rw [lsF, h v]; rfl, show grF l m v (k + 1) = grF l m v k by rw [grF, h v]; rfl]
theorem zvF_new2 {a c r : Int} (h : ∀ v, rdB l v k = true ↔ v = a) (hc : (oAt l k).call = c) (hr : (oAt l k).ret = r) (hd : a = 0 ∨ fdN (wrB l a) m ≠ none) : (fun v => if v = a then some (endsV (wcF l m a) (min (lsF l m a k) r) (max (grF l m a k) c)) else zvF l m k v) = zvF l m (k + 1) := by
  funext v
  by_cases hv : v = a
  · subst hv
    rw [if_pos rfl]
    unfold zvF
    rw [if_pos hd, show lsF l m v (k + 1) = min (lsF l m v k) (oAt l k).ret by rw [lsF, (h v).2 rfl]; rfl, show grF l m v (k + 1) = max (grF l m v k) (oAt l k).call by rw [grF, (h v).2 rfl]; rfl, hc, hr]
  · have : rdB l v k = false := by
      cases hw : rdB l v k with
      | false => rfl
      | true => exact absurd ((h v).1 hw) hv
    rw [if_neg hv]
    unfold zvF
    rw [show lsF l m v (k + 1) = lsF l m v k by rw [lsF, this]; rfl, show grF l m v (k + 1) = grF l m v k by rw [grF, this]; rfl]
theorem dom_iff {v : Int} : domZ l v ↔ (v = 0 ∨ fdN (wrB l v) l.length ≠ none) := by
  unfold domZ
  constructor
  · rintro (h | ⟨j, h1, h2, h3⟩)
    · exact .inl h
    · refine .inr fun hn => ?_
      have := fdN_none.1 hn j h1
      unfold wrB at this
      simp [h2, h3] at this
  · rintro (h | h)
    · exact .inl h
    · cases hf : fdN (wrB l v) l.length with
      | none => exact absurd hf h
      | some j => exact .inr ⟨j, wr_some hf⟩
theorem zvF_some {v : Int} {m k : Nat} (h : v = 0 ∨ fdN (wrB l v) m ≠ none) : zvF l m k v = some (endsV (wcF l m v) (lsF l m v k) (grF l m v k)) := if_pos h
theorem zvF_none {v : Int} {m k : Nat} (h : ¬ (v = 0 ∨ fdN (wrB l v) m ≠ none)) : zvF l m k v = none := if_neg h
/-! ### Zones -/
def znF (l : List Op8) (v : Int) : Zn := ⟨v, min (LZ l v) (GZ l v), max (LZ l v) (GZ l v), decide (LZ l v < GZ l v)⟩
def ThinZ (l : List Op8) : Prop := ∃ i, i < l.length ∧ (oAt l i).kind = 1 ∧ (¬ domZ l (oAt l i).res ∨ (oAt l i).ret < wcF l l.length (oAt l i).res)
def clF (a b : Zn) (behind : Bool) : Bool := if b.fw then behind && decide (b.lo < a.hi) else decide (b.lo > a.lo) && decide (b.hi < a.hi)
def ClashZ (L : List Zn) : Prop := ∃ i k, i < L.length ∧ k < L.length ∧ i ≠ k ∧ (zAt L i).fw = true ∧ clF (zAt L i) (zAt L k) (decide (i < k)) = true
theorem OkZ.range (hZ : OkZ l) {v : Int} (hd : domZ l v) : -1 ≤ LZ l v ∧ LZ l v ≤ 1000000 ∧ -2 ≤ GZ l v ∧ GZ l v ≤ 1000000 := by
  have h1 : -1 ≤ LZ l v ∧ LZ l v ≤ 1000000 := by
    rcases hZ.least hd with ⟨_, h⟩ | ⟨i, h1, _, h3⟩
    · omega
    · have := hZ.num h1; omega
  have h2 : -2 ≤ GZ l v ∧ GZ l v ≤ 1000000 := by
    rcases hZ.greatest hd with ⟨_, h⟩ | ⟨i, h1, _, h3⟩
    · omega
    · have := hZ.num h1; omega
  omega
theorem vals_le {vs : List Int} (hn : vs.Nodup) (hs : ∀ v ∈ vs, domZ l v) (hZ : OkZ l) : vs.length ≤ l.length + 1 := by
  have hp : vs.Perm ((valsZ l).filter fun v => decide (v ∈ vs)) := by
    refine (List.perm_ext_iff_of_nodup hn (hZ.valsNodup.filter _)).2 fun v => ?_
    rw [List.mem_filter, mem_valsZ]
    simp only [decide_eq_true_eq]
    exact ⟨fun h => ⟨hs v h, h⟩, fun h => h.2⟩
  have h1 := hp.length_eq
  have h2 := List.length_filter_le (fun v => decide (v ∈ vs)) (valsZ l)
  have h3 : (valsZ l).length ≤ l.length + 1 := by
    unfold valsZ
    rw [List.length_cons, List.length_map]
    have := List.length_filter_le (fun i => decide ((oAt l i).kind = 2)) (List.range l.length)
    rw [List.length_range] at this
    omega
  omega
theorem clF_iff (a b : Zn) (beh : Bool) : clF a b beh = true ↔ (b.fw = true ∧ beh = true ∧ b.lo < a.hi) ∨ (b.fw = false ∧ a.lo < b.lo ∧ b.hi < a.hi) := by
  unfold clF
  cases b.fw <;> simp
theorem znF_fw {v : Int} (h : LZ l v < GZ l v) : (znF l v).fw = true ∧ (znF l v).lo = LZ l v ∧ (znF l v).hi = GZ l v :=
  ⟨decide_eq_true h, Int.min_eq_left (Int.le_of_lt h), Int.max_eq_right (Int.le_of_lt h)⟩
theorem znF_bw {v : Int} (h : ¬ LZ l v < GZ l v) : (znF l v).fw = false ∧ (znF l v).lo = GZ l v ∧ (znF l v).hi = LZ l v :=
  ⟨decide_eq_false h, Int.min_eq_right (by omega), Int.max_eq_left (by omega)⟩
/-- Zones fit just if nothing is bad. -/
theorem fine_iff (hZ : OkZ l) (ht : ¬ ThinZ l) {vs : List Int} {L : List Zn} (hvs : ∀ v, v ∈ vs ↔ domZ l v) (hn : vs.Nodup) (hp : L.Perm (vs.map (znF l))) (hs : L.Pairwise fun a b => a.lo ≤ b.lo) : FineZ l ↔ ¬ ClashZ L := by
  have hthin : ∀ i, i < l.length → (oAt l i).kind = 1 → domZ l (oAt l i).res ∧ wcF l l.length (oAt l i).res ≤ (oAt l i).ret := fun i hi hk => by
    refine ⟨Classical.byContradiction fun h => ht ⟨i, hi, hk, .inl h⟩, ?_⟩
    rcases Int.lt_or_le (oAt l i).ret (wcF l l.length (oAt l i).res) with h | h
    · exact absurd ⟨i, hi, hk, .inr h⟩ ht
    · exact h
  have hget : ∀ {i}, i < L.length → ∃ v, domZ l v ∧ zAt L i = znF l v := fun {i} hi => by
    have := hp.mem_iff.1 (zAt_mem hi)
    obtain ⟨v, h1, h2⟩ := List.mem_map.1 this
    exact ⟨v, (hvs v).1 h1, h2.symm⟩
  have hput : ∀ {v}, domZ l v → ∃ i, i < L.length ∧ zAt L i = znF l v := fun {v} hv => by
    have h1 : znF l v ∈ L := hp.mem_iff.2 (List.mem_map.2 ⟨v, (hvs v).2 hv, rfl⟩)
    obtain ⟨i, h2, h3⟩ := List.getElem_of_mem h1
    refine ⟨i, h2, ?_⟩
    have := zAt_get h2
    rw [List.getElem?_eq_getElem h2] at this
    injection this with this
    rw [← this, h3]
  have hinj : ∀ {i k}, i < L.length → k < L.length → i ≠ k → (zAt L i).v ≠ (zAt L k).v := fun {i k} hi hk hne e => by
    have hnd : (L.map (·.v)).Nodup := by
      have h1 : (L.map (·.v)).Perm vs := by
        have := hp.map (·.v)
        rw [List.map_map] at this
        have e2 : ((fun x : Zn => x.v) ∘ znF l) = id := by funext v; rfl
        rwa [e2, List.map_id] at this
      exact h1.nodup_iff.2 hn
    have h1 : (L.map (·.v))[i]? = some (zAt L i).v := by rw [List.getElem?_map, zAt_get hi]; rfl
    have h2 : (L.map (·.v))[k]? = some (zAt L k).v := by rw [List.getElem?_map, zAt_get hk]; rfl
    rw [← e] at h2
    exact hne ((List.getElem?_inj (by rw [List.length_map]; exact hi) hnd).1 (h1.trans h2.symm))
  have hle : ∀ {i k}, i < k → k < L.length → (zAt L i).lo ≤ (zAt L k).lo := fun {i k} hik hk => by
    have h1 := List.pairwise_iff_getElem.1 hs i k (by omega) hk hik
    have e : ∀ {k : Nat} (hk : k < L.length), zAt L k = L[k] := fun {k} hk => by
      have := zAt_get hk
      rw [List.getElem?_eq_getElem hk] at this
      injection this with this
      exact this.symm
    rwa [e (by omega), e hk]
  constructor
  · rintro ⟨_, hanti⟩ ⟨i, k, hi, hk, hne, hf, hc⟩
    obtain ⟨v, v1, v2⟩ := hget hi
    obtain ⟨w, w1, w2⟩ := hget hk
    have hvw : v ≠ w := fun e => by
      have := hinj hi hk hne
      rw [v2, w2, e] at this
      exact this rfl
    have h1 := hanti v w v1 w1 hvw
    have hlo := fun h => hle (i := i) (k := k) h hk
    rw [v2, w2] at hc hlo
    rw [v2] at hf
    have hv : LZ l v < GZ l v := by simpa [znF] using hf
    obtain ⟨a1, a2, a3⟩ := znF_fw hv
    rcases (clF_iff _ _ _).1 hc with ⟨c1, c2, c3⟩ | ⟨c1, c2, c3⟩
    · have hw : LZ l w < GZ l w := by simpa [znF] using c1
      obtain ⟨b1, b2, b3⟩ := znF_fw hw
      have := hlo (by simpa using c2)
      omega
    · have hw : ¬ LZ l w < GZ l w := by simpa [znF] using c1
      obtain ⟨b1, b2, b3⟩ := znF_bw hw
      omega
  · intro hno
    refine ⟨hthin, fun v w hv hw hne hh => hno ?_⟩
    have key : ∀ {v w}, domZ l v → domZ l w → v ≠ w → LZ l v < GZ l w → LZ l w < GZ l v → LZ l v < GZ l v → ClashZ L := fun {v w} hv hw hne h1 h2 hf => by
      obtain ⟨i, i1, i2⟩ := hput hv
      obtain ⟨k, k1, k2⟩ := hput hw
      have hik : i ≠ k := fun e => by
        subst e
        rw [i2] at k2
        have := congrArg Zn.v k2
        exact hne this
      obtain ⟨a1, a2, a3⟩ := znF_fw hf
      by_cases hb : LZ l w < GZ l w
      · obtain ⟨b1, b2, b3⟩ := znF_fw hb
        rcases Nat.lt_or_ge i k with h3 | h3
        · refine ⟨i, k, i1, k1, hik, by rw [i2]; exact a1, ?_⟩
          rw [i2, k2]
          exact (clF_iff _ _ _).2 (.inl ⟨b1, decide_eq_true h3, by omega⟩)
        · refine ⟨k, i, k1, i1, fun e => hik e.symm, by rw [k2]; exact b1, ?_⟩
          rw [i2, k2]
          exact (clF_iff _ _ _).2 (.inl ⟨a1, decide_eq_true (by omega), by omega⟩)
      · obtain ⟨b1, b2, b3⟩ := znF_bw hb
        refine ⟨i, k, i1, k1, hik, by rw [i2]; exact a1, ?_⟩
        rw [i2, k2]
        exact (clF_iff _ _ _).2 (.inr ⟨b1, by omega, by omega⟩)
    by_cases hf : LZ l v < GZ l v
    · exact key hv hw hne hh.1 hh.2 hf
    · exact key hw hv (fun e => hne e.symm) hh.2 hh.1 (by omega)
end
end Go.Proofs.YtijgkocolajghaaDoor

/-! Zon5: zone.Zones. -/
namespace Go.Proofs.YtijgkocolajghaaDoor
open Go.RowKit
set_option linter.unusedVariables false
set_option linter.unusedSimpArgs false
section
variable {κ : Type} [DecidableEq κ] {ok : κ → Prop} {K : κ → Value} {P : Program} {N : Nat} {ops : Array Oper} {Q : XPost} {rest : List Oper} {ρ : Env} {o : Oper} {w0 w w' : World} {S : Nat → Prop} {H : List Ent} {t kt et b : Nat} {x y z : Operand} {v : Value} {a : κ} {g : κ → Option Value}
theorem WL_insK (hK : KeyOk P kt ok K) (i : Nat) (hi : H[i]? = some (MapKE ok K b g)) (hI : Inv S w0 w H) (hw : wantedR ops ρ o = true) (hd : o.dst = none) (ho : o.op = .insert t x y z) (ht : P.underlying t = some (.map kt et)) (hx : ev ρ x = .map (some b)) (hy : ev ρ y = K a) (hz : ev ρ z = v) (ha : ok a)
    (h : ∀ w', Inv S w0 w' (H.set i (MapKE ok K b (fun j => if j = a then some v else g j))) → WL P N ops Q rest ρ w') : WL P N ops Q (o :: rest) ρ w := by
  have hM : MapKIs ok K w b g := (hI.ok _ (List.mem_of_getElem? hi)).1
  obtain ⟨o', h1, h2⟩ := run_mapSetK (P := P) (o := { o with op := .mapUpdate t x y z }) hK rfl ht hx hy hz ha hM
  have e : execOp (ev ρ) o = execOp (ev ρ) { o with op := .mapUpdate t x y z } := by unfold execOp; rw [ho]
  rw [← e] at h1
  exact WL_store hw hd h1 (h _ (hI.upd i hi (chg_setB w b o') (MapKE.ok h2) (fun _ hk => .inl hk)))
end
def znsR (l : List Op8) (vs : List Int) : List Value := (vs.map (znF l)).flatMap znV
theorem znsR_snoc (l : List Op8) (vs : List Int) (a : Int) : znsR l (vs ++ [a]) = znsR l vs ++ znV (znF l a) := by unfold znsR; simp
theorem znsR_len (l : List Op8) (vs : List Int) : (znsR l vs).length = vs.length * 4 := by unfold znsR; rw [znsV_len, List.length_map]
/-- A row of zones as a block. -/
theorem row_zon {w : World} {n c : Nat} {A : Option Addr} {L : List Zn} (h : w.ownsRow 0 54 4 (.slice A n c) n (L.flatMap znV)) (hn : 0 < n) (hl : L.length = n) : ∃ g junk, A = some ⟨g, 0, none⟩ ∧ Blk w g 54 (zonC L junk) := by
  obtain ⟨hlen, ⟨hv, h0⟩ | ⟨g, cap, cur, hv, _, hb, h1, h2, h3, h4⟩⟩ := h
  · omega
  · injection hv with e1 e2 e3
    subst e1
    refine ⟨g, cur.toList.drop (n * 4), rfl, ?_⟩
    have e : zonC L (cur.toList.drop (n * 4)) = cur := by
      unfold zonC
      rw [← h4, List.take_append_drop, Array.toArray_toList]
    rw [e]
    exact hb
def ZsPost (l : List Op8) (w0 : World) (en : Ending) (w' : World) : Prop :=
  (¬ OkZ l ∧ Pure w0 w' ∧ ∃ z : Int, z ≠ 8 ∧ en = .returned (.tuple #[.slice none 0 0, .iface 36 (.int .i64 z)])) ∨
  (OkZ l ∧ ThinZ l ∧ Pure w0 w' ∧ en = .returned (.tuple #[.slice none 0 0, .iface 36 (.int .i64 8)])) ∨
  (OkZ l ∧ ¬ ThinZ l ∧ ∃ (g c : Nat) (L : List Zn) (vs : List Int) (junk : List Value), vs.Nodup ∧ (∀ v, v ∈ vs ↔ domZ l v) ∧ L.Perm (vs.map (znF l)) ∧ (L.Pairwise fun a b => a.lo ≤ b.lo) ∧ L.length ≤ 12 ∧
    en = .returned (.tuple #[.slice (some ⟨g, 0, none⟩) L.length c, .nilIface]) ∧ Inv (fun _ => False) w0 w' [B g 54 (zonC L junk)])
set_option maxHeartbeats 16000000 in
theorem zones_any (A : Option Addr) (n c : Nat) (l : List Op8) (D : Nat → Prop) (w0 : World) (h : OpsR w0 D (.slice A n c) l) (h8 : l.length ≤ 8) : Calls Tryd.prog 19 #[.slice A n c] w0 (ZsPost l w0) := by
  obtain ⟨hn, hc1, hc2⟩ := h.len
  subst hn
  have hI := Inv.start (fun _ => False) w0
  refine calls_of_W (N := Tryd.f19.ntmps) Tryd.func19 rfl rfl rfl ?_
  refine W_seq ?_
  refine W_region ?_
  refine WL_val rfl rfl rfl (by first | exact rAsgnS rfl rfl | exact rAsgn rfl) ?_
  refine WL_val rfl rfl rfl (by first | exact rAsgnN rfl rfl | exact rAsgnE rfl rfl | exact rAsgn rfl) ?_
  refine WL_nil ?_
  by_cases hok : OkZ l
  rotate_left
  · refine W_seq ?_
    refine W_seq ?_
    refine W_region ?_
    refine WL_val rfl rfl rfl (by first | exact rMoveS rfl rfl | exact rMove rfl) ?_
    refine WL_call rfl rfl rfl (rCall (vs := [.slice _ _ _]) rfl Tryd.func26 rfl rfl rfl) ?_
    refine (zcheck_any A l.length c l D _ (h.pure hI.pu)).mono ?_
    rintro e w1 ⟨hp, ⟨h1, _⟩ | ⟨_, x, ⟨z, rfl, hz8⟩, rfl⟩⟩
    · exact absurd h1 hok
    refine ⟨_, rfl, ?_⟩
    replace hI := hI.pure hp
    refine WL_val rfl rfl rfl (by first | exact rAsgnN rfl rfl | exact rAsgnE rfl rfl | exact rAsgn rfl) ?_
    refine WL_nil ?_
    refine W_seq ?_
    refine W_region ?_
    refine WL_val rfl rfl rfl (by first | exact rMoveN rfl rfl | exact rMoveE rfl rfl | exact rMove rfl) ?_
    refine WL_val rfl rfl rfl (by first | exact rIfaceNe rfl Tryd.underlying24 rfl rfl | exact rNilNe rfl Tryd.underlying24 rfl) ?_
    refine WL_nil ?_
    refine W_cond true rfl ?_
    refine W_seq ?_
    refine W_region ?_
    refine WL_val rfl rfl rfl (by first | exact rMoveN rfl rfl | exact rMoveE rfl rfl | exact rMove rfl) ?_
    refine WL_val rfl rfl rfl (by first | exact rAsgnS rfl rfl | exact rAsgn rfl) ?_
    refine WL_val rfl rfl rfl (by first | exact rAsgnN rfl rfl | exact rAsgnE rfl rfl | exact rAsgn rfl) ?_
    refine WL_nil ?_
    refine W_ret ?_
    exact ret2 2 3 (.inr rfl) rfl (.inl ⟨hok, hI.pu, z, hz8, rfl⟩)
  refine W_seq ?_
  refine W_seq ?_
  refine W_region ?_
  refine WL_val rfl rfl rfl (by first | exact rMoveS rfl rfl | exact rMove rfl) ?_
  refine WL_call rfl rfl rfl (rCall (vs := [.slice _ _ _]) rfl Tryd.func26 rfl rfl rfl) ?_
  refine (zcheck_any A l.length c l D _ (h.pure hI.pu)).mono ?_
  rintro e w1 ⟨hp, ⟨_, rfl⟩ | ⟨h1, _⟩⟩
  rotate_left
  · exact absurd hok h1
  refine ⟨_, rfl, ?_⟩
  replace hI := hI.pure hp
  refine WL_val rfl rfl rfl (by first | exact rAsgnN rfl rfl | exact rAsgnE rfl rfl | exact rAsgn rfl) ?_
  refine WL_nil ?_
  refine W_seq ?_
  refine W_region ?_
  refine WL_val rfl rfl rfl (by first | exact rMoveN rfl rfl | exact rMoveE rfl rfl | exact rMove rfl) ?_
  refine WL_val rfl rfl rfl (by first | exact rIfaceNe rfl Tryd.underlying24 rfl rfl | exact rNilNe rfl Tryd.underlying24 rfl) ?_
  refine WL_nil ?_
  refine W_cond false rfl ?_
  refine W_skip ?_
  refine W_seq ?_
  refine W_region ?_
  refine WL_mkMapK okI kI hI rfl rfl rfl rfl ?_
  clear hI; rintro b20 w hI
  refine WL_val rfl rfl rfl (rBuild (qs := [(0, .int .i64 _), (1, .int .i64 _), (2, .int .i64 _)]) (vs := [_, _, _]) [.int .i64 0, .int .i64 0, .int .i64 0] [0, 1, 2] rfl rfl rfl (fun _ => by kernel_rfl)) ?_
  refine WL_insK (a := (0 : Int)) (v := endsV (-2) (-1) (-2)) keyI 0 rfl hI rfl rfl rfl Tryd.underlying69 rfl rfl rfl trivial ?_
  clear hI; intro w hI
  simp only [List.set_cons_zero] at hI
  rw [zvF_start l] at hI
  refine WL_val rfl rfl rfl (by first | exact rMoveM rfl rfl | exact rMove rfl) ?_
  refine WL_val rfl rfl rfl (by first | exact rAsgnM rfl rfl | exact rAsgn rfl) ?_
  refine WL_nil ?_
  refine W_seq_cut (fun ρ w => Has ρ [(0, .slice A l.length c), (5, .map (some b20))] ∧ Inv (fun _ => False) w0 w [MapKE okI kI b20 (zvF l l.length 0)]) ?_ ?_
  · refine W_seq ?_
    refine W_region ?_
    refine WL_val rfl rfl rfl (by first | exact rMoveS rfl rfl | exact rMove rfl) ?_
    refine WL_val rfl rfl rfl (rLen rfl Tryd.underlying22 rfl) ?_
    refine WL_val rfl rfl rfl (by first | exact rMoveI rfl rfl | exact rMove rfl) ?_
    refine WL_nil ?_
    refine W_block ?_
    refine W_loopN (fun mu ρ w => ∃ k : Nat, mu = l.length - k ∧ k ≤ l.length ∧ Has ρ [(25, .int .i64 (k : Int)), (24, .int .i64 (l.length : Int)), (23, .slice A l.length c), (5, .map (some b20)), (0, .slice A l.length c)] ∧ Inv (fun _ => False) w0 w [MapKE okI kI b20 (zvF l k 0)]) l.length
      ⟨0, rfl, by omega, ⟨rfl, rfl, rfl, rfl, rfl, trivial⟩, hI⟩ ?_
    clear hI
    rintro mu ρ w ⟨k, rfl, hk, hH, hI⟩
    obtain ⟨σ, rfl⟩ := hH.open
    by_cases hkl : k < l.length
    rotate_left
    · obtain rfl : k = l.length := by omega
      refine W_seq ?_
      refine W_region ?_
      refine WL_val rfl rfl rfl (by first | exact rLssT rfl rfl rfl (by omega) | exact rLssF rfl rfl rfl (by omega) | exact rLss rfl rfl rfl) ?_
      refine WL_nil ?_
      refine W_seq ?_
      refine W_cond false rfl ?_
      refine W_exit ?_
      exact ⟨⟨rfl, rfl, trivial⟩, hI⟩
    obtain ⟨bA, oA, hAe, hoc⟩ := (h.pure hI.pu).at hkl
    subst hAe
    have hkd := hok.kind k hkl
    have hsame := zvF_same1 (l := l) (m := k)
    have hnew := zvF_new1 (l := l) (m := k) (a := (oAt l k).a) (c := (oAt l k).call) (r := (oAt l k).ret)
    have hpb : ∀ v, wrB l v k = (decide ((oAt l k).kind = 2) && decide ((oAt l k).a = v)) := fun v => rfl
    have hone : (oAt l k).kind = 2 → fdN (wrB l (oAt l k).a) k = none := fun h9 => by
      rw [fdN_none]
      intro j hj
      unfold wrB
      cases hkj : decide ((oAt l j).kind = 2) with
      | false => rfl
      | true =>
        have := hok.once j k hj hkl (by simpa using hkj) h9
        simp [this]
    have hcr : (oAt l k).call = (oAt l k).call ∧ (oAt l k).ret = (oAt l k).ret := ⟨rfl, rfl⟩
    generalize hpk : oAt l k = pk at hoc hnew hpb hone hkd
    obtain ⟨p0, p1, p2, p3, p4, p5, p6, p7⟩ := pk
    simp only at hnew hpb hone hkd
    refine W_seq ?_
    refine W_region ?_
    refine WL_val rfl rfl rfl (by first | exact rLssT rfl rfl rfl (by omega) | exact rLssF rfl rfl rfl (by omega) | exact rLss rfl rfl rfl) ?_
    refine WL_nil ?_
    refine W_seq ?_
    refine W_cond true rfl ?_
    refine W_skip ?_
    refine W_seq ?_
    refine W_block ?_
    refine W_seq ?_
    refine W_region ?_
    refine WL_val rfl rfl rfl (rIdx (sz := 8) rfl Tryd.underlying22 (by kernel_rfl) rfl rfl (by omega)) ?_
    refine WL_val rfl rfl rfl (by first | exact rLdB (n := 8) rfl (by kernel_rfl) (by kernel_rfl) rfl rfl hI.g0 | exact rLdA (n := 8) rfl (by kernel_rfl) (by kernel_rfl) rfl (by rfl) (fun k u hk => hI.oldp (hoc k u hk)) | exact rLdA (n := 8) rfl (by kernel_rfl) (by kernel_rfl) rfl (by rfl) hoc) ?_
    refine WL_alloc (u := .agg #[.int .i64 0, .int .i64 0, .int .i64 0, .int .i64 0, .int .i64 0, .int .i64 0, .int .i64 0, .int .i64 0]) (vs := #[.int .i64 0, .int .i64 0, .int .i64 0, .int .i64 0, .int .i64 0, .int .i64 0, .int .i64 0, .int .i64 0]) hI rfl rfl rfl rfl (by kernel_rfl) rfl ?_
    clear hI; rintro b7 w - - hI
    first | refine WL_stw0 (u := .agg _) (vs := #[_, _, _, _, _, _, _, _]) (n := 8) hI rfl rfl rfl rfl rfl rfl (by kernel_rfl) rfl rfl rfl ?_
    clear hI; intro w hI
    refine WL_nil ?_
    simp only [opV] at hI
    by_cases k2 : p2 = 2
    · refine W_seq ?_
      refine W_region ?_
      refine WL_val rfl rfl rfl (by first | exact rFldN (off := 2) rfl (by kernel_rfl) rfl | exact rFld (off := 2) rfl (by kernel_rfl) rfl) ?_
      refine WL_val rfl rfl rfl (by first | exact rLd (v := .int .i64 _) rfl (by kernel_rfl) rfl (by first | exact hI.c0 rfl | exact hI.c1 rfl | exact hI.c2 rfl | exact hI.c3 rfl | exact hI.c4 rfl | exact hI.c5 rfl) | exact rLd rfl (by kernel_rfl) rfl (by first | exact hI.c0 rfl | exact hI.c1 rfl | exact hI.c2 rfl | exact hI.c3 rfl | exact hI.c4 rfl | exact hI.c5 rfl)) ?_
      refine WL_val rfl rfl rfl (by first | exact rEqlT rfl rfl rfl (by omega) | exact rEqlF rfl rfl rfl (by omega) | exact rEql rfl rfl rfl) ?_
      refine WL_nil ?_
      refine W_cond true rfl ?_
      refine W_region ?_
      refine WL_val rfl rfl rfl (by first | exact rMoveM rfl rfl | exact rMove rfl) ?_
      refine WL_val rfl rfl rfl (by first | exact rFldN (off := 3) rfl (by kernel_rfl) rfl | exact rFld (off := 3) rfl (by kernel_rfl) rfl) ?_
      refine WL_val rfl rfl rfl (by first | exact rLd (v := .int .i64 _) rfl (by kernel_rfl) rfl (by first | exact hI.c0 rfl | exact hI.c1 rfl | exact hI.c2 rfl | exact hI.c3 rfl | exact hI.c4 rfl | exact hI.c5 rfl) | exact rLd rfl (by kernel_rfl) rfl (by first | exact hI.c0 rfl | exact hI.c1 rfl | exact hI.c2 rfl | exact hI.c3 rfl | exact hI.c4 rfl | exact hI.c5 rfl)) ?_
      refine WL_val rfl rfl rfl (by first | exact rFldN (off := 6) rfl (by kernel_rfl) rfl | exact rFld (off := 6) rfl (by kernel_rfl) rfl) ?_
      refine WL_val rfl rfl rfl (by first | exact rLd (v := .int .i64 _) rfl (by kernel_rfl) rfl (by first | exact hI.c0 rfl | exact hI.c1 rfl | exact hI.c2 rfl | exact hI.c3 rfl | exact hI.c4 rfl | exact hI.c5 rfl) | exact rLd rfl (by kernel_rfl) rfl (by first | exact hI.c0 rfl | exact hI.c1 rfl | exact hI.c2 rfl | exact hI.c3 rfl | exact hI.c4 rfl | exact hI.c5 rfl)) ?_
      refine WL_val rfl rfl rfl (by first | exact rFldN (off := 7) rfl (by kernel_rfl) rfl | exact rFld (off := 7) rfl (by kernel_rfl) rfl) ?_
      refine WL_val rfl rfl rfl (by first | exact rLd (v := .int .i64 _) rfl (by kernel_rfl) rfl (by first | exact hI.c0 rfl | exact hI.c1 rfl | exact hI.c2 rfl | exact hI.c3 rfl | exact hI.c4 rfl | exact hI.c5 rfl) | exact rLd rfl (by kernel_rfl) rfl (by first | exact hI.c0 rfl | exact hI.c1 rfl | exact hI.c2 rfl | exact hI.c3 rfl | exact hI.c4 rfl | exact hI.c5 rfl)) ?_
      refine WL_val rfl rfl rfl (by first | exact rFldN (off := 6) rfl (by kernel_rfl) rfl | exact rFld (off := 6) rfl (by kernel_rfl) rfl) ?_
      refine WL_val rfl rfl rfl (by first | exact rLd (v := .int .i64 _) rfl (by kernel_rfl) rfl (by first | exact hI.c0 rfl | exact hI.c1 rfl | exact hI.c2 rfl | exact hI.c3 rfl | exact hI.c4 rfl | exact hI.c5 rfl) | exact rLd rfl (by kernel_rfl) rfl (by first | exact hI.c0 rfl | exact hI.c1 rfl | exact hI.c2 rfl | exact hI.c3 rfl | exact hI.c4 rfl | exact hI.c5 rfl)) ?_
      refine WL_val rfl rfl rfl (rBuild (qs := [(0, .int .i64 _), (1, .int .i64 _), (2, .int .i64 _)]) (vs := [_, _, _]) [.int .i64 0, .int .i64 0, .int .i64 0] [0, 1, 2] rfl rfl rfl (fun _ => by kernel_rfl)) ?_
      refine WL_mapSetK (a := p3) (v := endsV p6 p7 p6) keyI 1 rfl hI rfl rfl rfl Tryd.underlying69 rfl rfl rfl trivial ?_
      clear hI; intro w hI
      simp only [List.set_cons_succ, List.set_cons_zero] at hI
      refine WL_nil ?_
      rw [hnew (fun v => by rw [hpb]; simp [k2, eq_comm]) trivial trivial (hone k2)] at hI
      replace hI := hI.d0
      refine W_region ?_
      refine WL_val rfl rfl rfl (by first | exact rInc rfl rfl rfl (by omega) | exact rAdd rfl rfl rfl (by omega) | exact rAddW rfl rfl rfl) ?_
      refine WL_val rfl rfl rfl (by first | exact rMoveI rfl rfl | exact rMove rfl) ?_
      refine WL_nil ?_
      exact ⟨l.length - (k + 1), by omega, k + 1, rfl, by omega, ⟨rfl, rfl, rfl, rfl, rfl, trivial⟩, hI⟩
    · refine W_seq ?_
      refine W_region ?_
      refine WL_val rfl rfl rfl (by first | exact rFldN (off := 2) rfl (by kernel_rfl) rfl | exact rFld (off := 2) rfl (by kernel_rfl) rfl) ?_
      refine WL_val rfl rfl rfl (by first | exact rLd (v := .int .i64 _) rfl (by kernel_rfl) rfl (by first | exact hI.c0 rfl | exact hI.c1 rfl | exact hI.c2 rfl | exact hI.c3 rfl | exact hI.c4 rfl | exact hI.c5 rfl) | exact rLd rfl (by kernel_rfl) rfl (by first | exact hI.c0 rfl | exact hI.c1 rfl | exact hI.c2 rfl | exact hI.c3 rfl | exact hI.c4 rfl | exact hI.c5 rfl)) ?_
      refine WL_val rfl rfl rfl (by first | exact rEqlT rfl rfl rfl (by omega) | exact rEqlF rfl rfl rfl (by omega) | exact rEql rfl rfl rfl) ?_
      refine WL_nil ?_
      refine W_cond false rfl ?_
      refine W_skip ?_
      rw [hsame (fun v => by rw [hpb]; simp [k2])] at hI
      replace hI := hI.d0
      refine W_region ?_
      refine WL_val rfl rfl rfl (by first | exact rInc rfl rfl rfl (by omega) | exact rAdd rfl rfl rfl (by omega) | exact rAddW rfl rfl rfl) ?_
      refine WL_val rfl rfl rfl (by first | exact rMoveI rfl rfl | exact rMove rfl) ?_
      refine WL_nil ?_
      exact ⟨l.length - (k + 1), by omega, k + 1, rfl, by omega, ⟨rfl, rfl, rfl, rfl, rfl, trivial⟩, hI⟩
  clear hI
  rintro ρ w ⟨hH, hI⟩
  obtain ⟨σ, rfl⟩ := hH.open
  refine W_seq_cut (fun ρ w => ¬ ThinZ l ∧ Has ρ [(5, .map (some b20))] ∧ Inv (fun _ => False) w0 w [MapKE okI kI b20 (zvF l l.length l.length)]) ?_ ?_
  · refine W_seq ?_
    refine W_region ?_
    refine WL_val rfl rfl rfl (by first | exact rMoveS rfl rfl | exact rMove rfl) ?_
    refine WL_val rfl rfl rfl (rLen rfl Tryd.underlying22 rfl) ?_
    refine WL_val rfl rfl rfl (by first | exact rMoveI rfl rfl | exact rMove rfl) ?_
    refine WL_nil ?_
    refine W_block ?_
    refine W_loopN (fun mu ρ w => ∃ k : Nat, mu = l.length - k ∧ k ≤ l.length ∧ (∀ i, i < k → (oAt l i).kind = 1 → domZ l (oAt l i).res ∧ ¬ (oAt l i).ret < wcF l l.length (oAt l i).res) ∧ Has ρ [(45, .int .i64 (k : Int)), (44, .int .i64 (l.length : Int)), (43, .slice A l.length c), (5, .map (some b20))] ∧ Inv (fun _ => False) w0 w [MapKE okI kI b20 (zvF l l.length k)]) l.length
      ⟨0, rfl, by omega, fun i hi => by omega, ⟨rfl, rfl, rfl, rfl, trivial⟩, hI⟩ ?_
    clear hI
    rintro mu ρ w ⟨k, rfl, hk, hall, hH, hI⟩
    obtain ⟨σ, rfl⟩ := hH.open
    by_cases hkl : k < l.length
    rotate_left
    · obtain rfl : k = l.length := by omega
      refine W_seq ?_
      refine W_region ?_
      refine WL_val rfl rfl rfl (by first | exact rLssT rfl rfl rfl (by omega) | exact rLssF rfl rfl rfl (by omega) | exact rLss rfl rfl rfl) ?_
      refine WL_nil ?_
      refine W_seq ?_
      refine W_cond false rfl ?_
      refine W_exit ?_
      exact ⟨fun ⟨i, i1, i2, i3⟩ => by
        obtain ⟨q1, q2⟩ := hall i i1 i2
        rcases i3 with i3 | i3
        · exact i3 q1
        · exact q2 i3, ⟨rfl, trivial⟩, hI⟩
    obtain ⟨bA, oA, hAe, hoc⟩ := (h.pure hI.pu).at hkl
    subst hAe
    have hkd := hok.kind k hkl
    have hsame := zvF_same2 (l := l) (m := l.length) (k := k)
    have hnew := zvF_new2 (l := l) (m := l.length) (k := k) (a := (oAt l k).res) (c := (oAt l k).call) (r := (oAt l k).ret)
    have hpb : ∀ v, rdB l v k = (decide ((oAt l k).kind = 1) && decide ((oAt l k).res = v)) := fun v => rfl
    have hthin : (oAt l k).kind = 1 → ¬ domZ l (oAt l k).res ∨ (oAt l k).ret < wcF l l.length (oAt l k).res → ThinZ l := fun h1 h2 => ⟨k, hkl, h1, h2⟩
    have hnext : ((oAt l k).kind = 1 → domZ l (oAt l k).res ∧ ¬ (oAt l k).ret < wcF l l.length (oAt l k).res) → ∀ i, i < k + 1 → (oAt l i).kind = 1 → domZ l (oAt l i).res ∧ ¬ (oAt l i).ret < wcF l l.length (oAt l i).res := fun h1 i hi hki => by
      rcases Nat.lt_or_ge i k with h3 | h3
      · exact hall i h3 hki
      · obtain rfl : i = k := by omega
        exact h1 hki
    generalize hpk : oAt l k = pk at hoc hnew hpb hthin hkd hnext
    obtain ⟨p0, p1, p2, p3, p4, p5, p6, p7⟩ := pk
    simp only at hnew hpb hthin hkd hnext
    refine W_seq ?_
    refine W_region ?_
    refine WL_val rfl rfl rfl (by first | exact rLssT rfl rfl rfl (by omega) | exact rLssF rfl rfl rfl (by omega) | exact rLss rfl rfl rfl) ?_
    refine WL_nil ?_
    refine W_seq ?_
    refine W_cond true rfl ?_
    refine W_skip ?_
    refine W_seq ?_
    refine W_block ?_
    refine W_seq ?_
    refine W_region ?_
    refine WL_val rfl rfl rfl (rIdx (sz := 8) rfl Tryd.underlying22 (by kernel_rfl) rfl rfl (by omega)) ?_
    refine WL_val rfl rfl rfl (by first | exact rLdB (n := 8) rfl (by kernel_rfl) (by kernel_rfl) rfl rfl hI.g0 | exact rLdA (n := 8) rfl (by kernel_rfl) (by kernel_rfl) rfl (by rfl) (fun k u hk => hI.oldp (hoc k u hk)) | exact rLdA (n := 8) rfl (by kernel_rfl) (by kernel_rfl) rfl (by rfl) hoc) ?_
    refine WL_alloc (u := .agg #[.int .i64 0, .int .i64 0, .int .i64 0, .int .i64 0, .int .i64 0, .int .i64 0, .int .i64 0, .int .i64 0]) (vs := #[.int .i64 0, .int .i64 0, .int .i64 0, .int .i64 0, .int .i64 0, .int .i64 0, .int .i64 0, .int .i64 0]) hI rfl rfl rfl rfl (by kernel_rfl) rfl ?_
    clear hI; rintro b9 w - - hI
    first | refine WL_stw0 (u := .agg _) (vs := #[_, _, _, _, _, _, _, _]) (n := 8) hI rfl rfl rfl rfl rfl rfl (by kernel_rfl) rfl rfl rfl ?_
    clear hI; intro w hI
    refine WL_nil ?_
    simp only [opV] at hI
    by_cases k1 : p2 = 1
    rotate_left
    · refine W_seq ?_
      refine W_seq ?_
      refine W_region ?_
      refine WL_val rfl rfl rfl (by first | exact rFldN (off := 2) rfl (by kernel_rfl) rfl | exact rFld (off := 2) rfl (by kernel_rfl) rfl) ?_
      refine WL_val rfl rfl rfl (by first | exact rLd (v := .int .i64 _) rfl (by kernel_rfl) rfl (by first | exact hI.c0 rfl | exact hI.c1 rfl | exact hI.c2 rfl | exact hI.c3 rfl | exact hI.c4 rfl | exact hI.c5 rfl) | exact rLd rfl (by kernel_rfl) rfl (by first | exact hI.c0 rfl | exact hI.c1 rfl | exact hI.c2 rfl | exact hI.c3 rfl | exact hI.c4 rfl | exact hI.c5 rfl)) ?_
      refine WL_val rfl rfl rfl (by first | exact rNeqT rfl rfl rfl (by omega) | exact rNeqF rfl rfl rfl (by omega) | exact rNeq rfl rfl rfl) ?_
      refine WL_nil ?_
      refine W_cond true rfl ?_
      refine W_exit ?_
      rw [hsame (fun v => by rw [hpb]; simp [k1])] at hI
      replace hI := hI.d0
      refine W_region ?_
      refine WL_val rfl rfl rfl (by first | exact rInc rfl rfl rfl (by omega) | exact rAdd rfl rfl rfl (by omega) | exact rAddW rfl rfl rfl) ?_
      refine WL_val rfl rfl rfl (by first | exact rMoveI rfl rfl | exact rMove rfl) ?_
      refine WL_nil ?_
      exact ⟨l.length - (k + 1), by omega, k + 1, rfl, by omega, hnext (fun h1 => absurd h1 k1), ⟨rfl, rfl, rfl, rfl, trivial⟩, hI⟩
    refine W_seq ?_
    refine W_seq ?_
    refine W_region ?_
    refine WL_val rfl rfl rfl (by first | exact rFldN (off := 2) rfl (by kernel_rfl) rfl | exact rFld (off := 2) rfl (by kernel_rfl) rfl) ?_
    refine WL_val rfl rfl rfl (by first | exact rLd (v := .int .i64 _) rfl (by kernel_rfl) rfl (by first | exact hI.c0 rfl | exact hI.c1 rfl | exact hI.c2 rfl | exact hI.c3 rfl | exact hI.c4 rfl | exact hI.c5 rfl) | exact rLd rfl (by kernel_rfl) rfl (by first | exact hI.c0 rfl | exact hI.c1 rfl | exact hI.c2 rfl | exact hI.c3 rfl | exact hI.c4 rfl | exact hI.c5 rfl)) ?_
    refine WL_val rfl rfl rfl (by first | exact rNeqT rfl rfl rfl (by omega) | exact rNeqF rfl rfl rfl (by omega) | exact rNeq rfl rfl rfl) ?_
    refine WL_nil ?_
    refine W_cond false rfl ?_
    refine W_skip ?_
    by_cases hd : p5 = 0 ∨ fdN (wrB l p5) l.length ≠ none
    rotate_left
    · have hv : zvF l l.length k p5 = none := zvF_none hd
      refine W_seq ?_
      refine W_region ?_
      refine WL_val rfl rfl rfl (by first | exact rMoveM rfl rfl | exact rMove rfl) ?_
      refine WL_val rfl rfl rfl (by first | exact rFldN (off := 5) rfl (by kernel_rfl) rfl | exact rFld (off := 5) rfl (by kernel_rfl) rfl) ?_
      refine WL_val rfl rfl rfl (by first | exact rLd (v := .int .i64 _) rfl (by kernel_rfl) rfl (by first | exact hI.c0 rfl | exact hI.c1 rfl | exact hI.c2 rfl | exact hI.c3 rfl | exact hI.c4 rfl | exact hI.c5 rfl) | exact rLd rfl (by kernel_rfl) rfl (by first | exact hI.c0 rfl | exact hI.c1 rfl | exact hI.c2 rfl | exact hI.c3 rfl | exact hI.c4 rfl | exact hI.c5 rfl)) ?_
      refine WL_val rfl rfl rfl (rLookKN (a := p5) (zv := endsV 0 0 0) keyI hv rfl Tryd.underlying69 (by kernel_rfl) rfl rfl trivial hI.g1) ?_
      refine WL_val rfl rfl rfl (by first | exact rMoveT rfl rfl | exact rMove rfl) ?_
      refine WL_val rfl rfl rfl (rExtr rfl rfl rfl) ?_
      refine WL_val rfl rfl rfl (rExtr rfl rfl rfl) ?_
      refine WL_alloc (u := .agg #[.int .i64 0, .int .i64 0, .int .i64 0]) (vs := #[.int .i64 0, .int .i64 0, .int .i64 0]) hI rfl rfl rfl rfl (by kernel_rfl) rfl ?_
      clear hI; rintro b10 w - - hI
      first | refine WL_stw0 (u := .agg _) (vs := #[_, _, _]) (n := 3) hI rfl rfl rfl rfl rfl rfl (by kernel_rfl) rfl rfl rfl ?_ | refine WL_stw1 (u := .agg _) (vs := #[_, _, _]) (n := 3) hI rfl rfl rfl rfl rfl rfl (by kernel_rfl) rfl rfl rfl ?_ | refine WL_stw2 (u := .agg _) (vs := #[_, _, _]) (n := 3) hI rfl rfl rfl rfl rfl rfl (by kernel_rfl) rfl rfl rfl ?_ | refine WL_stw3 (u := .agg _) (vs := #[_, _, _]) (n := 3) hI rfl rfl rfl rfl rfl rfl (by kernel_rfl) rfl rfl rfl ?_ | refine WL_stw4 (u := .agg _) (vs := #[_, _, _]) (n := 3) hI rfl rfl rfl rfl rfl rfl (by kernel_rfl) rfl rfl rfl ?_ | refine WL_stw5 (u := .agg _) (vs := #[_, _, _]) (n := 3) hI rfl rfl rfl rfl rfl rfl (by kernel_rfl) rfl rfl rfl ?_
      clear hI; intro w hI
      refine WL_val rfl rfl rfl (by first | exact rAsgnB rfl rfl | exact rAsgn rfl) ?_
      refine WL_nil ?_
      refine W_seq ?_
      refine W_seq ?_
      refine W_region ?_
      refine WL_val rfl rfl rfl (by first | exact rMoveB rfl rfl | exact rMove rfl) ?_
      refine WL_val rfl rfl rfl (by first | exact rNotT rfl rfl | exact rNotF rfl rfl | exact rNot rfl rfl) ?_
      refine WL_val rfl rfl rfl (by first | exact rMoveB rfl rfl | exact rMove rfl) ?_
      refine WL_skip rfl rfl rfl ?_
      refine WL_skip rfl rfl rfl ?_
      refine WL_skip rfl rfl rfl ?_
      refine WL_skip rfl rfl rfl ?_
      refine WL_skip rfl rfl rfl ?_
      refine WL_val rfl rfl rfl (by first | exact rPickTB rfl rfl rfl | exact rPickFB rfl rfl rfl | exact rPickB rfl rfl rfl rfl) ?_
      refine WL_nil ?_
      refine W_cond true rfl ?_
      refine W_seq ?_
      refine W_region ?_
      refine WL_val rfl rfl rfl (rIface rfl Tryd.underlying36 rfl rfl) ?_
      refine WL_val rfl rfl rfl (by first | exact rAsgnS rfl rfl | exact rAsgn rfl) ?_
      refine WL_val rfl rfl rfl (by first | exact rAsgnN rfl rfl | exact rAsgnE rfl rfl | exact rAsgn rfl) ?_
      refine WL_nil ?_
      refine W_ret ?_
      exact ret2 2 3 (.inr rfl) rfl (.inr (.inl ⟨hok, hthin k1 (.inl fun hd2 => hd (dom_iff.1 hd2)), hI.pu, rfl⟩))
    have hv : zvF l l.length k p5 = some (endsV (wcF l l.length p5) (lsF l l.length p5 k) (grF l l.length p5 k)) := zvF_some hd
    refine W_seq ?_
    refine W_region ?_
    refine WL_val rfl rfl rfl (by first | exact rMoveM rfl rfl | exact rMove rfl) ?_
    refine WL_val rfl rfl rfl (by first | exact rFldN (off := 5) rfl (by kernel_rfl) rfl | exact rFld (off := 5) rfl (by kernel_rfl) rfl) ?_
    refine WL_val rfl rfl rfl (by first | exact rLd (v := .int .i64 _) rfl (by kernel_rfl) rfl (by first | exact hI.c0 rfl | exact hI.c1 rfl | exact hI.c2 rfl | exact hI.c3 rfl | exact hI.c4 rfl | exact hI.c5 rfl) | exact rLd rfl (by kernel_rfl) rfl (by first | exact hI.c0 rfl | exact hI.c1 rfl | exact hI.c2 rfl | exact hI.c3 rfl | exact hI.c4 rfl | exact hI.c5 rfl)) ?_
    refine WL_val rfl rfl rfl (rLookKY (a := p5) keyI hv rfl Tryd.underlying69 rfl rfl trivial hI.g1) ?_
    refine WL_val rfl rfl rfl (by first | exact rMoveT rfl rfl | exact rMove rfl) ?_
    refine WL_val rfl rfl rfl (rExtr rfl rfl rfl) ?_
    refine WL_val rfl rfl rfl (rExtr rfl rfl rfl) ?_
    refine WL_alloc (u := .agg #[.int .i64 0, .int .i64 0, .int .i64 0]) (vs := #[.int .i64 0, .int .i64 0, .int .i64 0]) hI rfl rfl rfl rfl (by kernel_rfl) rfl ?_
    clear hI; rintro b10 w - - hI
    first | refine WL_stw0 (u := .agg _) (vs := #[_, _, _]) (n := 3) hI rfl rfl rfl rfl rfl rfl (by kernel_rfl) rfl rfl rfl ?_ | refine WL_stw1 (u := .agg _) (vs := #[_, _, _]) (n := 3) hI rfl rfl rfl rfl rfl rfl (by kernel_rfl) rfl rfl rfl ?_ | refine WL_stw2 (u := .agg _) (vs := #[_, _, _]) (n := 3) hI rfl rfl rfl rfl rfl rfl (by kernel_rfl) rfl rfl rfl ?_ | refine WL_stw3 (u := .agg _) (vs := #[_, _, _]) (n := 3) hI rfl rfl rfl rfl rfl rfl (by kernel_rfl) rfl rfl rfl ?_ | refine WL_stw4 (u := .agg _) (vs := #[_, _, _]) (n := 3) hI rfl rfl rfl rfl rfl rfl (by kernel_rfl) rfl rfl rfl ?_ | refine WL_stw5 (u := .agg _) (vs := #[_, _, _]) (n := 3) hI rfl rfl rfl rfl rfl rfl (by kernel_rfl) rfl rfl rfl ?_
    clear hI; intro w hI
    refine WL_val rfl rfl rfl (by first | exact rAsgnB rfl rfl | exact rAsgn rfl) ?_
    refine WL_nil ?_
    by_cases hrw : p7 < wcF l l.length p5
    · refine W_seq ?_
      refine W_seq ?_
      refine W_region ?_
      refine WL_val rfl rfl rfl (by first | exact rMoveB rfl rfl | exact rMove rfl) ?_
      refine WL_val rfl rfl rfl (by first | exact rNotT rfl rfl | exact rNotF rfl rfl | exact rNot rfl rfl) ?_
      refine WL_val rfl rfl rfl (by first | exact rMoveB rfl rfl | exact rMove rfl) ?_
      first | refine WL_val rfl rfl rfl (by first | exact rFldN (off := 7) rfl (by kernel_rfl) rfl | exact rFld (off := 7) rfl (by kernel_rfl) rfl) ?_ | refine WL_skip rfl rfl rfl ?_
      first | refine WL_val rfl rfl rfl (by first | exact rLd (v := .int .i64 _) rfl (by kernel_rfl) rfl (by first | exact hI.c0 rfl | exact hI.c1 rfl) | exact rLd rfl (by kernel_rfl) rfl (by first | exact hI.c0 rfl | exact hI.c1 rfl)) ?_ | refine WL_skip rfl rfl rfl ?_
      first | refine WL_val rfl rfl rfl (by first | exact rFldN (off := 0) rfl (by kernel_rfl) rfl | exact rFld0 rfl (by kernel_rfl) rfl) ?_ | refine WL_skip rfl rfl rfl ?_
      first | refine WL_val rfl rfl rfl (by first | exact rLd (v := .int .i64 _) rfl (by kernel_rfl) rfl (by first | exact hI.c0 rfl | exact hI.c1 rfl) | exact rLd rfl (by kernel_rfl) rfl (by first | exact hI.c0 rfl | exact hI.c1 rfl)) ?_ | refine WL_skip rfl rfl rfl ?_
      first | refine WL_val rfl rfl rfl (by first | exact rLssT rfl rfl rfl (by omega) | exact rLssF rfl rfl rfl (by omega) | exact rLss rfl rfl rfl) ?_ | refine WL_skip rfl rfl rfl ?_
      refine WL_val rfl rfl rfl (by first | exact rPickTB rfl rfl rfl | exact rPickFB rfl rfl rfl | exact rPickB rfl rfl rfl rfl) ?_
      refine WL_nil ?_
      refine W_cond true rfl ?_
      refine W_seq ?_
      refine W_region ?_
      refine WL_val rfl rfl rfl (rIface rfl Tryd.underlying36 rfl rfl) ?_
      refine WL_val rfl rfl rfl (by first | exact rAsgnS rfl rfl | exact rAsgn rfl) ?_
      refine WL_val rfl rfl rfl (by first | exact rAsgnN rfl rfl | exact rAsgnE rfl rfl | exact rAsgn rfl) ?_
      refine WL_nil ?_
      refine W_ret ?_
      exact ret2 2 3 (.inr rfl) rfl (.inr (.inl ⟨hok, hthin k1 (.inr hrw), hI.pu, rfl⟩))
    refine W_seq ?_
    refine W_seq ?_
    refine W_region ?_
    refine WL_val rfl rfl rfl (by first | exact rMoveB rfl rfl | exact rMove rfl) ?_
    refine WL_val rfl rfl rfl (by first | exact rNotT rfl rfl | exact rNotF rfl rfl | exact rNot rfl rfl) ?_
    refine WL_val rfl rfl rfl (by first | exact rMoveB rfl rfl | exact rMove rfl) ?_
    first | refine WL_val rfl rfl rfl (by first | exact rFldN (off := 7) rfl (by kernel_rfl) rfl | exact rFld (off := 7) rfl (by kernel_rfl) rfl) ?_ | refine WL_skip rfl rfl rfl ?_
    first | refine WL_val rfl rfl rfl (by first | exact rLd (v := .int .i64 _) rfl (by kernel_rfl) rfl (by first | exact hI.c0 rfl | exact hI.c1 rfl) | exact rLd rfl (by kernel_rfl) rfl (by first | exact hI.c0 rfl | exact hI.c1 rfl)) ?_ | refine WL_skip rfl rfl rfl ?_
    first | refine WL_val rfl rfl rfl (by first | exact rFldN (off := 0) rfl (by kernel_rfl) rfl | exact rFld0 rfl (by kernel_rfl) rfl) ?_ | refine WL_skip rfl rfl rfl ?_
    first | refine WL_val rfl rfl rfl (by first | exact rLd (v := .int .i64 _) rfl (by kernel_rfl) rfl (by first | exact hI.c0 rfl | exact hI.c1 rfl) | exact rLd rfl (by kernel_rfl) rfl (by first | exact hI.c0 rfl | exact hI.c1 rfl)) ?_ | refine WL_skip rfl rfl rfl ?_
    first | refine WL_val rfl rfl rfl (by first | exact rLssT rfl rfl rfl (by omega) | exact rLssF rfl rfl rfl (by omega) | exact rLss rfl rfl rfl) ?_ | refine WL_skip rfl rfl rfl ?_
    refine WL_val rfl rfl rfl (by first | exact rPickTB rfl rfl rfl | exact rPickFB rfl rfl rfl | exact rPickB rfl rfl rfl rfl) ?_
    refine WL_nil ?_
    refine W_cond false rfl ?_
    refine W_skip ?_
    refine W_region ?_
    refine WL_val rfl rfl rfl (by first | exact rMoveM rfl rfl | exact rMove rfl) ?_
    refine WL_val rfl rfl rfl (by first | exact rFldN (off := 5) rfl (by kernel_rfl) rfl | exact rFld (off := 5) rfl (by kernel_rfl) rfl) ?_
    refine WL_val rfl rfl rfl (by first | exact rLd (v := .int .i64 _) rfl (by kernel_rfl) rfl (by first | exact hI.c0 rfl | exact hI.c1 rfl) | exact rLd rfl (by kernel_rfl) rfl (by first | exact hI.c0 rfl | exact hI.c1 rfl)) ?_
    refine WL_val rfl rfl rfl (by first | exact rFldN (off := 0) rfl (by kernel_rfl) rfl | exact rFld0 rfl (by kernel_rfl) rfl) ?_
    refine WL_val rfl rfl rfl (by first | exact rLd (v := .int .i64 _) rfl (by kernel_rfl) rfl (by first | exact hI.c0 rfl | exact hI.c1 rfl) | exact rLd rfl (by kernel_rfl) rfl (by first | exact hI.c0 rfl | exact hI.c1 rfl)) ?_
    refine WL_val rfl rfl rfl (by first | exact rFldN (off := 1) rfl (by kernel_rfl) rfl | exact rFld (off := 1) rfl (by kernel_rfl) rfl) ?_
    refine WL_val rfl rfl rfl (by first | exact rLd (v := .int .i64 _) rfl (by kernel_rfl) rfl (by first | exact hI.c0 rfl | exact hI.c1 rfl) | exact rLd rfl (by kernel_rfl) rfl (by first | exact hI.c0 rfl | exact hI.c1 rfl)) ?_
    refine WL_val rfl rfl rfl (by first | exact rFldN (off := 7) rfl (by kernel_rfl) rfl | exact rFld (off := 7) rfl (by kernel_rfl) rfl) ?_
    refine WL_val rfl rfl rfl (by first | exact rLd (v := .int .i64 _) rfl (by kernel_rfl) rfl (by first | exact hI.c0 rfl | exact hI.c1 rfl) | exact rLd rfl (by kernel_rfl) rfl (by first | exact hI.c0 rfl | exact hI.c1 rfl)) ?_
    refine WL_val rfl rfl rfl (rMin rfl rfl rfl) ?_
    refine WL_val rfl rfl rfl (by first | exact rFldN (off := 2) rfl (by kernel_rfl) rfl | exact rFld (off := 2) rfl (by kernel_rfl) rfl) ?_
    refine WL_val rfl rfl rfl (by first | exact rLd (v := .int .i64 _) rfl (by kernel_rfl) rfl (by first | exact hI.c0 rfl | exact hI.c1 rfl) | exact rLd rfl (by kernel_rfl) rfl (by first | exact hI.c0 rfl | exact hI.c1 rfl)) ?_
    refine WL_val rfl rfl rfl (by first | exact rFldN (off := 6) rfl (by kernel_rfl) rfl | exact rFld (off := 6) rfl (by kernel_rfl) rfl) ?_
    refine WL_val rfl rfl rfl (by first | exact rLd (v := .int .i64 _) rfl (by kernel_rfl) rfl (by first | exact hI.c0 rfl | exact hI.c1 rfl) | exact rLd rfl (by kernel_rfl) rfl (by first | exact hI.c0 rfl | exact hI.c1 rfl)) ?_
    refine WL_val rfl rfl rfl (rMax rfl rfl rfl) ?_
    refine WL_val rfl rfl rfl (rBuild (qs := [(0, .int .i64 _), (1, .int .i64 _), (2, .int .i64 _)]) (vs := [_, _, _]) [.int .i64 0, .int .i64 0, .int .i64 0] [0, 1, 2] rfl rfl rfl (fun _ => by kernel_rfl)) ?_
    refine WL_mapSetK (a := p5) (v := endsV (wcF l l.length p5) (min (lsF l l.length p5 k) p7) (max (grF l l.length p5 k) p6)) keyI 2 rfl hI rfl rfl rfl Tryd.underlying69 rfl rfl rfl trivial ?_
    clear hI; intro w hI
    simp only [List.set_cons_succ, List.set_cons_zero] at hI
    refine WL_nil ?_
    rw [hnew (fun v => by rw [hpb]; simp [k1, eq_comm]) trivial trivial hd] at hI
    replace hI := hI.d0.d0
    refine W_region ?_
    refine WL_val rfl rfl rfl (by first | exact rInc rfl rfl rfl (by omega) | exact rAdd rfl rfl rfl (by omega) | exact rAddW rfl rfl rfl) ?_
    refine WL_val rfl rfl rfl (by first | exact rMoveI rfl rfl | exact rMove rfl) ?_
    refine WL_nil ?_
    exact ⟨l.length - (k + 1), by omega, k + 1, rfl, by omega, hnext (fun _ => ⟨dom_iff.2 hd, hrw⟩), ⟨rfl, rfl, rfl, rfl, trivial⟩, hI⟩
  clear hI
  rintro ρ w ⟨hthin, hH, hI⟩
  obtain ⟨σ, rfl⟩ := hH.open
  refine W_seq ?_
  refine W_region ?_
  refine WL_val rfl rfl rfl (by first | exact rAsgnS rfl rfl | exact rAsgn rfl) ?_
  refine WL_nil ?_
  replace hI := hI.fresh (Pure.refl _) (Row.nil _ 0 54 4) (fun k hk => by cases hk)
  refine W_seq ?_
  refine W_seq ?_
  refine W_region ?_
  refine WL_val rfl rfl rfl (by first | exact rMoveM rfl rfl | exact rMove rfl) ?_
  refine WL_rangeK 1 rfl hI rfl rfl rfl rfl Tryd.underlying69 rfl ?_
  clear hI; intro br cnt w hI
  simp only [List.set_cons_succ, List.set_cons_zero] at hI
  refine WL_nil ?_
  refine W_block ?_
  refine W_loopN (fun mu ρ w => ∃ (left : Int → Prop) (cur : Option Int) (vs : List Int) (A1 : Option Addr) (nv c1 : Nat), vs.length = nv ∧ vs.Nodup ∧ (∀ v, v ∈ vs → ¬ left v) ∧ (∀ v, domZ l v ↔ left v ∨ v ∈ vs) ∧ nv ≤ c1 ∧ c1 ≤ 9223372036854775807 ∧ Has ρ [(87, .pointer (some ⟨br, 0, none⟩)), (12, .slice A1 nv c1), (5, .map (some b20))] ∧ Inv (fun _ => False) w0 w [Row 0 54 4 A1 nv c1 (znsR l vs), RngE okI kI b20 br (zvF l l.length l.length) left mu cur]) cnt
    ⟨_, _, [], none, 0, 0, rfl, List.nodup_nil, fun v hv => by simp at hv, fun v => ?_, by omega, by omega, ⟨rfl, rfl, rfl, trivial⟩, hI⟩ ?_
  · by_cases hd : v = 0 ∨ fdN (wrB l v) l.length ≠ none
    · rw [zvF_some hd]; simp [dom_iff.2 hd]
    · rw [zvF_none hd]
      exact ⟨fun h => absurd (dom_iff.1 h) hd, fun h => by rcases h with h | h <;> simp at h⟩
  clear hI
  rintro mu ρ w ⟨left, cur, vs, A1, nv, c1, hnv, hvn, hvl, hvd, hc3, hc4, hH, hI⟩
  obtain ⟨σ, rfl⟩ := hH.open
  have hvle := vals_le hvn (fun v hv => (hvd v).2 (.inr hv)) hok
  refine W_seq ?_
  refine W_region ?_
  refine WL_nextK 1 rfl hI rfl rfl rfl rfl rfl (fun hnone => ?_) ?_
  rotate_left
  · clear hI
    rintro a v w hla hga hmu hI
    simp only [List.set_cons_succ, List.set_cons_zero] at hI
    have hav : a ∉ vs := fun hm => hvl a hm hla
    have hv : v = endsV (wcF l l.length a) (LZ l a) (GZ l a) := by
      rw [zvF_some (dom_iff.1 ((hvd a).2 (.inl hla)))] at hga
      injection hga with hga
      exact hga.symm
    subst hv
    refine WL_val rfl rfl rfl (rExtr rfl rfl rfl) ?_
    refine WL_nil ?_
    refine W_seq ?_
    refine W_cond true rfl ?_
    refine W_skip ?_
    refine W_block ?_
    refine W_seq ?_
    refine W_region ?_
    refine WL_val rfl rfl rfl (rEntryK hga rfl rfl hI.g1) ?_
    refine WL_val rfl rfl rfl (rExtr rfl rfl rfl) ?_
    refine WL_val rfl rfl rfl (rExtr rfl rfl rfl) ?_
    refine WL_alloc (u := .agg #[.int .i64 0, .int .i64 0, .int .i64 0]) (vs := #[.int .i64 0, .int .i64 0, .int .i64 0]) hI rfl rfl rfl rfl (by kernel_rfl) rfl ?_
    clear hI; rintro b14 w - - hI
    refine WL_val rfl rfl rfl (by first | exact rAsgnI rfl rfl | exact rAsgn rfl) ?_
    first | refine WL_stw0 (u := .agg _) (vs := #[_, _, _]) (n := 3) hI rfl rfl rfl rfl rfl rfl (by kernel_rfl) rfl rfl rfl ?_ | refine WL_stw1 (u := .agg _) (vs := #[_, _, _]) (n := 3) hI rfl rfl rfl rfl rfl rfl (by kernel_rfl) rfl rfl rfl ?_ | refine WL_stw2 (u := .agg _) (vs := #[_, _, _]) (n := 3) hI rfl rfl rfl rfl rfl rfl (by kernel_rfl) rfl rfl rfl ?_ | refine WL_stw3 (u := .agg _) (vs := #[_, _, _]) (n := 3) hI rfl rfl rfl rfl rfl rfl (by kernel_rfl) rfl rfl rfl ?_ | refine WL_stw4 (u := .agg _) (vs := #[_, _, _]) (n := 3) hI rfl rfl rfl rfl rfl rfl (by kernel_rfl) rfl rfl rfl ?_ | refine WL_stw5 (u := .agg _) (vs := #[_, _, _]) (n := 3) hI rfl rfl rfl rfl rfl rfl (by kernel_rfl) rfl rfl rfl ?_
    clear hI; intro w hI
    refine WL_nil ?_
    have hzn : znV (znF l a) = [.int .i64 a, .int .i64 (min (LZ l a) (GZ l a)), .int .i64 (max (LZ l a) (GZ l a)), .bool (decide (LZ l a < GZ l a))] := rfl
    generalize LZ l a = La at hI hzn
    generalize GZ l a = Ga at hI hzn
    refine W_region ?_
    refine WL_val rfl rfl rfl (by first | exact rMoveS rfl rfl | exact rMove rfl) ?_
    refine WL_val rfl rfl rfl (by first | exact rMoveI rfl rfl | exact rMove rfl) ?_
    refine WL_val rfl rfl rfl (by first | exact rFldN (off := 1) rfl (by kernel_rfl) rfl | exact rFld (off := 1) rfl (by kernel_rfl) rfl) ?_
    refine WL_val rfl rfl rfl (by first | exact rLd (v := .int .i64 _) rfl (by kernel_rfl) rfl (by first | exact hI.c0 rfl | exact hI.c1 rfl) | exact rLd rfl (by kernel_rfl) rfl (by first | exact hI.c0 rfl | exact hI.c1 rfl)) ?_
    refine WL_val rfl rfl rfl (by first | exact rFldN (off := 2) rfl (by kernel_rfl) rfl | exact rFld (off := 2) rfl (by kernel_rfl) rfl) ?_
    refine WL_val rfl rfl rfl (by first | exact rLd (v := .int .i64 _) rfl (by kernel_rfl) rfl (by first | exact hI.c0 rfl | exact hI.c1 rfl) | exact rLd rfl (by kernel_rfl) rfl (by first | exact hI.c0 rfl | exact hI.c1 rfl)) ?_
    refine WL_val rfl rfl rfl (rMin rfl rfl rfl) ?_
    refine WL_val rfl rfl rfl (by first | exact rFldN (off := 1) rfl (by kernel_rfl) rfl | exact rFld (off := 1) rfl (by kernel_rfl) rfl) ?_
    refine WL_val rfl rfl rfl (by first | exact rLd (v := .int .i64 _) rfl (by kernel_rfl) rfl (by first | exact hI.c0 rfl | exact hI.c1 rfl) | exact rLd rfl (by kernel_rfl) rfl (by first | exact hI.c0 rfl | exact hI.c1 rfl)) ?_
    refine WL_val rfl rfl rfl (by first | exact rFldN (off := 2) rfl (by kernel_rfl) rfl | exact rFld (off := 2) rfl (by kernel_rfl) rfl) ?_
    refine WL_val rfl rfl rfl (by first | exact rLd (v := .int .i64 _) rfl (by kernel_rfl) rfl (by first | exact hI.c0 rfl | exact hI.c1 rfl) | exact rLd rfl (by kernel_rfl) rfl (by first | exact hI.c0 rfl | exact hI.c1 rfl)) ?_
    refine WL_val rfl rfl rfl (rMax rfl rfl rfl) ?_
    refine WL_val rfl rfl rfl (by first | exact rFldN (off := 1) rfl (by kernel_rfl) rfl | exact rFld (off := 1) rfl (by kernel_rfl) rfl) ?_
    refine WL_val rfl rfl rfl (by first | exact rLd (v := .int .i64 _) rfl (by kernel_rfl) rfl (by first | exact hI.c0 rfl | exact hI.c1 rfl) | exact rLd rfl (by kernel_rfl) rfl (by first | exact hI.c0 rfl | exact hI.c1 rfl)) ?_
    refine WL_val rfl rfl rfl (by first | exact rFldN (off := 2) rfl (by kernel_rfl) rfl | exact rFld (off := 2) rfl (by kernel_rfl) rfl) ?_
    refine WL_val rfl rfl rfl (by first | exact rLd (v := .int .i64 _) rfl (by kernel_rfl) rfl (by first | exact hI.c0 rfl | exact hI.c1 rfl) | exact rLd rfl (by kernel_rfl) rfl (by first | exact hI.c0 rfl | exact hI.c1 rfl)) ?_
    refine WL_val rfl rfl rfl (by first | exact rLssT rfl rfl rfl (by omega) | exact rLssF rfl rfl rfl (by omega) | exact rLss rfl rfl rfl) ?_
    refine WL_val rfl rfl rfl (rBuild (qs := [(0, .int .i64 _), (1, .int .i64 _), (2, .int .i64 _), (3, .bool _)]) (vs := [_, _, _, _]) [.int .i64 0, .int .i64 0, .int .i64 0, .bool false] [0, 1, 2, 3] rfl rfl rfl (fun _ => by kernel_rfl)) ?_
    refine WL_lit (vs := [_, _, _, _]) (qs := [(0, .agg #[_, _, _, _])]) [.int .i64 0, .int .i64 0, .int .i64 0, .bool false] [0] hI rfl rfl rfl rfl rfl rfl Tryd.underlying50 (fun _ => by kernel_rfl) ?_
    clear hI; rintro b111 w - - hI
    first | refine WL_app2 (z := .agg #[.int .i64 0, .int .i64 0, .int .i64 0, .bool false]) (by_ := 32) hI rfl rfl rfl rfl rfl rfl Tryd.underlying50 (by kernel_rfl) rfl (by omega) (by rfl) hI.lit0 (by first | rfl | simp [i64s, Value.oneCell']) (by omega) (by omega) (by first | exact Nat.zero_le _ | (have := hI.chg.size; omega)) ?_
    clear hI; rintro A112 c112 w hA112 hc112 hI
    replace hI := hI.d0
    refine WL_val rfl rfl rfl (by first | exact rAsgnS rfl rfl | exact rAsgn rfl) ?_
    refine WL_nil ?_
    refine ⟨mu - 1, by omega, fun k => left k ∧ k ≠ a, some a, vs ++ [a], _, nv + 1, _, by simp [hnv], ?_, fun v hv hl => ?_, fun v => ?_, by assumption, by assumption, ⟨rfl, rfl, rfl, trivial⟩, by rw [znsR_snoc, hzn]; exact hI.d0⟩
    · rw [List.nodup_append]
      exact ⟨hvn, by simp, fun x hx y hy e => by rw [List.mem_singleton.1 hy] at e; exact hav (e ▸ hx)⟩
    · rcases List.mem_append.1 hv with hv | hv
      · exact hvl v hv hl.1
      · exact hl.2 (List.mem_singleton.1 hv)
    · rw [hvd, List.mem_append, List.mem_singleton]
      by_cases hva : v = a
      · subst hva; simp [hla]
      · simp [hva]
  refine WL_val rfl rfl rfl (rExtr rfl rfl rfl) ?_
  refine WL_nil ?_
  refine W_seq ?_
  refine W_cond false rfl ?_
  refine W_exit ?_
  replace hI := hI.d1
  have hvs : ∀ v, v ∈ vs ↔ domZ l v := fun v => by rw [hvd]; exact ⟨.inr, fun hh => hh.elim (fun hl => absurd hl (hnone v)) id⟩
  have hpos : 0 < nv := by
    have : (0 : Int) ∈ vs := (hvs 0).2 (.inl rfl)
    have := List.length_pos_of_mem this
    omega
  obtain ⟨g, junk, rfl, hb⟩ := row_zon (L := vs.map (znF l)) hI.g0 hpos (by rw [List.length_map]; exact hnv)
  replace hI : Inv (fun _ => False) w0 w [B g 54 (zonC (vs.map (znF l)) junk)] := hI.upd 0 rfl (Chg.refl _ _) (B.ok hb) (fun k hk => .inl (by have e : k = g := hk; subst e; rfl))
  have hbd : ∀ z ∈ vs.map (znF l), -2 ≤ z.lo ∧ z.lo ≤ 1000000 := fun z hz => by
    obtain ⟨v, v1, rfl⟩ := List.mem_map.1 hz
    have := hok.range ((hvs v).1 v1)
    simp only [znF]
    omega
  have hln : (vs.map (znF l)).length = nv := by rw [List.length_map]; exact hnv
  refine W_seq ?_
  refine W_region ?_
  refine WL_val rfl rfl rfl (by first | exact rMoveS rfl rfl | exact rMove rfl) ?_
  refine WL_call rfl rfl rfl (rCall (vs := [.slice _ _ _, .func _ _ _]) rfl Tryd.func27 rfl rfl rfl) ?_
  refine (sort_any g nv c1 (vs.map (znF l)) junk _ _ hln hbd (by omega) (Inv.from (l := [B g 54 (zonC (vs.map (znF l)) junk)]) (H := []) hI)).mono ?_
  rintro e w2 ⟨rfl, L', q1, q2, q3⟩
  refine ⟨_, rfl, ?_⟩
  replace hI := Inv.turnL (l := [B g 54 (zonC (vs.map (znF l)) junk)]) (H := []) hI q3
  refine WL_nil ?_
  have hL : L'.length = nv := q1.length_eq.trans hln
  refine W_seq ?_
  refine W_region ?_
  refine WL_val rfl rfl rfl (by first | exact rMoveS rfl rfl | exact rMove rfl) ?_
  refine WL_val rfl rfl rfl (by first | exact rAsgnS rfl rfl | exact rAsgn rfl) ?_
  refine WL_val rfl rfl rfl (by first | exact rAsgnN rfl rfl | exact rAsgnE rfl rfl | exact rAsgn rfl) ?_
  refine WL_nil ?_
  refine W_ret ?_
  refine ret2 2 3 (.inr rfl) rfl (.inr (.inr ⟨hok, hthin, g, c1, L', vs, junk, hvn, hvs, q1, q2, by omega, ?_, hI⟩))
  rw [hL]
  rfl
end Go.Proofs.YtijgkocolajghaaDoor

/-! Zon6: zone: clash, Fits. -/
namespace Go.Proofs.YtijgkocolajghaaDoor
open Go.RowKit
set_option linter.unusedVariables false
set_option linter.unusedSimpArgs false
theorem ret4z {P : Program} {ρ : Env} {w : World} {fn : Func} {R : Ending → World → Prop} {e : Exit} (s t u v : Tmp) (he : e = .normal ∨ e = .ret) (hr : fn.results = #[.tmp s, .tmp t, .tmp u, .tmp v]) (h : R (.returned (.tuple #[ρ s, ρ t, ρ u, ρ v])) w) : retQ P fn R e ρ w := by
  refine retQ_intro he fun a ha => ⟨_, ?_, h⟩
  have h1 := ha.get t; have h2 := ha.get s; have h3 := ha.get u; have h4 := ha.get v
  simp only [Array.getD_eq_getD_getElem?] at h1 h2 h3 h4
  simp [results, hr, h1, h2, h3, h4]
theorem clash_any (a b : Zn) (beh : Bool) (w0 : World) : Calls Tryd.prog 20 #[.agg (znV a).toArray, .agg (znV b).toArray, .bool beh] w0 fun e w' => e = .returned (.bool (clF a b beh)) ∧ Pure w0 w' := by
  obtain ⟨r, hr⟩ : ∃ r, clF a b beh = r := ⟨_, rfl⟩
  rw [hr]
  obtain ⟨x0, x1, x2, x3⟩ := a
  obtain ⟨y0, y1, y2, y3⟩ := b
  simp only [znV]
  unfold clF at hr
  simp only at hr
  have hI := Inv.start (fun _ => False) w0
  refine calls_of_W (N := Tryd.f20.ntmps) Tryd.func20 rfl rfl rfl ?_
  refine W_seq ?_
  refine W_region ?_
  refine WL_box (u := .agg _) (vs := #[_, _, _, _]) hI rfl rfl rfl rfl rfl rfl ?_
  clear hI; rintro b3 w - - hI
  refine WL_box (u := .agg _) (vs := #[_, _, _, _]) hI rfl rfl rfl rfl rfl rfl ?_
  clear hI; rintro b4 w - - hI
  refine WL_val rfl rfl rfl (by first | exact rAsgnB rfl rfl | exact rAsgn rfl) ?_
  refine WL_nil ?_
  cases y3 with
  | true =>
    rw [if_pos rfl] at hr
    refine W_seq ?_
    refine W_seq ?_
    refine W_region ?_
    refine WL_val rfl rfl rfl (by first | exact rFldN (off := 3) rfl (by kernel_rfl) rfl | exact rFld (off := 3) rfl (by kernel_rfl) rfl) ?_
    refine WL_val rfl rfl rfl (by first | exact rLd (v := .bool _) rfl (by kernel_rfl) rfl (by first | exact hI.c0 rfl | exact hI.c1 rfl | exact hI.c2 rfl | exact hI.c3 rfl | exact hI.c4 rfl | exact hI.c5 rfl) | exact rLd rfl (by kernel_rfl) rfl (by first | exact hI.c0 rfl | exact hI.c1 rfl | exact hI.c2 rfl | exact hI.c3 rfl | exact hI.c4 rfl | exact hI.c5 rfl)) ?_
    refine WL_nil ?_
    refine W_cond true rfl ?_
    cases beh with
    | true =>
      by_cases hlt : y1 < x2
      · rw [decide_eq_true hlt] at hr
        subst hr
        refine W_seq ?_
        refine W_region ?_
        refine WL_val rfl rfl rfl (by first | exact rMoveB rfl rfl | exact rMove rfl) ?_
        refine WL_val rfl rfl rfl (by first | exact rMoveB rfl rfl | exact rMove rfl) ?_
        first | refine WL_val rfl rfl rfl (by first | exact rFldN (off := 1) rfl (by kernel_rfl) rfl | exact rFld (off := 1) rfl (by kernel_rfl) rfl) ?_ | refine WL_skip rfl rfl rfl ?_
        first | refine WL_val rfl rfl rfl (by first | exact rLd (v := .int .i64 _) rfl (by kernel_rfl) rfl (by first | exact hI.c0 rfl | exact hI.c1 rfl | exact hI.c2 rfl | exact hI.c3 rfl | exact hI.c4 rfl | exact hI.c5 rfl) | exact rLd rfl (by kernel_rfl) rfl (by first | exact hI.c0 rfl | exact hI.c1 rfl | exact hI.c2 rfl | exact hI.c3 rfl | exact hI.c4 rfl | exact hI.c5 rfl)) ?_ | refine WL_skip rfl rfl rfl ?_
        first | refine WL_val rfl rfl rfl (by first | exact rFldN (off := 2) rfl (by kernel_rfl) rfl | exact rFld (off := 2) rfl (by kernel_rfl) rfl) ?_ | refine WL_skip rfl rfl rfl ?_
        first | refine WL_val rfl rfl rfl (by first | exact rLd (v := .int .i64 _) rfl (by kernel_rfl) rfl (by first | exact hI.c0 rfl | exact hI.c1 rfl | exact hI.c2 rfl | exact hI.c3 rfl | exact hI.c4 rfl | exact hI.c5 rfl) | exact rLd rfl (by kernel_rfl) rfl (by first | exact hI.c0 rfl | exact hI.c1 rfl | exact hI.c2 rfl | exact hI.c3 rfl | exact hI.c4 rfl | exact hI.c5 rfl)) ?_ | refine WL_skip rfl rfl rfl ?_
        first | refine WL_val rfl rfl rfl (by first | exact rLssT rfl rfl rfl (by omega) | exact rLssF rfl rfl rfl (by omega) | exact rLss rfl rfl rfl) ?_ | refine WL_skip rfl rfl rfl ?_
        refine WL_val rfl rfl rfl (by first | exact rPickTB rfl rfl rfl | exact rPickFB rfl rfl rfl | exact rPickB rfl rfl rfl rfl) ?_
        refine WL_val rfl rfl rfl (by first | exact rAsgnB rfl rfl | exact rAsgn rfl) ?_
        refine WL_nil ?_
        refine W_ret ?_
        exact ret1 6 (.inr rfl) rfl ⟨rfl, hI.pu⟩
      · rw [decide_eq_false hlt] at hr
        subst hr
        refine W_seq ?_
        refine W_region ?_
        refine WL_val rfl rfl rfl (by first | exact rMoveB rfl rfl | exact rMove rfl) ?_
        refine WL_val rfl rfl rfl (by first | exact rMoveB rfl rfl | exact rMove rfl) ?_
        first | refine WL_val rfl rfl rfl (by first | exact rFldN (off := 1) rfl (by kernel_rfl) rfl | exact rFld (off := 1) rfl (by kernel_rfl) rfl) ?_ | refine WL_skip rfl rfl rfl ?_
        first | refine WL_val rfl rfl rfl (by first | exact rLd (v := .int .i64 _) rfl (by kernel_rfl) rfl (by first | exact hI.c0 rfl | exact hI.c1 rfl | exact hI.c2 rfl | exact hI.c3 rfl | exact hI.c4 rfl | exact hI.c5 rfl) | exact rLd rfl (by kernel_rfl) rfl (by first | exact hI.c0 rfl | exact hI.c1 rfl | exact hI.c2 rfl | exact hI.c3 rfl | exact hI.c4 rfl | exact hI.c5 rfl)) ?_ | refine WL_skip rfl rfl rfl ?_
        first | refine WL_val rfl rfl rfl (by first | exact rFldN (off := 2) rfl (by kernel_rfl) rfl | exact rFld (off := 2) rfl (by kernel_rfl) rfl) ?_ | refine WL_skip rfl rfl rfl ?_
        first | refine WL_val rfl rfl rfl (by first | exact rLd (v := .int .i64 _) rfl (by kernel_rfl) rfl (by first | exact hI.c0 rfl | exact hI.c1 rfl | exact hI.c2 rfl | exact hI.c3 rfl | exact hI.c4 rfl | exact hI.c5 rfl) | exact rLd rfl (by kernel_rfl) rfl (by first | exact hI.c0 rfl | exact hI.c1 rfl | exact hI.c2 rfl | exact hI.c3 rfl | exact hI.c4 rfl | exact hI.c5 rfl)) ?_ | refine WL_skip rfl rfl rfl ?_
        first | refine WL_val rfl rfl rfl (by first | exact rLssT rfl rfl rfl (by omega) | exact rLssF rfl rfl rfl (by omega) | exact rLss rfl rfl rfl) ?_ | refine WL_skip rfl rfl rfl ?_
        refine WL_val rfl rfl rfl (by first | exact rPickTB rfl rfl rfl | exact rPickFB rfl rfl rfl | exact rPickB rfl rfl rfl rfl) ?_
        refine WL_val rfl rfl rfl (by first | exact rAsgnB rfl rfl | exact rAsgn rfl) ?_
        refine WL_nil ?_
        refine W_ret ?_
        exact ret1 6 (.inr rfl) rfl ⟨rfl, hI.pu⟩
    | false =>
      subst hr
      refine W_seq ?_
      refine W_region ?_
      refine WL_val rfl rfl rfl (by first | exact rMoveB rfl rfl | exact rMove rfl) ?_
      refine WL_val rfl rfl rfl (by first | exact rMoveB rfl rfl | exact rMove rfl) ?_
      refine WL_skip rfl rfl rfl ?_
      refine WL_skip rfl rfl rfl ?_
      refine WL_skip rfl rfl rfl ?_
      refine WL_skip rfl rfl rfl ?_
      refine WL_skip rfl rfl rfl ?_
      refine WL_val rfl rfl rfl (by first | exact rPickTB rfl rfl rfl | exact rPickFB rfl rfl rfl | exact rPickB rfl rfl rfl rfl) ?_
      refine WL_val rfl rfl rfl (by first | exact rAsgnB rfl rfl | exact rAsgn rfl) ?_
      refine WL_nil ?_
      refine W_ret ?_
      exact ret1 6 (.inr rfl) rfl ⟨rfl, hI.pu⟩
  | false =>
    rw [if_neg (by simp)] at hr
    refine W_seq ?_
    refine W_seq ?_
    refine W_region ?_
    refine WL_val rfl rfl rfl (by first | exact rFldN (off := 3) rfl (by kernel_rfl) rfl | exact rFld (off := 3) rfl (by kernel_rfl) rfl) ?_
    refine WL_val rfl rfl rfl (by first | exact rLd (v := .bool _) rfl (by kernel_rfl) rfl (by first | exact hI.c0 rfl | exact hI.c1 rfl | exact hI.c2 rfl | exact hI.c3 rfl | exact hI.c4 rfl | exact hI.c5 rfl) | exact rLd rfl (by kernel_rfl) rfl (by first | exact hI.c0 rfl | exact hI.c1 rfl | exact hI.c2 rfl | exact hI.c3 rfl | exact hI.c4 rfl | exact hI.c5 rfl)) ?_
    refine WL_nil ?_
    refine W_cond false rfl ?_
    refine W_skip ?_
    by_cases h1 : y1 > x1
    · rw [decide_eq_true h1, Bool.true_and] at hr
      by_cases h2 : y2 < x2
      · rw [decide_eq_true h2] at hr
        subst hr
        refine W_seq ?_
        refine W_region ?_
        refine WL_val rfl rfl rfl (by first | exact rFldN (off := 1) rfl (by kernel_rfl) rfl | exact rFld (off := 1) rfl (by kernel_rfl) rfl) ?_
        refine WL_val rfl rfl rfl (by first | exact rLd (v := .int .i64 _) rfl (by kernel_rfl) rfl (by first | exact hI.c0 rfl | exact hI.c1 rfl | exact hI.c2 rfl | exact hI.c3 rfl | exact hI.c4 rfl | exact hI.c5 rfl) | exact rLd rfl (by kernel_rfl) rfl (by first | exact hI.c0 rfl | exact hI.c1 rfl | exact hI.c2 rfl | exact hI.c3 rfl | exact hI.c4 rfl | exact hI.c5 rfl)) ?_
        refine WL_val rfl rfl rfl (by first | exact rFldN (off := 1) rfl (by kernel_rfl) rfl | exact rFld (off := 1) rfl (by kernel_rfl) rfl) ?_
        refine WL_val rfl rfl rfl (by first | exact rLd (v := .int .i64 _) rfl (by kernel_rfl) rfl (by first | exact hI.c0 rfl | exact hI.c1 rfl | exact hI.c2 rfl | exact hI.c3 rfl | exact hI.c4 rfl | exact hI.c5 rfl) | exact rLd rfl (by kernel_rfl) rfl (by first | exact hI.c0 rfl | exact hI.c1 rfl | exact hI.c2 rfl | exact hI.c3 rfl | exact hI.c4 rfl | exact hI.c5 rfl)) ?_
        refine WL_val rfl rfl rfl (by first | exact rGtrT rfl rfl rfl (by omega) | exact rGtrF rfl rfl rfl (by omega) | exact rGtr rfl rfl rfl) ?_
        refine WL_val rfl rfl rfl (by first | exact rMoveB rfl rfl | exact rMove rfl) ?_
        first | refine WL_val rfl rfl rfl (by first | exact rFldN (off := 2) rfl (by kernel_rfl) rfl | exact rFld (off := 2) rfl (by kernel_rfl) rfl) ?_ | refine WL_skip rfl rfl rfl ?_
        first | refine WL_val rfl rfl rfl (by first | exact rLd (v := .int .i64 _) rfl (by kernel_rfl) rfl (by first | exact hI.c0 rfl | exact hI.c1 rfl | exact hI.c2 rfl | exact hI.c3 rfl | exact hI.c4 rfl | exact hI.c5 rfl) | exact rLd rfl (by kernel_rfl) rfl (by first | exact hI.c0 rfl | exact hI.c1 rfl | exact hI.c2 rfl | exact hI.c3 rfl | exact hI.c4 rfl | exact hI.c5 rfl)) ?_ | refine WL_skip rfl rfl rfl ?_
        first | refine WL_val rfl rfl rfl (by first | exact rFldN (off := 2) rfl (by kernel_rfl) rfl | exact rFld (off := 2) rfl (by kernel_rfl) rfl) ?_ | refine WL_skip rfl rfl rfl ?_
        first | refine WL_val rfl rfl rfl (by first | exact rLd (v := .int .i64 _) rfl (by kernel_rfl) rfl (by first | exact hI.c0 rfl | exact hI.c1 rfl | exact hI.c2 rfl | exact hI.c3 rfl | exact hI.c4 rfl | exact hI.c5 rfl) | exact rLd rfl (by kernel_rfl) rfl (by first | exact hI.c0 rfl | exact hI.c1 rfl | exact hI.c2 rfl | exact hI.c3 rfl | exact hI.c4 rfl | exact hI.c5 rfl)) ?_ | refine WL_skip rfl rfl rfl ?_
        first | refine WL_val rfl rfl rfl (by first | exact rLssT rfl rfl rfl (by omega) | exact rLssF rfl rfl rfl (by omega) | exact rLss rfl rfl rfl) ?_ | refine WL_skip rfl rfl rfl ?_
        refine WL_val rfl rfl rfl (by first | exact rPickTB rfl rfl rfl | exact rPickFB rfl rfl rfl | exact rPickB rfl rfl rfl rfl) ?_
        refine WL_val rfl rfl rfl (by first | exact rAsgnB rfl rfl | exact rAsgn rfl) ?_
        refine WL_nil ?_
        refine W_ret ?_
        exact ret1 6 (.inr rfl) rfl ⟨rfl, hI.pu⟩
      · rw [decide_eq_false h2] at hr
        subst hr
        refine W_seq ?_
        refine W_region ?_
        refine WL_val rfl rfl rfl (by first | exact rFldN (off := 1) rfl (by kernel_rfl) rfl | exact rFld (off := 1) rfl (by kernel_rfl) rfl) ?_
        refine WL_val rfl rfl rfl (by first | exact rLd (v := .int .i64 _) rfl (by kernel_rfl) rfl (by first | exact hI.c0 rfl | exact hI.c1 rfl | exact hI.c2 rfl | exact hI.c3 rfl | exact hI.c4 rfl | exact hI.c5 rfl) | exact rLd rfl (by kernel_rfl) rfl (by first | exact hI.c0 rfl | exact hI.c1 rfl | exact hI.c2 rfl | exact hI.c3 rfl | exact hI.c4 rfl | exact hI.c5 rfl)) ?_
        refine WL_val rfl rfl rfl (by first | exact rFldN (off := 1) rfl (by kernel_rfl) rfl | exact rFld (off := 1) rfl (by kernel_rfl) rfl) ?_
        refine WL_val rfl rfl rfl (by first | exact rLd (v := .int .i64 _) rfl (by kernel_rfl) rfl (by first | exact hI.c0 rfl | exact hI.c1 rfl | exact hI.c2 rfl | exact hI.c3 rfl | exact hI.c4 rfl | exact hI.c5 rfl) | exact rLd rfl (by kernel_rfl) rfl (by first | exact hI.c0 rfl | exact hI.c1 rfl | exact hI.c2 rfl | exact hI.c3 rfl | exact hI.c4 rfl | exact hI.c5 rfl)) ?_
        refine WL_val rfl rfl rfl (by first | exact rGtrT rfl rfl rfl (by omega) | exact rGtrF rfl rfl rfl (by omega) | exact rGtr rfl rfl rfl) ?_
        refine WL_val rfl rfl rfl (by first | exact rMoveB rfl rfl | exact rMove rfl) ?_
        first | refine WL_val rfl rfl rfl (by first | exact rFldN (off := 2) rfl (by kernel_rfl) rfl | exact rFld (off := 2) rfl (by kernel_rfl) rfl) ?_ | refine WL_skip rfl rfl rfl ?_
        first | refine WL_val rfl rfl rfl (by first | exact rLd (v := .int .i64 _) rfl (by kernel_rfl) rfl (by first | exact hI.c0 rfl | exact hI.c1 rfl | exact hI.c2 rfl | exact hI.c3 rfl | exact hI.c4 rfl | exact hI.c5 rfl) | exact rLd rfl (by kernel_rfl) rfl (by first | exact hI.c0 rfl | exact hI.c1 rfl | exact hI.c2 rfl | exact hI.c3 rfl | exact hI.c4 rfl | exact hI.c5 rfl)) ?_ | refine WL_skip rfl rfl rfl ?_
        first | refine WL_val rfl rfl rfl (by first | exact rFldN (off := 2) rfl (by kernel_rfl) rfl | exact rFld (off := 2) rfl (by kernel_rfl) rfl) ?_ | refine WL_skip rfl rfl rfl ?_
        first | refine WL_val rfl rfl rfl (by first | exact rLd (v := .int .i64 _) rfl (by kernel_rfl) rfl (by first | exact hI.c0 rfl | exact hI.c1 rfl | exact hI.c2 rfl | exact hI.c3 rfl | exact hI.c4 rfl | exact hI.c5 rfl) | exact rLd rfl (by kernel_rfl) rfl (by first | exact hI.c0 rfl | exact hI.c1 rfl | exact hI.c2 rfl | exact hI.c3 rfl | exact hI.c4 rfl | exact hI.c5 rfl)) ?_ | refine WL_skip rfl rfl rfl ?_
        first | refine WL_val rfl rfl rfl (by first | exact rLssT rfl rfl rfl (by omega) | exact rLssF rfl rfl rfl (by omega) | exact rLss rfl rfl rfl) ?_ | refine WL_skip rfl rfl rfl ?_
        refine WL_val rfl rfl rfl (by first | exact rPickTB rfl rfl rfl | exact rPickFB rfl rfl rfl | exact rPickB rfl rfl rfl rfl) ?_
        refine WL_val rfl rfl rfl (by first | exact rAsgnB rfl rfl | exact rAsgn rfl) ?_
        refine WL_nil ?_
        refine W_ret ?_
        exact ret1 6 (.inr rfl) rfl ⟨rfl, hI.pu⟩
    · rw [decide_eq_false h1, Bool.false_and] at hr
      subst hr
      refine W_seq ?_
      refine W_region ?_
      refine WL_val rfl rfl rfl (by first | exact rFldN (off := 1) rfl (by kernel_rfl) rfl | exact rFld (off := 1) rfl (by kernel_rfl) rfl) ?_
      refine WL_val rfl rfl rfl (by first | exact rLd (v := .int .i64 _) rfl (by kernel_rfl) rfl (by first | exact hI.c0 rfl | exact hI.c1 rfl | exact hI.c2 rfl | exact hI.c3 rfl | exact hI.c4 rfl | exact hI.c5 rfl) | exact rLd rfl (by kernel_rfl) rfl (by first | exact hI.c0 rfl | exact hI.c1 rfl | exact hI.c2 rfl | exact hI.c3 rfl | exact hI.c4 rfl | exact hI.c5 rfl)) ?_
      refine WL_val rfl rfl rfl (by first | exact rFldN (off := 1) rfl (by kernel_rfl) rfl | exact rFld (off := 1) rfl (by kernel_rfl) rfl) ?_
      refine WL_val rfl rfl rfl (by first | exact rLd (v := .int .i64 _) rfl (by kernel_rfl) rfl (by first | exact hI.c0 rfl | exact hI.c1 rfl | exact hI.c2 rfl | exact hI.c3 rfl | exact hI.c4 rfl | exact hI.c5 rfl) | exact rLd rfl (by kernel_rfl) rfl (by first | exact hI.c0 rfl | exact hI.c1 rfl | exact hI.c2 rfl | exact hI.c3 rfl | exact hI.c4 rfl | exact hI.c5 rfl)) ?_
      refine WL_val rfl rfl rfl (by first | exact rGtrT rfl rfl rfl (by omega) | exact rGtrF rfl rfl rfl (by omega) | exact rGtr rfl rfl rfl) ?_
      refine WL_val rfl rfl rfl (by first | exact rMoveB rfl rfl | exact rMove rfl) ?_
      refine WL_skip rfl rfl rfl ?_
      refine WL_skip rfl rfl rfl ?_
      refine WL_skip rfl rfl rfl ?_
      refine WL_skip rfl rfl rfl ?_
      refine WL_skip rfl rfl rfl ?_
      refine WL_val rfl rfl rfl (by first | exact rPickTB rfl rfl rfl | exact rPickFB rfl rfl rfl | exact rPickB rfl rfl rfl rfl) ?_
      refine WL_val rfl rfl rfl (by first | exact rAsgnB rfl rfl | exact rAsgn rfl) ?_
      refine WL_nil ?_
      refine W_ret ?_
      exact ret1 6 (.inr rfl) rfl ⟨rfl, hI.pu⟩
def FtPost (l : List Op8) (w0 : World) (en : Ending) (w' : World) : Prop := Pure w0 w' ∧ (
  (¬ OkZ l ∧ ∃ z : Int, z ≠ 8 ∧ en = .returned (.tuple #[.bool false, .int .i64 0, .int .i64 0, .iface 36 (.int .i64 z)])) ∨
  (OkZ l ∧ ThinZ l ∧ en = .returned (.tuple #[.bool false, .int .i64 0, .int .i64 0, .iface 36 (.int .i64 8)])) ∨
  (OkZ l ∧ ∃ (ok : Bool) (a b : Int), (ok = true ↔ FineZ l) ∧ en = .returned (.tuple #[.bool ok, .int .i64 a, .int .i64 b, .nilIface])))
def clAt (L : List Zn) (i k : Nat) : Prop := i ≠ k ∧ (zAt L i).fw = true ∧ clF (zAt L i) (zAt L k) (decide (i < k)) = true
set_option maxHeartbeats 8000000 in
theorem fits_any (A : Option Addr) (n c : Nat) (l : List Op8) (D : Nat → Prop) (w0 : World) (h : OpsR w0 D (.slice A n c) l) (h8 : l.length ≤ 8) : Calls Tryd.prog 8 #[.slice A n c] w0 (FtPost l w0) := by
  have hI := Inv.start (fun _ => False) w0
  refine calls_of_W (N := Tryd.f8.ntmps) Tryd.func8 rfl rfl rfl ?_
  refine W_seq ?_
  refine W_region ?_
  refine WL_val rfl rfl rfl (by first | exact rAsgnB rfl rfl | exact rAsgn rfl) ?_
  refine WL_val rfl rfl rfl (by first | exact rAsgnI rfl rfl | exact rAsgn rfl) ?_
  refine WL_val rfl rfl rfl (by first | exact rAsgnI rfl rfl | exact rAsgn rfl) ?_
  refine WL_val rfl rfl rfl (by first | exact rAsgnN rfl rfl | exact rAsgnE rfl rfl | exact rAsgn rfl) ?_
  refine WL_nil ?_
  by_cases hok : OkZ l
  rotate_left
  · refine W_seq ?_
    refine W_region ?_
    refine WL_val rfl rfl rfl (by first | exact rMoveS rfl rfl | exact rMove rfl) ?_
    refine WL_call rfl rfl rfl (rCall (vs := [.slice _ _ _]) rfl Tryd.func19 rfl rfl rfl) ?_
    refine (zones_any A n c l D _ (h.pure hI.pu) h8).mono ?_
    rintro e w1 (⟨_, hp, z, hz8, rfl⟩ | ⟨h1, _⟩ | ⟨h1, _⟩)
    rotate_left
    · exact absurd h1 hok
    · exact absurd h1 hok
    refine ⟨_, rfl, ?_⟩
    replace hI := hI.pure hp
    refine WL_val rfl rfl rfl (by first | exact rMoveT rfl rfl | exact rMove rfl) ?_
    refine WL_val rfl rfl rfl (rExtr rfl rfl rfl) ?_
    refine WL_val rfl rfl rfl (rExtr rfl rfl rfl) ?_
    refine WL_val rfl rfl rfl (by first | exact rAsgnS rfl rfl | exact rAsgn rfl) ?_
    refine WL_val rfl rfl rfl (by first | exact rAsgnN rfl rfl | exact rAsgnE rfl rfl | exact rAsgn rfl) ?_
    refine WL_nil ?_
    refine W_seq ?_
    refine W_seq ?_
    refine W_region ?_
    refine WL_val rfl rfl rfl (by first | exact rMoveN rfl rfl | exact rMoveE rfl rfl | exact rMove rfl) ?_
    refine WL_val rfl rfl rfl (by first | exact rIfaceNe rfl Tryd.underlying24 rfl rfl | exact rNilNe rfl Tryd.underlying24 rfl) ?_
    refine WL_nil ?_
    refine W_cond true rfl ?_
    refine W_seq ?_
    refine W_region ?_
    refine WL_val rfl rfl rfl (by first | exact rMoveN rfl rfl | exact rMoveE rfl rfl | exact rMove rfl) ?_
    refine WL_val rfl rfl rfl (by first | exact rAsgnB rfl rfl | exact rAsgn rfl) ?_
    refine WL_val rfl rfl rfl (by first | exact rAsgnI rfl rfl | exact rAsgn rfl) ?_
    refine WL_val rfl rfl rfl (by first | exact rAsgnI rfl rfl | exact rAsgn rfl) ?_
    refine WL_val rfl rfl rfl (by first | exact rAsgnN rfl rfl | exact rAsgnE rfl rfl | exact rAsgn rfl) ?_
    refine WL_nil ?_
    refine W_ret ?_
    exact ret4z 2 3 4 5 (.inr rfl) rfl ⟨hI.pu, .inl ⟨hok, z, hz8, rfl⟩⟩
  by_cases hthin : ThinZ l
  · refine W_seq ?_
    refine W_region ?_
    refine WL_val rfl rfl rfl (by first | exact rMoveS rfl rfl | exact rMove rfl) ?_
    refine WL_call rfl rfl rfl (rCall (vs := [.slice _ _ _]) rfl Tryd.func19 rfl rfl rfl) ?_
    refine (zones_any A n c l D _ (h.pure hI.pu) h8).mono ?_
    rintro e w1 (⟨h1, _⟩ | ⟨_, _, hp, rfl⟩ | ⟨_, h1, _⟩)
    · exact absurd hok h1
    rotate_left
    · exact absurd hthin h1
    refine ⟨_, rfl, ?_⟩
    replace hI := hI.pure hp
    refine WL_val rfl rfl rfl (by first | exact rMoveT rfl rfl | exact rMove rfl) ?_
    refine WL_val rfl rfl rfl (rExtr rfl rfl rfl) ?_
    refine WL_val rfl rfl rfl (rExtr rfl rfl rfl) ?_
    refine WL_val rfl rfl rfl (by first | exact rAsgnS rfl rfl | exact rAsgn rfl) ?_
    refine WL_val rfl rfl rfl (by first | exact rAsgnN rfl rfl | exact rAsgnE rfl rfl | exact rAsgn rfl) ?_
    refine WL_nil ?_
    refine W_seq ?_
    refine W_seq ?_
    refine W_region ?_
    refine WL_val rfl rfl rfl (by first | exact rMoveN rfl rfl | exact rMoveE rfl rfl | exact rMove rfl) ?_
    refine WL_val rfl rfl rfl (by first | exact rIfaceNe rfl Tryd.underlying24 rfl rfl | exact rNilNe rfl Tryd.underlying24 rfl) ?_
    refine WL_nil ?_
    refine W_cond true rfl ?_
    refine W_seq ?_
    refine W_region ?_
    refine WL_val rfl rfl rfl (by first | exact rMoveN rfl rfl | exact rMoveE rfl rfl | exact rMove rfl) ?_
    refine WL_val rfl rfl rfl (by first | exact rAsgnB rfl rfl | exact rAsgn rfl) ?_
    refine WL_val rfl rfl rfl (by first | exact rAsgnI rfl rfl | exact rAsgn rfl) ?_
    refine WL_val rfl rfl rfl (by first | exact rAsgnI rfl rfl | exact rAsgn rfl) ?_
    refine WL_val rfl rfl rfl (by first | exact rAsgnN rfl rfl | exact rAsgnE rfl rfl | exact rAsgn rfl) ?_
    refine WL_nil ?_
    refine W_ret ?_
    exact ret4z 2 3 4 5 (.inr rfl) rfl ⟨hI.pu, .inr (.inl ⟨hok, hthin, rfl⟩)⟩
  refine W_seq ?_
  refine W_region ?_
  refine WL_val rfl rfl rfl (by first | exact rMoveS rfl rfl | exact rMove rfl) ?_
  refine WL_call rfl rfl rfl (rCall (vs := [.slice _ _ _]) rfl Tryd.func19 rfl rfl rfl) ?_
  refine (zones_any A n c l D _ (h.pure hI.pu) h8).mono ?_
  rintro e w1 (⟨h1, _⟩ | ⟨_, h1, _⟩ | ⟨_, _, g, cz, L, vs, junk, hvn, hvs, hp, hso, h12, rfl, hJ⟩)
  · exact absurd hok h1
  · exact absurd h1 hthin
  refine ⟨_, rfl, ?_⟩
  replace hI := hI.app1 hJ
  refine WL_val rfl rfl rfl (by first | exact rMoveT rfl rfl | exact rMove rfl) ?_
  refine WL_val rfl rfl rfl (rExtr rfl rfl rfl) ?_
  refine WL_val rfl rfl rfl (rExtr rfl rfl rfl) ?_
  refine WL_val rfl rfl rfl (by first | exact rAsgnS rfl rfl | exact rAsgn rfl) ?_
  refine WL_val rfl rfl rfl (by first | exact rAsgnN rfl rfl | exact rAsgnE rfl rfl | exact rAsgn rfl) ?_
  refine WL_nil ?_
  have hfine := fine_iff hok hthin hvs hvn hp hso
  refine W_seq ?_
  refine W_seq ?_
  refine W_region ?_
  refine WL_val rfl rfl rfl (by first | exact rMoveN rfl rfl | exact rMoveE rfl rfl | exact rMove rfl) ?_
  refine WL_val rfl rfl rfl (by first | exact rIfaceNe rfl Tryd.underlying24 rfl rfl | exact rNilNe rfl Tryd.underlying24 rfl) ?_
  refine WL_nil ?_
  refine W_cond false rfl ?_
  refine W_skip ?_
  refine W_seq ?_
  refine W_seq ?_
  refine W_region ?_
  refine WL_val rfl rfl rfl (by first | exact rMoveS rfl rfl | exact rMove rfl) ?_
  refine WL_val rfl rfl rfl (rLen rfl Tryd.underlying50 rfl) ?_
  refine WL_val rfl rfl rfl (by first | exact rMoveI rfl rfl | exact rMove rfl) ?_
  refine WL_nil ?_
  refine W_block ?_
  refine W_loopN (fun mu ρ w => ∃ i : Nat, mu = L.length - i ∧ i ≤ L.length ∧ (∀ i', i' < i → ∀ k, k < L.length → ¬ clAt L i' k) ∧ Has ρ [(21, .int .i64 (i : Int)), (20, .int .i64 (L.length : Int)), (19, .slice (some ⟨g, 0, none⟩) L.length cz), (6, .slice (some ⟨g, 0, none⟩) L.length cz)] ∧ Inv (fun _ => False) w0 w [B g 54 (zonC L junk)]) L.length
    ⟨0, rfl, by omega, fun i' hi => by omega, ⟨rfl, rfl, rfl, rfl, trivial⟩, hI⟩ ?_
  clear hI
  rintro mu ρ w ⟨i, rfl, hi, hall, hH, hI⟩
  obtain ⟨σ, rfl⟩ := hH.open
  by_cases hil : i < L.length
  rotate_left
  · obtain rfl : i = L.length := by omega
    refine W_seq ?_
    refine W_region ?_
    refine WL_val rfl rfl rfl (by first | exact rLssT rfl rfl rfl (by omega) | exact rLssF rfl rfl rfl (by omega) | exact rLss rfl rfl rfl) ?_
    refine WL_nil ?_
    refine W_seq ?_
    refine W_cond false rfl ?_
    refine W_exit ?_
    refine W_seq ?_
    refine W_region ?_
    refine WL_val rfl rfl rfl (by first | exact rAsgnB rfl rfl | exact rAsgn rfl) ?_
    refine WL_val rfl rfl rfl (by first | exact rAsgnI rfl rfl | exact rAsgn rfl) ?_
    refine WL_val rfl rfl rfl (by first | exact rAsgnI rfl rfl | exact rAsgn rfl) ?_
    refine WL_val rfl rfl rfl (by first | exact rAsgnN rfl rfl | exact rAsgnE rfl rfl | exact rAsgn rfl) ?_
    refine WL_nil ?_
    refine W_ret ?_
    exact ret4z 2 3 4 5 (.inr rfl) rfl ⟨hI.pu, .inr (.inr ⟨hok, true, _, _, ⟨fun _ => hfine.2 (fun ⟨i', k, q1, q2, q3⟩ => hall i' q1 k q2 q3), fun _ => rfl⟩, rfl⟩)⟩
  refine W_seq ?_
  refine W_region ?_
  refine WL_val rfl rfl rfl (by first | exact rLssT rfl rfl rfl (by omega) | exact rLssF rfl rfl rfl (by omega) | exact rLss rfl rfl rfl) ?_
  refine WL_nil ?_
  refine W_seq ?_
  refine W_cond true rfl ?_
  refine W_skip ?_
  refine W_seq ?_
  refine W_block ?_
  have hskip : (∀ k, k < L.length → ¬ clAt L i k) → ∀ i', i' < i + 1 → ∀ k, k < L.length → ¬ clAt L i' k := fun hno i' hi' k hk => by
    rcases Nat.lt_or_ge i' i with h1 | h1
    · exact hall i' h1 k hk
    · have e : i' = i := by omega
      rw [e]; exact hno k hk
  obtain ⟨x, hx⟩ : ∃ x, zAt L i = x := ⟨_, rfl⟩
  obtain ⟨x0, x1, x2, x3⟩ := x
  refine W_seq ?_
  refine W_region ?_
  refine WL_val rfl rfl rfl (by first | exact rMoveI rfl rfl | exact rMove rfl) ?_
  refine WL_val rfl rfl rfl (rIdx (sz := 4) (i := i) rfl Tryd.underlying50 (by kernel_rfl) rfl rfl (by omega)) ?_
  refine WL_val rfl rfl rfl (by first | exact rLdB (n := 4) rfl (by kernel_rfl) (by kernel_rfl) rfl rfl hI.g0 | exact rLdA (n := 4) rfl (by kernel_rfl) (by kernel_rfl) rfl (by rfl) (fun k u hk => hI.oldp ((zon_at hI.g0 hil hx) k u hk)) | exact rLdA (n := 4) rfl (by kernel_rfl) (by kernel_rfl) rfl (by rfl) (zon_at hI.g0 hil hx) | exact rLd4 rfl (by kernel_rfl) (by kernel_rfl) rfl (by first | exact hI.c0 rfl) (by first | exact hI.c0 rfl) (by first | exact hI.c0 rfl) (by first | exact hI.c0 rfl)) ?_
  refine WL_alloc (u := .agg #[.int .i64 0, .int .i64 0, .int .i64 0, .bool false]) (vs := #[.int .i64 0, .int .i64 0, .int .i64 0, .bool false]) hI rfl rfl rfl rfl (by kernel_rfl) rfl ?_
  clear hI; rintro b8 w - - hI
  refine WL_val rfl rfl rfl (by first | exact rAsgnI rfl rfl | exact rAsgn rfl) ?_
  first | refine WL_stw0 (u := .agg _) (vs := #[_, _, _, _]) (n := 4) hI rfl rfl rfl rfl rfl rfl (by kernel_rfl) rfl rfl rfl ?_
  clear hI; intro w hI
  refine WL_nil ?_
  cases x3 with
  | false =>
    refine W_seq ?_
    refine W_seq ?_
    refine W_region ?_
    refine WL_val rfl rfl rfl (by first | exact rFldN (off := 3) rfl (by kernel_rfl) rfl | exact rFld (off := 3) rfl (by kernel_rfl) rfl) ?_
    refine WL_val rfl rfl rfl (by first | exact rLd (v := .bool _) rfl (by kernel_rfl) rfl (by first | exact hI.c0 rfl | exact hI.c1 rfl | exact hI.c2 rfl | exact hI.c3 rfl | exact hI.c4 rfl | exact hI.c5 rfl) | exact rLd rfl (by kernel_rfl) rfl (by first | exact hI.c0 rfl | exact hI.c1 rfl | exact hI.c2 rfl | exact hI.c3 rfl | exact hI.c4 rfl | exact hI.c5 rfl)) ?_
    refine WL_val rfl rfl rfl (by first | exact rNotT rfl rfl | exact rNotF rfl rfl | exact rNot rfl rfl) ?_
    refine WL_nil ?_
    refine W_cond true rfl ?_
    refine W_exit ?_
    replace hI := hI.d0
    refine W_region ?_
    refine WL_val rfl rfl rfl (by first | exact rInc rfl rfl rfl (by omega) | exact rAdd rfl rfl rfl (by omega) | exact rAddW rfl rfl rfl) ?_
    refine WL_val rfl rfl rfl (by first | exact rMoveI rfl rfl | exact rMove rfl) ?_
    refine WL_nil ?_
    exact ⟨L.length - (i + 1), by omega, i + 1, rfl, by omega, hskip (fun k hk hc => by have h2 := hc.2.1; rw [hx] at h2; cases h2), ⟨rfl, rfl, rfl, rfl, trivial⟩, hI⟩
  | true =>
  refine W_seq ?_
  refine W_seq ?_
  refine W_region ?_
  refine WL_val rfl rfl rfl (by first | exact rFldN (off := 3) rfl (by kernel_rfl) rfl | exact rFld (off := 3) rfl (by kernel_rfl) rfl) ?_
  refine WL_val rfl rfl rfl (by first | exact rLd (v := .bool _) rfl (by kernel_rfl) rfl (by first | exact hI.c0 rfl | exact hI.c1 rfl | exact hI.c2 rfl | exact hI.c3 rfl | exact hI.c4 rfl | exact hI.c5 rfl) | exact rLd rfl (by kernel_rfl) rfl (by first | exact hI.c0 rfl | exact hI.c1 rfl | exact hI.c2 rfl | exact hI.c3 rfl | exact hI.c4 rfl | exact hI.c5 rfl)) ?_
  refine WL_val rfl rfl rfl (by first | exact rNotT rfl rfl | exact rNotF rfl rfl | exact rNot rfl rfl) ?_
  refine WL_nil ?_
  refine W_cond false rfl ?_
  refine W_skip ?_
  refine W_seq ?_
  refine W_region ?_
  refine WL_val rfl rfl rfl (by first | exact rMoveS rfl rfl | exact rMove rfl) ?_
  refine WL_val rfl rfl rfl (rLen rfl Tryd.underlying50 rfl) ?_
  refine WL_val rfl rfl rfl (by first | exact rMoveI rfl rfl | exact rMove rfl) ?_
  refine WL_nil ?_
  refine W_block ?_
  refine W_loopN (fun mu ρ w => ∃ k : Nat, mu = L.length - k ∧ k ≤ L.length ∧ (∀ k', k' < k → ¬ clAt L i k') ∧ Has ρ [(31, .int .i64 (k : Int)), (30, .int .i64 (L.length : Int)), (29, .slice (some ⟨g, 0, none⟩) L.length cz), (7, .int .i64 (i : Int)), (8, .pointer (some ⟨b8, 0, none⟩)), (21, .int .i64 (i : Int)), (20, .int .i64 (L.length : Int)), (19, .slice (some ⟨g, 0, none⟩) L.length cz), (6, .slice (some ⟨g, 0, none⟩) L.length cz)] ∧ Inv (fun _ => False) w0 w [B b8 54 #[.int .i64 x0, .int .i64 x1, .int .i64 x2, .bool true], B g 54 (zonC L junk)]) L.length
    ⟨0, rfl, by omega, fun k' hk => by omega, ⟨rfl, rfl, rfl, rfl, rfl, rfl, rfl, rfl, rfl, trivial⟩, hI⟩ ?_
  clear hI
  rintro mu ρ w ⟨k, rfl, hk, hallk, hH, hI⟩
  obtain ⟨σ, rfl⟩ := hH.open
  by_cases hkl : k < L.length
  rotate_left
  · obtain rfl : k = L.length := by omega
    refine W_seq ?_
    refine W_region ?_
    refine WL_val rfl rfl rfl (by first | exact rLssT rfl rfl rfl (by omega) | exact rLssF rfl rfl rfl (by omega) | exact rLss rfl rfl rfl) ?_
    refine WL_nil ?_
    refine W_seq ?_
    refine W_cond false rfl ?_
    refine W_exit ?_
    replace hI := hI.d0
    refine W_region ?_
    refine WL_val rfl rfl rfl (by first | exact rInc rfl rfl rfl (by omega) | exact rAdd rfl rfl rfl (by omega) | exact rAddW rfl rfl rfl) ?_
    refine WL_val rfl rfl rfl (by first | exact rMoveI rfl rfl | exact rMove rfl) ?_
    refine WL_nil ?_
    exact ⟨L.length - (i + 1), by omega, i + 1, rfl, by omega, hskip hallk, ⟨rfl, rfl, rfl, rfl, trivial⟩, hI⟩
  obtain ⟨y, hy⟩ : ∃ y, zAt L k = y := ⟨_, rfl⟩
  obtain ⟨y0, y1, y2, y3⟩ := y
  have hnext : ¬ clAt L i k → ∀ k', k' < k + 1 → ¬ clAt L i k' := fun hc k' hk' => by
    rcases Nat.lt_or_ge k' k with h1 | h1
    · exact hallk k' h1
    · have e : k' = k := by omega
      rw [e]; exact hc
  refine W_seq ?_
  refine W_region ?_
  refine WL_val rfl rfl rfl (by first | exact rLssT rfl rfl rfl (by omega) | exact rLssF rfl rfl rfl (by omega) | exact rLss rfl rfl rfl) ?_
  refine WL_nil ?_
  refine W_seq ?_
  refine W_cond true rfl ?_
  refine W_skip ?_
  refine W_seq ?_
  refine W_block ?_
  refine W_seq ?_
  refine W_region ?_
  refine WL_val rfl rfl rfl (by first | exact rMoveI rfl rfl | exact rMove rfl) ?_
  refine WL_val rfl rfl rfl (rIdx (sz := 4) (i := k) rfl Tryd.underlying50 (by kernel_rfl) rfl rfl (by omega)) ?_
  refine WL_val rfl rfl rfl (by first | exact rLdB (n := 4) rfl (by kernel_rfl) (by kernel_rfl) rfl rfl hI.g0 | exact rLdB (n := 4) rfl (by kernel_rfl) (by kernel_rfl) rfl rfl hI.g1 | exact rLdA (n := 4) rfl (by kernel_rfl) (by kernel_rfl) rfl (by rfl) (fun k u hk => hI.oldp ((zon_at hI.g1 hkl hy) k u hk)) | exact rLdA (n := 4) rfl (by kernel_rfl) (by kernel_rfl) rfl (by rfl) (zon_at hI.g1 hkl hy) | exact rLd4 rfl (by kernel_rfl) (by kernel_rfl) rfl (by first | exact hI.c0 rfl | exact hI.c1 rfl) (by first | exact hI.c0 rfl | exact hI.c1 rfl) (by first | exact hI.c0 rfl | exact hI.c1 rfl) (by first | exact hI.c0 rfl | exact hI.c1 rfl)) ?_
  refine WL_alloc (u := .agg #[.int .i64 0, .int .i64 0, .int .i64 0, .bool false]) (vs := #[.int .i64 0, .int .i64 0, .int .i64 0, .bool false]) hI rfl rfl rfl rfl (by kernel_rfl) rfl ?_
  clear hI; rintro b10 w - - hI
  refine WL_val rfl rfl rfl (by first | exact rAsgnI rfl rfl | exact rAsgn rfl) ?_
  first | refine WL_stw0 (u := .agg _) (vs := #[_, _, _, _]) (n := 4) hI rfl rfl rfl rfl rfl rfl (by kernel_rfl) rfl rfl rfl ?_ | refine WL_stw1 (u := .agg _) (vs := #[_, _, _, _]) (n := 4) hI rfl rfl rfl rfl rfl rfl (by kernel_rfl) rfl rfl rfl ?_
  clear hI; intro w hI
  refine WL_nil ?_
  by_cases hki : k = i
  · refine W_seq ?_
    refine W_region ?_
    refine WL_val rfl rfl rfl (by first | exact rMoveI rfl rfl | exact rMove rfl) ?_
    refine WL_val rfl rfl rfl (by first | exact rMoveI rfl rfl | exact rMove rfl) ?_
    refine WL_val rfl rfl rfl (rNeqF rfl rfl rfl (by omega)) ?_
    refine WL_val rfl rfl rfl (by first | exact rMoveB rfl rfl | exact rMove rfl) ?_
    refine WL_skip rfl rfl rfl ?_
    refine WL_skip rfl rfl rfl ?_
    refine WL_skip rfl rfl rfl ?_
    refine WL_skip rfl rfl rfl ?_
    refine WL_skip rfl rfl rfl ?_
    refine WL_skip rfl rfl rfl ?_
    refine WL_val rfl rfl rfl (by first | exact rPickTB rfl rfl rfl | exact rPickFB rfl rfl rfl | exact rPickB rfl rfl rfl rfl) ?_
    refine WL_nil ?_
    refine W_cond false rfl ?_
    refine W_skip ?_
    replace hI := hI.d0
    refine W_region ?_
    refine WL_val rfl rfl rfl (by first | exact rInc rfl rfl rfl (by omega) | exact rAdd rfl rfl rfl (by omega) | exact rAddW rfl rfl rfl) ?_
    refine WL_val rfl rfl rfl (by first | exact rMoveI rfl rfl | exact rMove rfl) ?_
    refine WL_nil ?_
    exact ⟨L.length - (k + 1), by omega, k + 1, rfl, by omega, hnext (fun hc => hc.1 hki.symm), ⟨rfl, rfl, rfl, rfl, rfl, rfl, rfl, rfl, rfl, trivial⟩, hI⟩
  obtain ⟨bh, hbh⟩ : ∃ bh, decide (i < k) = bh := ⟨_, rfl⟩
  obtain ⟨cl, hcl⟩ : ∃ cl, clF ⟨x0, x1, x2, true⟩ ⟨y0, y1, y2, y3⟩ bh = cl := ⟨_, rfl⟩
  have hclat : clAt L i k ↔ cl = true := by
    unfold clAt
    rw [hx, hy, hbh, hcl]
    exact ⟨fun hh => hh.2.2, fun hh => ⟨fun e => hki e.symm, rfl, hh⟩⟩
  refine W_seq_cut (fun ρ w => Has ρ [(46, .bool cl), (31, .int .i64 (k : Int)), (30, .int .i64 (L.length : Int)), (29, .slice (some ⟨g, 0, none⟩) L.length cz), (7, .int .i64 (i : Int)), (8, .pointer (some ⟨b8, 0, none⟩)), (10, .pointer (some ⟨b10, 0, none⟩)), (21, .int .i64 (i : Int)), (20, .int .i64 (L.length : Int)), (19, .slice (some ⟨g, 0, none⟩) L.length cz), (6, .slice (some ⟨g, 0, none⟩) L.length cz)] ∧ Inv (fun _ => False) w0 w [B b10 54 #[.int .i64 y0, .int .i64 y1, .int .i64 y2, .bool y3], B b8 54 #[.int .i64 x0, .int .i64 x1, .int .i64 x2, .bool true], B g 54 (zonC L junk)]) ?_ ?_
  · cases bh with
    | true =>
      have hik : i < k := by simpa using hbh
      refine W_region ?_
      refine WL_val rfl rfl rfl (by first | exact rMoveI rfl rfl | exact rMove rfl) ?_
      refine WL_val rfl rfl rfl (by first | exact rMoveI rfl rfl | exact rMove rfl) ?_
      refine WL_val rfl rfl rfl (rNeqT rfl rfl rfl (by omega)) ?_
      refine WL_val rfl rfl rfl (by first | exact rMoveB rfl rfl | exact rMove rfl) ?_
      first | refine WL_val rfl rfl rfl (by first | exact rLdB (n := 4) rfl (by kernel_rfl) (by kernel_rfl) rfl rfl hI.g0 | exact rLdB (n := 4) rfl (by kernel_rfl) (by kernel_rfl) rfl rfl hI.g1 | exact rLd4 rfl (by kernel_rfl) (by kernel_rfl) rfl (by first | exact hI.c0 rfl | exact hI.c1 rfl) (by first | exact hI.c0 rfl | exact hI.c1 rfl) (by first | exact hI.c0 rfl | exact hI.c1 rfl) (by first | exact hI.c0 rfl | exact hI.c1 rfl)) ?_ | refine WL_skip rfl rfl rfl ?_
      first | refine WL_val rfl rfl rfl (by first | exact rLdB (n := 4) rfl (by kernel_rfl) (by kernel_rfl) rfl rfl hI.g0 | exact rLdB (n := 4) rfl (by kernel_rfl) (by kernel_rfl) rfl rfl hI.g1 | exact rLd4 rfl (by kernel_rfl) (by kernel_rfl) rfl (by first | exact hI.c0 rfl | exact hI.c1 rfl) (by first | exact hI.c0 rfl | exact hI.c1 rfl) (by first | exact hI.c0 rfl | exact hI.c1 rfl) (by first | exact hI.c0 rfl | exact hI.c1 rfl)) ?_ | refine WL_skip rfl rfl rfl ?_
      first | refine WL_val rfl rfl rfl (by first | exact rMoveI rfl rfl | exact rMove rfl) ?_ | refine WL_skip rfl rfl rfl ?_
      first | refine WL_val rfl rfl rfl (by first | exact rMoveI rfl rfl | exact rMove rfl) ?_ | refine WL_skip rfl rfl rfl ?_
      first | refine WL_val rfl rfl rfl (by first | exact rGtrT rfl rfl rfl (by omega) | exact rGtrF rfl rfl rfl (by omega) | exact rGtr rfl rfl rfl) ?_ | refine WL_skip rfl rfl rfl ?_
      refine WL_call rfl rfl rfl (rCall (vs := [.agg _, .agg _, .bool _]) rfl Tryd.func20 rfl rfl rfl) ?_
      refine (clash_any ⟨x0, x1, x2, true⟩ ⟨y0, y1, y2, y3⟩ true _).mono ?_
      rintro e w1 ⟨rfl, hpu⟩
      rw [hcl]
      refine ⟨_, rfl, ?_⟩
      replace hI := hI.pure hpu
      refine WL_val rfl rfl rfl (by first | exact rPickTB rfl rfl rfl | exact rPickFB rfl rfl rfl | exact rPickB rfl rfl rfl rfl) ?_
      refine WL_nil ?_
      exact ⟨⟨rfl, rfl, rfl, rfl, rfl, rfl, rfl, rfl, rfl, rfl, rfl, trivial⟩, hI⟩
    | false =>
      have hik : ¬ i < k := by simpa using hbh
      refine W_region ?_
      refine WL_val rfl rfl rfl (by first | exact rMoveI rfl rfl | exact rMove rfl) ?_
      refine WL_val rfl rfl rfl (by first | exact rMoveI rfl rfl | exact rMove rfl) ?_
      refine WL_val rfl rfl rfl (rNeqT rfl rfl rfl (by omega)) ?_
      refine WL_val rfl rfl rfl (by first | exact rMoveB rfl rfl | exact rMove rfl) ?_
      first | refine WL_val rfl rfl rfl (by first | exact rLdB (n := 4) rfl (by kernel_rfl) (by kernel_rfl) rfl rfl hI.g0 | exact rLdB (n := 4) rfl (by kernel_rfl) (by kernel_rfl) rfl rfl hI.g1 | exact rLd4 rfl (by kernel_rfl) (by kernel_rfl) rfl (by first | exact hI.c0 rfl | exact hI.c1 rfl) (by first | exact hI.c0 rfl | exact hI.c1 rfl) (by first | exact hI.c0 rfl | exact hI.c1 rfl) (by first | exact hI.c0 rfl | exact hI.c1 rfl)) ?_ | refine WL_skip rfl rfl rfl ?_
      first | refine WL_val rfl rfl rfl (by first | exact rLdB (n := 4) rfl (by kernel_rfl) (by kernel_rfl) rfl rfl hI.g0 | exact rLdB (n := 4) rfl (by kernel_rfl) (by kernel_rfl) rfl rfl hI.g1 | exact rLd4 rfl (by kernel_rfl) (by kernel_rfl) rfl (by first | exact hI.c0 rfl | exact hI.c1 rfl) (by first | exact hI.c0 rfl | exact hI.c1 rfl) (by first | exact hI.c0 rfl | exact hI.c1 rfl) (by first | exact hI.c0 rfl | exact hI.c1 rfl)) ?_ | refine WL_skip rfl rfl rfl ?_
      first | refine WL_val rfl rfl rfl (by first | exact rMoveI rfl rfl | exact rMove rfl) ?_ | refine WL_skip rfl rfl rfl ?_
      first | refine WL_val rfl rfl rfl (by first | exact rMoveI rfl rfl | exact rMove rfl) ?_ | refine WL_skip rfl rfl rfl ?_
      first | refine WL_val rfl rfl rfl (by first | exact rGtrT rfl rfl rfl (by omega) | exact rGtrF rfl rfl rfl (by omega) | exact rGtr rfl rfl rfl) ?_ | refine WL_skip rfl rfl rfl ?_
      refine WL_call rfl rfl rfl (rCall (vs := [.agg _, .agg _, .bool _]) rfl Tryd.func20 rfl rfl rfl) ?_
      refine (clash_any ⟨x0, x1, x2, true⟩ ⟨y0, y1, y2, y3⟩ false _).mono ?_
      rintro e w1 ⟨rfl, hpu⟩
      rw [hcl]
      refine ⟨_, rfl, ?_⟩
      replace hI := hI.pure hpu
      refine WL_val rfl rfl rfl (by first | exact rPickTB rfl rfl rfl | exact rPickFB rfl rfl rfl | exact rPickB rfl rfl rfl rfl) ?_
      refine WL_nil ?_
      exact ⟨⟨rfl, rfl, rfl, rfl, rfl, rfl, rfl, rfl, rfl, rfl, rfl, trivial⟩, hI⟩
  clear hI
  rintro ρ w ⟨hH, hI⟩
  obtain ⟨σ, rfl⟩ := hH.open
  cases cl with
  | true =>
    refine W_cond true rfl ?_
    refine W_seq ?_
    refine W_draw (by kernel_rfl) ?_
    refine WA_inv (T := [7]) hI.drew ?_
    intro Sx hSx hXS
    replace hI := hI.drew
    refine WT_take 0 rfl rfl (by kernel_rfl) (hXS _ hI) rfl (fun W hW => have hI := hSx W hW; (by first | exact rFldN (off := 0) rfl (by kernel_rfl) rfl | exact rFld0 rfl (by kernel_rfl) rfl)) ?_
    refine WT_take 1 rfl rfl (by kernel_rfl) (hXS _ hI) rfl (fun W hW => have hI := hSx W hW; (by first | exact rLd (v := .int .i64 _) rfl (by kernel_rfl) rfl (by first | exact hI.c0 rfl | exact hI.c1 rfl) | exact rLd rfl (by kernel_rfl) rfl (by first | exact hI.c0 rfl | exact hI.c1 rfl))) ?_
    refine WT_take 2 rfl rfl (by kernel_rfl) (hXS _ hI) rfl (fun W hW => have hI := hSx W hW; (by first | exact rFldN (off := 0) rfl (by kernel_rfl) rfl | exact rFld0 rfl (by kernel_rfl) rfl)) ?_
    refine WT_take 3 rfl rfl (by kernel_rfl) (hXS _ hI) rfl (fun W hW => have hI := hSx W hW; (by first | exact rLd (v := .int .i64 _) rfl (by kernel_rfl) rfl (by first | exact hI.c0 rfl | exact hI.c1 rfl) | exact rLd rfl (by kernel_rfl) rfl (by first | exact hI.c0 rfl | exact hI.c1 rfl))) ?_
    refine WT_take 4 rfl rfl (by kernel_rfl) (hXS _ hI) rfl (fun W hW => have hI := hSx W hW; (by first | exact rAsgnB rfl rfl | exact rAsgn rfl)) ?_
    refine WT_take 5 rfl rfl (by kernel_rfl) (hXS _ hI) rfl (fun W hW => have hI := hSx W hW; (by first | exact rAsgnI rfl rfl | exact rAsgn rfl)) ?_
    refine WT_take 6 rfl rfl (by kernel_rfl) (hXS _ hI) rfl (fun W hW => have hI := hSx W hW; (by first | exact rAsgnI rfl rfl | exact rAsgn rfl)) ?_
    refine WT_A (by kernel_rfl) ?_
    clear hXS hSx
    refine WA_T (fun _ => True) [] ?_
    refine WT_take 7 rfl rfl (by kernel_rfl) trivial rfl (fun W _ => (by first | exact rAsgnN rfl rfl | exact rAsgnE rfl rfl | exact rAsgn rfl)) ?_
    refine WT_end (by kernel_rfl) ?_
    refine W_ret ?_
    exact ret4z 2 3 4 5 (.inr rfl) rfl ⟨hI.pu, .inr (.inr ⟨hok, false, _, _, ⟨fun hf => (by cases hf), fun hf => absurd ⟨i, k, hil, hkl, hclat.2 rfl⟩ (hfine.1 hf)⟩, rfl⟩)⟩
  | false =>
    refine W_cond false rfl ?_
    refine W_skip ?_
    replace hI := hI.d0
    refine W_region ?_
    refine WL_val rfl rfl rfl (by first | exact rInc rfl rfl rfl (by omega) | exact rAdd rfl rfl rfl (by omega) | exact rAddW rfl rfl rfl) ?_
    refine WL_val rfl rfl rfl (by first | exact rMoveI rfl rfl | exact rMove rfl) ?_
    refine WL_nil ?_
    exact ⟨L.length - (k + 1), by omega, k + 1, rfl, by omega, hnext (fun hc => by have := hclat.1 hc; cases this), ⟨rfl, rfl, rfl, rfl, rfl, rfl, rfl, rfl, rfl, trivial⟩, hI⟩
end Go.Proofs.YtijgkocolajghaaDoor
