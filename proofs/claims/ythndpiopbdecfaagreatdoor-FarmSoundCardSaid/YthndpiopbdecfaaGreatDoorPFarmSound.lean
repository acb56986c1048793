/- Texts of the proof, merged: StoX, StoY, StoZ, StoBk, FarK, FarmSound. -/
import Derived.Test.YthndpiopbdecfaaGreatDoorPRegLin
import Derived.Test.YthndpiopbdecfaaGreatDoorPGen7
namespace Go.Proofs.YthndpiopbdecfaaGreatDoor
set_option linter.unusedVariables false
set_option linter.unusedSimpArgs false
structure SeeR (s : StS) (v : SeeS) : Prop where
 run : runE s.evs 0 initE = some v
 gone : ∀ n, goneAt v n = false
 busy : ∀ c : Nat, (s.cl c).busy = true → ∃ n, v.busy (c : Int) = some n ∧ fitsOp (oAt v.ops n) (s.cl c).began
 idle : ∀ c : Nat, (s.cl c).busy = false → v.busy (c : Int) = none
 lost : ∀ c : Nat, (s.cl c).gone = false → v.lost (c : Int) = none
 pend : ∀ n, n < v.ops.length → (oAt v.ops n).ret = -1 → ∃ c : Nat, (oAt v.ops n).proc = (c : Int) ∧ actC (s.cl c) ∧ fitsOp (oAt v.ops n) (s.cl c).began
 act : ∀ c : Nat, actC (s.cl c) → ∃ n, n < v.ops.length ∧ (oAt v.ops n).proc = (c : Int) ∧ (oAt v.ops n).ret = -1 ∧ fitsOp (oAt v.ops n) (s.cl c).began
 done : ∀ (i : Nat) (e : Ev), s.evs[i]? = some e → e.ty = 2 → ∃ n, n < v.ops.length ∧ (oAt v.ops n).ret = (i : Int) ∧ (oAt v.ops n).proc = e.proc ∧ fitsOp (oAt v.ops n) e ∧ (oAt v.ops n).res = e.res
 isd : ∀ n, n < v.ops.length → 0 ≤ (oAt v.ops n).ret → ∃ (i : Nat) (e : Ev), s.evs[i]? = some e ∧ e.ty = 2 ∧ (oAt v.ops n).ret = (i : Int) ∧ (oAt v.ops n).proc = e.proc ∧ fitsOp (oAt v.ops n) e ∧ (oAt v.ops n).res = e.res
theorem SeeR.ok {s : StS} {v : SeeS} (h : SeeR s v) : SeeOk s.evs s.evs.length v := by
 have := runE_ok (l := s.evs) s.evs [] 0 initE v (by simp) (seeOk_init _) h.run
 rw [Nat.zero_add] at this
 exact this
def sameC (x y : SCl) : Prop := x.busy = y.busy ∧ x.gone = y.gone ∧ x.began = y.began
theorem sameC.act {x y : SCl} (h : sameC x y) : actC x ↔ actC y := by unfold actC; rw [h.1, h.2.1]
theorem SeeR.same {s s' : StS} {v : SeeS} (h : SeeR s v) (he : s'.evs = s.evs) (hc : ∀ i, sameC (s'.cl i) (s.cl i)) : SeeR s' v where
 run := by rw [he]; exact h.run
 gone := h.gone
 busy := fun c g => by rw [(hc c).2.2]; exact h.busy c ((hc c).1.symm.trans g)
 idle := fun c g => h.idle c ((hc c).1.symm.trans g)
 lost := fun c g => h.lost c ((hc c).2.1.symm.trans g)
 pend := fun n hn hr => by
  obtain ⟨c, h1, h2, h3⟩ := h.pend n hn hr
  exact ⟨c, h1, (hc c).act.2 h2, by rw [(hc c).2.2]; exact h3⟩
 act := fun c g => by rw [(hc c).2.2]; exact h.act c ((hc c).act.1 g)
 done := by rw [he]; exact h.done
 isd := by rw [he]; exact h.isd
theorem runE_last {l : List Ev} {v : SeeS} (h : runE l 0 initE = some v) (e : Ev) : runE (l ++ [e]) 0 initE = stepE e l.length v := by
 rw [runE_app, h, Nat.zero_add]
 show (stepE e l.length v).bind (runE [] (l.length + 1)) = _
 cases stepE e l.length v <;> rfl
theorem evOk_of {e : Ev} (hp : 0 ≤ e.proc ∧ e.proc ≤ 7) (hk : 0 ≤ e.key ∧ e.key ≤ 7) (ha : -1000000 ≤ e.a ∧ e.a ≤ 1000000) (hb : e.b = 0) (hr : -1000000 ≤ e.res ∧ e.res ≤ 1000000) (ht : 1 ≤ e.ty ∧ e.ty ≤ 4) (hk2 : 1 ≤ e.kind ∧ e.kind ≤ 12) (h0 : e.res = 0 ∨ e.ty = 2) : evOkB e = true := by
 unfold evOkB toldB inB
 simp [hp.1, hp.2, hk.1, hk.2, ha.1, ha.2, hb, hr.1, hr.2, ht.1, ht.2, hk2.1, hk2.2]
 rcases h0 with h0 | h0 <;> simp [h0]
theorem SeeR.begin {s s' : StS} {v : SeeS} (h : SeeR s v) (c : Nat) (e : Ev) (hbusy : (s.cl c).busy = false) (hgone : (s.cl c).gone = false) (hty : e.ty = 1) (hp : e.proc = (c : Int)) (hok : evOkB e = true) (he : s'.evs = s.evs ++ [e]) (hf : ∀ i, i ≠ c → s'.cl i = s.cl i) (h1 : (s'.cl c).busy = true) (h2 : (s'.cl c).gone = false) (h3 : (s'.cl c).began = e) : ∃ v', SeeR s' v' := by
 have hO := h.ok
 have hb := h.idle c hbusy
 have hl := h.lost c hgone
 have hstep : stepE e s.evs.length v = some ⟨v.ops ++ [newOp e s.evs.length], updI v.busy e.proc (some v.ops.length), v.lost, v.gone ++ [false]⟩ := by
  unfold stepE
  rw [if_pos hok, if_pos hty]
  unfold beginF
  rw [if_neg (by rw [hp, hb, hl]; simp)]
 have hlen : (v.ops ++ [newOp e s.evs.length]).length = v.ops.length + 1 := by simp
 have old : ∀ {n}, n < v.ops.length → oAt (v.ops ++ [newOp e s.evs.length]) n = oAt v.ops n := fun hn => oAt_app_l hn
 have new : oAt (v.ops ++ [newOp e s.evs.length]) v.ops.length = newOp e s.evs.length := oAt_app_r
 have hna : ¬ actC (s.cl c) := fun g => by
  rcases g with g | g
  ·rw [hbusy] at g; cases g
  ·rw [hgone] at g; cases g
 have hfit : fitsOp (newOp e s.evs.length) e := ⟨rfl, rfl, rfl, rfl⟩
 refine ⟨⟨v.ops ++ [newOp e s.evs.length], updI v.busy e.proc (some v.ops.length), v.lost, v.gone ++ [false]⟩, ?_, ?_, ?_, ?_, ?_, ?_, ?_, ?_, ?_⟩
 ·rw [he, runE_last h.run, hstep]
 ·intro n
  have := goneAt_app (s := v) (n := n) hO.glen
  exact this.trans (h.gone n)
 ·intro d hd
  show ∃ n, updI v.busy e.proc (some v.ops.length) (d : Int) = some n ∧ fitsOp (oAt (v.ops ++ [newOp e s.evs.length]) n) _
  by_cases hdc : d = c
  ·subst hdc
   exact ⟨v.ops.length, by unfold updI; rw [if_pos hp.symm], by rw [new, h3]; exact hfit⟩
  ·rw [hf d hdc] at hd ⊢
   obtain ⟨n, g1, g2⟩ := h.busy d hd
   exact ⟨n, by unfold updI; rw [if_neg (by omega)]; exact g1, by rw [old (hO.busy _ n g1).1]; exact g2⟩
 ·intro d hd
  by_cases hdc : d = c
  ·subst hdc; rw [h1] at hd; cases hd
  ·rw [hf d hdc] at hd
   show updI v.busy e.proc (some v.ops.length) (d : Int) = none
   unfold updI
   rw [if_neg (by omega)]
   exact h.idle d hd
 ·intro d hd
  by_cases hdc : d = c
  ·subst hdc; exact hl
  ·rw [hf d hdc] at hd; exact h.lost d hd
 ·intro n hn hr
  have hn : n < (v.ops ++ [newOp e s.evs.length]).length := hn
  have hr : (oAt (v.ops ++ [newOp e s.evs.length]) n).ret = -1 := hr
  show ∃ d : Nat, (oAt (v.ops ++ [newOp e s.evs.length]) n).proc = (d : Int) ∧ _ ∧ fitsOp (oAt (v.ops ++ [newOp e s.evs.length]) n) _
  rcases Nat.lt_or_ge n v.ops.length with g | g
  ·rw [old g] at hr ⊢
   obtain ⟨d, d1, d2, d3⟩ := h.pend n g hr
   have hdc : d ≠ c := fun e => by subst e; exact hna d2
   exact ⟨d, d1, by rw [hf d hdc]; exact d2, by rw [hf d hdc]; exact d3⟩
  ·obtain rfl : n = v.ops.length := by omega
   rw [new]
   exact ⟨c, hp, .inl h1, by rw [h3]; exact hfit⟩
 ·intro d hd
  show ∃ n, n < (v.ops ++ [newOp e s.evs.length]).length ∧ (oAt (v.ops ++ [newOp e s.evs.length]) n).proc = (d : Int) ∧ (oAt (v.ops ++ [newOp e s.evs.length]) n).ret = -1 ∧ fitsOp (oAt (v.ops ++ [newOp e s.evs.length]) n) _
  by_cases hdc : d = c
  ·subst hdc
   exact ⟨v.ops.length, by omega, by rw [new]; exact hp, by rw [new]; rfl, by rw [new, h3]; exact hfit⟩
  ·rw [hf d hdc] at hd ⊢
   obtain ⟨n, g1, g2, g3, g4⟩ := h.act d hd
   exact ⟨n, by omega, by rw [old g1]; exact g2, by rw [old g1]; exact g3, by rw [old g1]; exact g4⟩
 ·intro i e0 hi h0
  rw [he] at hi
  show ∃ n, n < (v.ops ++ [newOp e s.evs.length]).length ∧ (oAt (v.ops ++ [newOp e s.evs.length]) n).ret = (i : Int) ∧ (oAt (v.ops ++ [newOp e s.evs.length]) n).proc = e0.proc ∧ fitsOp (oAt (v.ops ++ [newOp e s.evs.length]) n) e0 ∧ (oAt (v.ops ++ [newOp e s.evs.length]) n).res = e0.res
  rcases oE_get (o := some (e, ⟨0, 0, 0⟩)) hi with g | ⟨_, st, g⟩
  ·obtain ⟨n, g1, g2⟩ := h.done i e0 g h0
   exact ⟨n, by omega, by rw [old g1]; exact g2⟩
  ·injection g with g; injection g with g1 _; rw [← g1] at h0; omega
 ·intro n hn hr
  have hn : n < (v.ops ++ [newOp e s.evs.length]).length := hn
  have hr : 0 ≤ (oAt (v.ops ++ [newOp e s.evs.length]) n).ret := hr
  show ∃ (i : Nat) (e0 : Ev), s'.evs[i]? = some e0 ∧ e0.ty = 2 ∧ (oAt (v.ops ++ [newOp e s.evs.length]) n).ret = (i : Int) ∧ (oAt (v.ops ++ [newOp e s.evs.length]) n).proc = e0.proc ∧ fitsOp (oAt (v.ops ++ [newOp e s.evs.length]) n) e0 ∧ (oAt (v.ops ++ [newOp e s.evs.length]) n).res = e0.res
  rcases Nat.lt_or_ge n v.ops.length with g | g
  ·rw [old g] at hr ⊢
   obtain ⟨i, e0, g1, g2⟩ := h.isd n g hr
   exact ⟨i, e0, by rw [he]; exact get_app g1 _, g2⟩
  ·obtain rfl : n = v.ops.length := by omega
   rw [new] at hr
   have hr : (0 : Int) ≤ -1 := hr
   omega
theorem stepE_end {e : Ev} {i n : Nat} {v : SeeS} (hok : evOkB e = true) (hty : e.ty = 2 ∨ e.ty = 4) (hb : v.busy e.proc = some n) (hf : fitsOp (oAt v.ops n) e) : stepE e i v = some ⟨if e.ty = 2 then v.ops.set n (endOp (oAt v.ops n) e i) else v.ops, updI v.busy e.proc none, if e.ty = 4 then updI v.lost e.proc (some i) else v.lost, v.gone⟩ := by
 unfold stepE
 rw [if_pos hok, if_neg (by omega)]
 unfold endF
 rw [hb]
 simp only
 rw [if_pos hf, if_neg (show ¬ e.ty = 3 by omega)]
theorem SeeR.give {s s' : StS} {v : SeeS} (h : SeeR s v) (c : Nat) (e : Ev) (hbusy : (s.cl c).busy = true) (hty : e.ty = 4) (hp : e.proc = (c : Int)) (hfe : e.key = (s.cl c).began.key ∧ e.kind = (s.cl c).began.kind ∧ e.a = (s.cl c).began.a ∧ e.b = (s.cl c).began.b) (hok : evOkB e = true) (he : s'.evs = s.evs ++ [e]) (hf : ∀ i, i ≠ c → s'.cl i = s.cl i) (h1 : (s'.cl c).busy = false) (h2 : (s'.cl c).gone = true) (h3 : (s'.cl c).began = (s.cl c).began) : ∃ v', SeeR s' v' := by
 have hO := h.ok
 obtain ⟨n, hn, hfit⟩ := h.busy c hbusy
 have hfit' : fitsOp (oAt v.ops n) e := by
  unfold fitsOp at *
  rw [hfe.1, hfe.2.1, hfe.2.2.1, hfe.2.2.2]; exact hfit
 have hstep := stepE_end (i := s.evs.length) hok (.inr hty) (by rw [hp]; exact hn) hfit'
 rw [if_neg (by omega), if_pos hty] at hstep
 have hact : ∀ d, actC (s.cl d) → actC (s'.cl d) := fun d g => by
  by_cases hdc : d = c
  ·subst hdc; exact .inr h2
  ·rw [hf d hdc]; exact g
 have hbeg : ∀ d, (s'.cl d).began = (s.cl d).began := fun d => by
  by_cases hdc : d = c
  ·subst hdc; exact h3
  ·rw [hf d hdc]
 refine ⟨⟨v.ops, updI v.busy e.proc none, updI v.lost e.proc (some s.evs.length), v.gone⟩, ?_, h.gone, ?_, ?_, ?_, ?_, ?_, ?_, ?_⟩
 ·rw [he, runE_last h.run, hstep]
 ·intro d hd
  by_cases hdc : d = c
  ·subst hdc; rw [h1] at hd; cases hd
  ·rw [hf d hdc] at hd ⊢
   obtain ⟨m, g1, g2⟩ := h.busy d hd
   refine ⟨m, ?_, g2⟩
   show updI v.busy e.proc none (d : Int) = some m
   unfold updI
   rw [if_neg (by omega)]
   exact g1
 ·intro d hd
  show updI v.busy e.proc none (d : Int) = none
  unfold updI
  by_cases hdc : d = c
  ·rw [if_pos (by omega)]
  ·rw [hf d hdc] at hd
   rw [if_neg (by omega)]
   exact h.idle d hd
 ·intro d hd
  by_cases hdc : d = c
  ·subst hdc; rw [h2] at hd; cases hd
  ·rw [hf d hdc] at hd
   show updI v.lost e.proc (some s.evs.length) (d : Int) = none
   unfold updI
   rw [if_neg (by omega)]
   exact h.lost d hd
 ·intro m hm hr
  obtain ⟨d, d1, d2, d3⟩ := h.pend m hm hr
  exact ⟨d, d1, hact d d2, by rw [hbeg]; exact d3⟩
 ·intro d hd
  rw [hbeg]
  by_cases hdc : d = c
  ·subst hdc; exact h.act d (.inl hbusy)
  ·rw [hf d hdc] at hd; exact h.act d hd
 ·intro i e0 hi h0
  rw [he] at hi
  rcases oE_get (o := some (e, ⟨0, 0, 0⟩)) hi with g | ⟨_, st, g⟩
  ·exact h.done i e0 g h0
  ·injection g with g; injection g with g1 _; rw [← g1] at h0; omega
 ·intro m hm hr
  obtain ⟨i, e0, g1, g2⟩ := h.isd m hm hr
  exact ⟨i, e0, by rw [he]; exact get_app g1 _, g2⟩
theorem SeeR.fin {s s' : StS} {v : SeeS} (h : SeeR s v) (c : Nat) (e : Ev) (hbusy : (s.cl c).busy = true) (hgone : (s.cl c).gone = false) (hty : e.ty = 2) (hp : e.proc = (c : Int)) (hfe : e.key = (s.cl c).began.key ∧ e.kind = (s.cl c).began.kind ∧ e.a = (s.cl c).began.a ∧ e.b = (s.cl c).began.b) (hok : evOkB e = true) (he : s'.evs = s.evs ++ [e]) (hf : ∀ i, i ≠ c → s'.cl i = s.cl i) (h1 : (s'.cl c).busy = false) (h2 : (s'.cl c).gone = false) : ∃ v', SeeR s' v' := by
 have hO := h.ok
 obtain ⟨n, hn, hfit⟩ := h.busy c hbusy
 obtain ⟨n1, n2, n3, n4, n5⟩ := hO.busy _ n hn
 have hfit' : fitsOp (oAt v.ops n) e := by
  unfold fitsOp at *
  rw [hfe.1, hfe.2.1, hfe.2.2.1, hfe.2.2.2]; exact hfit
 have hstep := stepE_end (i := s.evs.length) hok (.inl hty) (by rw [hp]; exact hn) hfit'
 rw [if_pos hty, if_neg (by omega)] at hstep
 obtain ⟨x, hx⟩ : ∃ x, endOp (oAt v.ops n) e s.evs.length = x := ⟨_, rfl⟩
 have hxp : x.proc = (c : Int) := by rw [← hx]; exact n2
 have hxf : fitsOp x e := by rw [← hx]; exact hfit'
 have hxr : x.ret = (s.evs.length : Int) := by rw [← hx]; rfl
 have hxs : x.res = e.res := by rw [← hx]; rfl
 rw [hx] at hstep
 have hlen : (v.ops.set n x).length = v.ops.length := List.length_set
 have atn : oAt (v.ops.set n x) n = x := by rw [oAt_setE n1, if_pos rfl]
 have ato : ∀ {m}, m ≠ n → oAt (v.ops.set n x) m = oAt v.ops m := fun hm => by rw [oAt_setE n1, if_neg (fun g => hm g.symm)]
 have hna : ¬ actC (s'.cl c) := fun g => by
  rcases g with g | g
  ·rw [h1] at g; cases g
  ·rw [h2] at g; cases g
 refine ⟨⟨v.ops.set n x, updI v.busy e.proc none, v.lost, v.gone⟩, ?_, h.gone, ?_, ?_, ?_, ?_, ?_, ?_, ?_⟩
 ·rw [he, runE_last h.run, hstep]
 ·intro d hd
  have hdc : d ≠ c := fun g => by subst g; rw [h1] at hd; cases hd
  rw [hf d hdc] at hd ⊢
  obtain ⟨m, g1, g2⟩ := h.busy d hd
  have hmn : m ≠ n := fun g => by
   subst g
   have := (hO.busy _ m g1).2.1
   omega
  refine ⟨m, ?_, ?_⟩
  ·show updI v.busy e.proc none (d : Int) = some m
   unfold updI
   rw [if_neg (by omega)]
   exact g1
  ·show fitsOp (oAt (v.ops.set n x) m) _
   rw [ato hmn]; exact g2
 ·intro d hd
  show updI v.busy e.proc none (d : Int) = none
  unfold updI
  by_cases hdc : d = c
  ·rw [if_pos (by omega)]
  ·rw [hf d hdc] at hd
   rw [if_neg (by omega)]
   exact h.idle d hd
 ·intro d hd
  by_cases hdc : d = c
  ·subst hdc; exact h.lost d hgone
  ·rw [hf d hdc] at hd; exact h.lost d hd
 ·intro m hm hr
  have hm : m < (v.ops.set n x).length := hm
  have hr : (oAt (v.ops.set n x) m).ret = -1 := hr
  show ∃ d : Nat, (oAt (v.ops.set n x) m).proc = (d : Int) ∧ _ ∧ fitsOp (oAt (v.ops.set n x) m) _
  have hmn : m ≠ n := fun g => by subst g; rw [atn, hxr] at hr; omega
  rw [ato hmn] at hr ⊢
  obtain ⟨d, d1, d2, d3⟩ := h.pend m (by omega) hr
  have hdc : d ≠ c := fun g => by
   subst g
   rcases Nat.lt_or_ge m n with g | g
   ·have := (hO.order m n g n1 (by omega) (h.gone m)).1; omega
   ·have := (hO.order n m (by omega) (by omega) (by omega) (h.gone n)).1; omega
  exact ⟨d, d1, by rw [hf d hdc]; exact d2, by rw [hf d hdc]; exact d3⟩
 ·intro d hd
  show ∃ m, m < (v.ops.set n x).length ∧ (oAt (v.ops.set n x) m).proc = (d : Int) ∧ (oAt (v.ops.set n x) m).ret = -1 ∧ fitsOp (oAt (v.ops.set n x) m) _
  have hdc : d ≠ c := fun g => by subst g; exact hna hd
  rw [hf d hdc] at hd ⊢
  obtain ⟨m, g1, g2, g3, g4⟩ := h.act d hd
  have hmn : m ≠ n := fun g => by subst g; omega
  exact ⟨m, by omega, by rw [ato hmn]; exact g2, by rw [ato hmn]; exact g3, by rw [ato hmn]; exact g4⟩
 ·intro i e0 hi h0
  rw [he] at hi
  show ∃ m, m < (v.ops.set n x).length ∧ (oAt (v.ops.set n x) m).ret = (i : Int) ∧ (oAt (v.ops.set n x) m).proc = e0.proc ∧ fitsOp (oAt (v.ops.set n x) m) e0 ∧ (oAt (v.ops.set n x) m).res = e0.res
  rcases oE_get (o := some (e, ⟨0, 0, 0⟩)) hi with g | ⟨hil, st, g⟩
  ·obtain ⟨m, g1, g2⟩ := h.done i e0 g h0
   have hmn : m ≠ n := fun g => by subst g; omega
   exact ⟨m, by omega, by rw [ato hmn]; exact g2⟩
  ·injection g with g
   injection g with g1 _
   subst g1
   exact ⟨n, by omega, by rw [atn, hxr, hil], by rw [atn, hxp, hp], by rw [atn]; exact hxf, by rw [atn]; exact hxs⟩
 ·intro m hm hr
  have hm : m < (v.ops.set n x).length := hm
  have hr : 0 ≤ (oAt (v.ops.set n x) m).ret := hr
  show ∃ (i : Nat) (e0 : Ev), s'.evs[i]? = some e0 ∧ e0.ty = 2 ∧ (oAt (v.ops.set n x) m).ret = (i : Int) ∧ (oAt (v.ops.set n x) m).proc = e0.proc ∧ fitsOp (oAt (v.ops.set n x) m) e0 ∧ (oAt (v.ops.set n x) m).res = e0.res
  by_cases hmn : m = n
  ·subst hmn
   exact ⟨s.evs.length, e, by rw [he]; exact List.getElem?_concat_length, hty, by rw [atn, hxr], by rw [atn, hxp, hp], by rw [atn]; exact hxf, by rw [atn]; exact hxs⟩
  ·rw [ato hmn] at hr ⊢
   obtain ⟨i, e0, g1, g2⟩ := h.isd m (by omega) hr
   exact ⟨i, e0, by rw [he]; exact get_app g1 _, g2⟩
theorem hear_ev (s : StS) (j : Nat) (m : SMsg) : ((hearF s j m).evs = s.evs ∧ ∀ i, sameC ((hearF s j m).cl i) (s.cl i)) ∨
  ∃ r : Int, (s.cl m.client).busy = true ∧ (hearF s j m).evs = s.evs ++ [{ (s.cl m.client).began with ty := 2, res := r }] ∧ (∀ i, i ≠ m.client → (hearF s j m).cl i = s.cl i) ∧ ((hearF s j m).cl m.client).busy = false ∧ ((hearF s j m).cl m.client).gone = (s.cl m.client).gone := by
 unfold hearF
 dsimp only
 split
 ·exact .inl ⟨rfl, fun i => ⟨rfl, rfl, rfl⟩⟩
 rename_i hno
 have hbusy : (s.cl m.client).busy = true := by
  cases hb : (s.cl m.client).busy with
  | true => rfl
  | false => exact absurd (.inl hb) hno
 obtain ⟨y1, y2, y3, y4, y5, y6⟩ := heard_same (s.cl m.client) j m
 obtain ⟨c, hc⟩ : ∃ c, m.client = c := ⟨_, rfl⟩
 rw [hc] at hbusy y1 y2 y3 y4 y5 y6 ⊢
 obtain ⟨y, hy⟩ : ∃ y, heardC (s.cl c) j m = y := ⟨_, rfl⟩
 rw [hy] at y1 y2 y3 y4 y5 y6 ⊢
 have hAc : (setCl s c y).cl c = y := if_pos rfl
 have hsame : ∀ i, sameC ((setCl s c y).cl i) (s.cl i) := fun i => by
  by_cases hi : i = c
  ·subst hi; rw [hAc]; exact ⟨y1, y2, y3⟩
  ·rw [show (setCl s c y).cl i = s.cl i from if_neg hi]; exact ⟨rfl, rfl, rfl⟩
 have hdone : ∃ r : Int, (s.cl c).busy = true ∧ (doneS (setCl s c y) c).evs = s.evs ++ [{ (s.cl c).began with ty := 2, res := r }] ∧ (∀ i, i ≠ c → (doneS (setCl s c y) c).cl i = s.cl i) ∧ ((doneS (setCl s c y) c).cl c).busy = false ∧ ((doneS (setCl s c y) c).cl c).gone = (s.cl c).gone := by
  have h1 : (doneS (setCl s c y) c).cl c = { (setCl s c y).cl c with busy := false } := if_pos rfl
  refine ⟨(evD y).res, hbusy, ?_, fun i hi => ?_, by rw [h1], by rw [h1, hAc]; exact y2⟩
  ·show s.evs ++ [evD ((setCl s c y).cl c)] = _
   rw [hAc, ← y3]
   rfl
  ·show (if i = c then _ else if i = c then _ else s.cl i) = s.cl i
   rw [if_neg hi, if_neg hi]
 split
 ·split
  ·exact .inr hdone
  ·exact .inl ⟨rfl, hsame⟩
 ·split
  ·exact .inl ⟨rfl, hsame⟩
  split
  ·have ht2 : (setCl s c (newC y c)).cl c = newC y c := if_pos rfl
   refine .inl ⟨rfl, fun i => ?_⟩
   by_cases hi : i = c
   ·subst hi
    have h1 : (sendF (setCl s i (newC y i)) i 2 (newC y i).best).cl i = roundC (setCl s i (newC y i)) i 2 := if_pos rfl
    rw [h1]
    unfold roundC
    rw [ht2]
    have hnb : (newC y i).busy = y.busy ∧ (newC y i).gone = y.gone ∧ (newC y i).began = y.began := by
     unfold newC; split <;> exact ⟨rfl, rfl, rfl⟩
    exact ⟨hnb.1.trans y1, hnb.2.1.trans y2, hnb.2.2.trans y3⟩
   ·have h1 : (sendF (setCl s c (newC y c)) c 2 (newC y c).best).cl i = s.cl i := by
     show (if i = c then _ else if i = c then _ else s.cl i) = s.cl i
     rw [if_neg hi, if_neg hi]
    rw [h1]
    exact ⟨rfl, rfl, rfl⟩
  ·rename_i hkb
   have hk2 : ¬ y.began.kind = 2 := fun g => hkb (.inl (by rw [← y3]; exact g))
   have hx2 : newC y c = y := by unfold newC; rw [if_neg hk2]
   rw [hx2]
   exact .inr hdone
theorem hear_k (s : StS) (j : Nat) (m : SMsg) : (hearF s j m).k = s.k := by
 unfold hearF
 dsimp only
 repeat' split
 all_goals rfl
theorem Mv.k {s s' : StS} (h : Mv s s') : s'.k = s.k := by
 rcases h with ⟨ms, _, rfl⟩ | ⟨c, key, write, value, _, _, _, _, _, rfl⟩ | ⟨c, _, _, rfl⟩ | ⟨j, m, _, rfl⟩
 ·rfl
 ·rfl
 ·rfl
 ·unfold deliverF
  dsimp only
  split
  ·rfl
  ·exact hear_k _ _ _
theorem SeeR.mv {s s' : StS} {v : SeeS} (h : SeeR s v) (hS : SInv s) (hV : SVal s) (hk : s.k ≤ 8) (hm : Mv s s') : ∃ v', SeeR s' v' := by
 have hV' := hV.mv hS hm
 have hS' := hS.mv hm
 rcases hm with ⟨ms, h1, rfl⟩ | ⟨c, key, write, value, h1, h2, h3, h4, h5, rfl⟩ | ⟨c, h1, h2, rfl⟩ | ⟨j, m, h1, rfl⟩
 ·exact ⟨v, h.same rfl fun i => ⟨rfl, rfl, rfl⟩⟩
 ·obtain ⟨t, ht⟩ : ∃ t, setCl (obsF s (evB c key write value) ⟨0, 0, 0⟩) c { s.cl c with busy := true, began := evB c key write value, best := ⟨0, -2, 0⟩ } = t := ⟨_, rfl⟩
  have htc : t.cl c = { s.cl c with busy := true, began := evB c key write value, best := ⟨0, -2, 0⟩ } := by rw [← ht]; exact if_pos rfl
  have hbf : begS s c key write value = sendF t c 1 ⟨0, 0, 0⟩ := by rw [← ht]; rfl
  have hcc : (sendF t c 1 ⟨0, 0, 0⟩).cl c = roundC t c 1 := if_pos rfl
  rw [hbf]
  refine h.begin c (evB c key write value) h2 h3 rfl rfl (evOk_of ?_ ?_ ?_ rfl ?_ ?_ ?_ (.inl rfl)) ?_ (fun i hi => ?_) ?_ ?_ ?_
  ·show 0 ≤ (c : Int) ∧ (c : Int) ≤ 7; omega
  ·show 0 ≤ (key : Int) ∧ (key : Int) ≤ 7; omega
  ·show -1000000 ≤ (if write = true then value else 0) ∧ (if write = true then value else 0) ≤ (1000000 : Int)
   split <;> omega
  ·show -1000000 ≤ (0 : Int) ∧ (0 : Int) ≤ 1000000; omega
  ·show 1 ≤ (1 : Int) ∧ (1 : Int) ≤ 4; omega
  ·show 1 ≤ (if write = true then (2 : Int) else 1) ∧ (if write = true then (2 : Int) else 1) ≤ 12
   split <;> omega
  ·rw [← ht]; rfl
  ·rw [← ht]
   show (if i = c then _ else if i = c then _ else s.cl i) = s.cl i
   rw [if_neg hi, if_neg hi]
  ·rw [hcc]; unfold roundC; rw [htc]
  ·rw [hcc]; unfold roundC; rw [htc]; exact h3
  ·rw [hcc]; unfold roundC; rw [htc]
 ·have hC := hV.cl c (.inl h2)
  have hb := hS.bkey c (.inl h2)
  have hcl := hC.lt
  refine h.give c { (s.cl c).began with ty := 4 } h2 rfl hb.2.2.1 ⟨rfl, rfl, rfl, rfl⟩ (evOk_of ?_ ?_ ⟨hC.lo, hC.hi⟩ hC.b0 ?_ ?_ ?_ (.inl hb.2.2.2.1)) rfl (fun i hi => if_neg hi) ?_ ?_ ?_
  ·show 0 ≤ (s.cl c).began.proc ∧ (s.cl c).began.proc ≤ 7
   have := hb.2.2.1; omega
  ·show 0 ≤ (s.cl c).began.key ∧ (s.cl c).began.key ≤ 7
   have := hb.1; have := hC.key; omega
  ·show -1000000 ≤ (s.cl c).began.res ∧ (s.cl c).began.res ≤ 1000000
   have := hb.2.2.2.1; omega
  ·show 1 ≤ (4 : Int) ∧ (4 : Int) ≤ 4; omega
  ·show 1 ≤ (s.cl c).began.kind ∧ (s.cl c).began.kind ≤ 12
   have := hb.2.2.2.2; omega
  all_goals
   rw [show (giveF s c).cl c = { s.cl c with busy := false, gone := true } from if_pos rfl]
 ·unfold deliverF at hV' hS' ⊢
  dsimp only at hV' hS' ⊢
  split at hV'
  ·rename_i hd
   rw [if_pos hd]
   exact ⟨v, h.same rfl fun i => ⟨rfl, rfl, rfl⟩⟩
  ·rename_i hd
   rw [if_neg hd] at hS' ⊢
   rcases hear_ev { s with mails := s.mails.eraseIdx j } m.src m.m with ⟨g1, g2⟩ | ⟨r, g1, g2, g3, g4, g5⟩
   ·exact ⟨v, h.same g1 g2⟩
   ·have g1 : (s.cl m.m.client).busy = true := g1
    have hC := hV.cl _ (.inl g1)
    have hb := hS.bkey _ (.inl g1)
    have hcl := hC.lt
    have hlast : (hearF { s with mails := s.mails.eraseIdx j } m.src m.m).evs[s.evs.length]? = some { (s.cl m.m.client).began with ty := 2, res := r } := by rw [g2]; exact List.getElem?_concat_length
    have hsl : s.evs.length < (hearF { s with mails := s.mails.eraseIdx j } m.src m.m).sts.length := by
     rw [← hS'.len]
     exact (List.getElem?_eq_some_iff.1 hlast).1
    obtain ⟨_, _, hr1, hr2⟩ := hV'.ev _ _ _ hlast (List.getElem?_eq_getElem hsl) rfl
    have hg := hS.ng _ g1
    refine h.fin m.m.client { (s.cl m.m.client).began with ty := 2, res := r } g1 hg rfl hb.2.2.1 ⟨rfl, rfl, rfl, rfl⟩ (evOk_of ?_ ?_ ⟨hC.lo, hC.hi⟩ hC.b0 ⟨hr1, hr2⟩ ?_ ?_ (.inr rfl)) g2 g3 g4 (g5.trans hg)
    ·show 0 ≤ (s.cl m.m.client).began.proc ∧ (s.cl m.m.client).began.proc ≤ 7
     have := hb.2.2.1; omega
    ·show 0 ≤ (s.cl m.m.client).began.key ∧ (s.cl m.m.client).began.key ≤ 7
     have := hb.1; have := hC.key; omega
    ·show 1 ≤ (2 : Int) ∧ (2 : Int) ≤ 4; omega
    ·show 1 ≤ (s.cl m.m.client).began.kind ∧ (s.cl m.m.client).began.kind ≤ 12
     have := hb.2.2.2.2; omega
theorem SeeR.s0 {n k a t : Nat} {b : Bool} : SeeR (s0 n k a t b) initE where
 run := rfl
 gone := fun n => rfl
 busy := fun c g => by cases g
 idle := fun c _ => rfl
 lost := fun c _ => rfl
 pend := fun n hn => absurd hn (Nat.not_lt_zero n)
 act := fun c g => by rcases g with g | g <;> cases g
 done := fun i e g => by cases g
 isd := fun n hn => absurd hn (Nat.not_lt_zero n)
/-- All that holds of what is reached. -/
theorem reach_all {n k a t : Nat} {b : Bool} (hs : SetOk n k a t) (hq : n < a + t) {s : StS} (hm : MvS (s0 n k a t b) s) : SInv s ∧ SVal s ∧ s.k ≤ 8 ∧ ∃ v, SeeR s v := by
 have h0 : SInv (s0 n k a t b) ∧ SVal (s0 n k a t b) ∧ (s0 n k a t b).k ≤ 8 ∧ ∃ v, SeeR (s0 n k a t b) v := by
  unfold SetOk at hs
  exact ⟨SInv.s0 hq, SVal.s0 (by omega), by show k ≤ 8; omega, initE, SeeR.s0⟩
 induction hm with
 | refl => exact h0
 | step _ m ih =>
  obtain ⟨h1, h2, h3, v, h4⟩ := ih
  exact ⟨h1.mv m, h2.mv h1 m, by rw [m.k]; exact h3, h4.mv h1 h2 h3 m⟩
def opE (s : StS) (v : SeeS) (x : Nat) : Bool := decide (x < v.ops.length) && (decide (0 ≤ (oAt v.ops x).ret) || (decide ((oAt v.ops x).kind = 2) && (s.cl (oAt v.ops x).proc.toNat).telling))
def opS (s : StS) (v : SeeS) (x : Nat) : SEnt := if 0 ≤ (oAt v.ops x).ret then s.sts.getD (oAt v.ops x).ret.toNat ⟨0, 0, 0⟩ else (s.cl (oAt v.ops x).proc.toNat).best
/-- An op that counts: over, or a write that is being told. -/
structure OpD (s : StS) (v : SeeS) (x i : Nat) (e : Ev) (st : SEnt) : Prop where
 ev : s.evs[i]? = some e
 sst : s.sts[i]? = some st
 ty : e.ty = 2
 ret : (oAt v.ops x).ret = (i : Int)
 proc : (oAt v.ops x).proc = e.proc
 fit : fitsOp (oAt v.ops x) e
 res : (oAt v.ops x).res = e.res
 is : opS s v x = st
structure OpP (s : StS) (v : SeeS) (x c : Nat) : Prop where
 ret : (oAt v.ops x).ret = -1
 proc : (oAt v.ops x).proc = (c : Int)
 kind : (oAt v.ops x).kind = 2
 act : actC (s.cl c)
 tell : (s.cl c).telling = true
 fit : fitsOp (oAt v.ops x) (s.cl c).began
 is : opS s v x = (s.cl c).best
section
variable {s : StS} {v : SeeS}
theorem opE_cases (hS : SInv s) (hR : SeeR s v) {x : Nat} (h : opE s v x = true) : x < v.ops.length ∧ ((∃ i e st, OpD s v x i e st) ∨ ∃ c, OpP s v x c) := by
 unfold opE at h
 rw [Bool.and_eq_true] at h
 have hx := of_decide_eq_true h.1
 refine ⟨hx, ?_⟩
 by_cases hr : 0 ≤ (oAt v.ops x).ret
 ·obtain ⟨i, e, g1, g2, g3, g4, g5, g6⟩ := hR.isd x hx hr
  have hi := (List.getElem?_eq_some_iff.1 g1).1
  have hs : s.sts[i]? = some (s.sts[i]'(by have := hS.len; omega)) := List.getElem?_eq_getElem _
  refine .inl ⟨i, e, _, g1, hs, g2, g3, g4, g5, g6, ?_⟩
  unfold opS
  rw [if_pos hr, g3, Int.toNat_natCast, List.getD_eq_getElem?_getD, hs]
  rfl
 ·have h2 := h.2
  rw [decide_eq_false hr, Bool.false_or, Bool.and_eq_true] at h2
  have hret : (oAt v.ops x).ret = -1 := by
   rcases hR.ok.ret x hx with g | ⟨r, _, g, _⟩
   ·exact g.1
   ·omega
  obtain ⟨c, g1, g2, g3⟩ := hR.pend x hx hret
  have htn : (oAt v.ops x).proc.toNat = c := by omega
  refine .inr ⟨c, hret, g1, of_decide_eq_true h2.1, g2, by rw [← htn]; exact h2.2, g3, ?_⟩
  unfold opS
  rw [if_neg hr, htn]
theorem opE_done {x : Nat} (hx : x < v.ops.length) (hr : 0 ≤ (oAt v.ops x).ret) : opE s v x = true := by
 unfold opE
 rw [decide_eq_true hx, decide_eq_true hr]
 rfl
theorem opE_pend {x c : Nat} (hx : x < v.ops.length) (hp : (oAt v.ops x).proc = (c : Int)) (hk : (oAt v.ops x).kind = 2) (ht : (s.cl c).telling = true) : opE s v x = true := by
 have htn : (oAt v.ops x).proc.toNat = c := by omega
 unfold opE
 rw [decide_eq_true hx, decide_eq_true hk, htn, ht]
 simp
theorem pend_one (hR : SeeR s v) {x y : Nat} (hx : x < v.ops.length) (hy : y < v.ops.length) (h1 : (oAt v.ops x).ret = -1) (h2 : (oAt v.ops y).ret = -1) (hp : (oAt v.ops x).proc = (oAt v.ops y).proc) : x = y := by
 rcases Nat.lt_trichotomy x y with g | g | g
 ·have := (hR.ok.order x y g hy hp (hR.gone x)).1; omega
 ·exact g
 ·have := (hR.ok.order y x g hx hp.symm (hR.gone y)).1; omega
/-- What is over is older than what began behind it and is told. -/
theorem pend_less (hS : SInv s) {i c : Nat} {e : Ev} {st : SEnt} (he : s.evs[i]? = some e) (hs : s.sts[i]? = some st) (hst : StrongE s e) (hk : (s.cl c).began.key = e.key) (ha : actC (s.cl c)) (ht : (s.cl c).telling = true) (hA : After s.evs i c) (hk2 : (s.cl c).began.kind = 2) : st.less (s.cl c).best := by
 obtain ⟨Q, q⟩ := hS.strong i e st he hs hst
 exact (q.d c ha ht hk hA).2 hk2
theorem reg_ops (hS : SInv s) (hV : SVal s) (hR : SeeR s v) (hb : s.back = true) : RegOps v.ops (opE s v) (fun x => (opS s v x).t) (fun x => (opS s v x).c) := by
 have hO := hR.ok
 have hcall : ∀ x, x < v.ops.length → ∃ (c : Nat) (e : Ev), (oAt v.ops x).call = (c : Int) ∧ s.evs[c]? = some e ∧ e.ty = 1 ∧ e.proc = (oAt v.ops x).proc := fun x hx => by
  obtain ⟨c, _, g2, e, g3, g4, _, g5, _⟩ := hO.called x hx
  exact ⟨c, e, g2, g3, g4, g5⟩
 exact {
  lt := fun x h => (opE_cases hS hR h).1
  all := fun x hx hr => opE_done hx hr
  kind := fun x h => by
   obtain ⟨hx, ⟨i, e, st, d⟩ | ⟨c, d⟩⟩ := opE_cases hS hR h
   ·have := (hS.pro i e d.ev d.ty).2.2
    have := d.fit.2.1
    omega
   ·exact .inr d.kind
  pend := fun x h hr => by
   obtain ⟨hx, ⟨i, e, st, d⟩ | ⟨c, d⟩⟩ := opE_cases hS hR h
   ·have := d.ret; omega
   ·exact d.kind
  key := fun x h => by
   obtain ⟨hx, ⟨i, e, st, d⟩ | ⟨c, d⟩⟩ := opE_cases hS hR h
   ·have := (hS.pro i e d.ev d.ty).2.1
    have := d.fit.1
    omega
   ·have := (hS.bkey c d.act).1
    have := d.fit.1
    omega
  call := fun x h => by
   obtain ⟨c, e, g, _⟩ := hcall x (opE_cases hS hR h).1
   omega
  rise := hO.rise
  ret := fun x h hr => by
   rcases hO.ret x (opE_cases hS hR h).1 with g | ⟨r, _, g1, g2, _⟩
   ·omega
   ·omega
  nret := fun x y hx hy hr he => by
   obtain ⟨_, ⟨i, e, st, d⟩ | ⟨c, d⟩⟩ := opE_cases hS hR hx
   ·obtain ⟨c, e', g1, g2, g3, _⟩ := hcall y (opE_cases hS hR hy).1
    have hic : i = c := by have := d.ret; omega
    subst hic
    have := d.ev
    rw [g2] at this
    injection this with this
    have h2 := d.ty
    rw [← this] at h2
    omega
   ·have := d.ret; omega
  mono := fun x y hx hy hk hr hlt => by
   obtain ⟨_, ⟨i, e, st, d⟩ | ⟨c, d⟩⟩ := opE_cases hS hR hx
   rotate_left
   ·have := d.ret; omega
   obtain ⟨hyl, hyc⟩ := opE_cases hS hR hy
   obtain ⟨b, eb, b1, b2, b3, b4⟩ := hcall y hyl
   have hib : i < b := by have := d.ret; omega
   show ((opS s v x).t < (opS s v y).t ∨ ((opS s v x).t = (opS s v y).t ∧ (opS s v x).c < (opS s v y).c)) ∨ ((oAt v.ops y).kind ≠ 2 ∧ (opS s v x).t = (opS s v y).t ∧ (opS s v x).c = (opS s v y).c)
   rw [d.is]
   rcases hyc with ⟨k, e', st', d'⟩ | ⟨c, d'⟩
   ·rw [d'.is]
    have hbk : b < k := by
     rcases hO.ret y hyl with g | ⟨r, _, g1, g2, _⟩
     ·have := d'.ret; omega
     ·have := d'.ret; omega
    have hl := hS.freshLaw (show i < k by omega) d.ev d'.ev d.sst d'.sst d.ty (.inr hb) d'.ty (by have := d.fit.1; have := d'.fit.1; omega) (by omega) b2 b3 (b4.trans d'.proc) hib
    by_cases hk2 : e'.kind = 2
    ·exact .inl (hl.2 hk2)
    ·have hne : (oAt v.ops y).kind ≠ 2 := fun g => hk2 (by rw [← d'.fit.2.1]; exact g)
     rcases hl.1 with g | ⟨g1, g2⟩
     ·exact .inl (.inl g)
     ·by_cases g3 : st.c = st'.c
      ·exact .inr ⟨hne, g1, g3⟩
      ·exact .inl (.inr ⟨g1, by omega⟩)
   ·rw [d'.is]
    exact .inl (pend_less hS d.ev d.sst ⟨d.ty, .inr hb⟩ (by have := d.fit.1; have := d'.fit.1; omega) d'.act d'.tell ⟨b, eb, hib, b2, b3, by have := d'.proc; omega⟩ (by rw [← d'.fit.2.1]; exact d'.kind))
  one := fun x y hx hy hk1 hk2 hk ht hc => by
   have ht : (opS s v x).t = (opS s v y).t := ht
   have hc : (opS s v x).c = (opS s v y).c := hc
   have hmix : ∀ {x y : Nat} {i : Nat} {e : Ev} {st : SEnt} {c : Nat}, OpD s v x i e st → OpP s v y c → (oAt v.ops x).kind = 2 → (oAt v.ops x).key = (oAt v.ops y).key → (opS s v x).t = (opS s v y).t → (opS s v x).c = (opS s v y).c → False := by
    intro x y i e st c d d' hk1 hk ht hc
    rw [d.is, d'.is] at ht hc
    have hke : e.kind = 2 := by rw [← d.fit.2.1]; exact hk1
    have hkc : (s.cl c).began.kind = 2 := by rw [← d'.fit.2.1]; exact d'.kind
    have h5 := hS.s5 i e st d.ev d.sst d.ty hke
    have h6 := (hS.s6 c d'.act d'.tell hkc).1
    have hl := pend_less hS d.ev d.sst ⟨d.ty, .inl hke⟩ (by have := d.fit.1; have := d'.fit.1; omega) d'.act d'.tell (hS.aft c d'.act i e d.ev d.ty (by omega)) hkc
    rcases hl with g | ⟨_, g⟩ <;> omega
   obtain ⟨hxl, ⟨i, e, st, d⟩ | ⟨c, d⟩⟩ := opE_cases hS hR hx
   ·obtain ⟨hyl, ⟨k, e', st', d'⟩ | ⟨c', d'⟩⟩ := opE_cases hS hR hy
    ·rw [d.is, d'.is] at ht hc
     have hik := hS.once d.ev d'.ev d.sst d'.sst d.ty (by rw [← d.fit.2.1]; exact hk1) d'.ty (by rw [← d'.fit.2.1]; exact hk2) (by have := d.fit.1; have := d'.fit.1; omega) ht hc
     have hr1 := d.ret
     have hr2 := d'.ret
     rcases Nat.lt_trichotomy x y with g | g | g
     ·exact absurd (by omega) (hO.once x y g hyl (by omega))
     ·exact g
     ·exact absurd (by omega) (hO.once y x g hxl (by omega))
    ·exact (hmix d d' hk1 hk ht hc).elim
   ·obtain ⟨hyl, ⟨k, e', st', d'⟩ | ⟨c', d'⟩⟩ := opE_cases hS hR hy
    ·exact (hmix d' d hk2 hk.symm ht.symm hc.symm).elim
    ·rw [d.is, d'.is] at hc
     have h6 := (hS.s6 c d.act d.tell (by rw [← d.fit.2.1]; exact d.kind)).1
     have h6' := (hS.s6 c' d'.act d'.tell (by rw [← d'.fit.2.1]; exact d'.kind)).1
     exact pend_one hR hxl hyl d.ret d'.ret (by have := d.proc; have := d'.proc; omega)
  wres := fun x hx hk hr => by
   obtain ⟨_, ⟨i, e, st, d⟩ | ⟨c, d⟩⟩ := opE_cases hS hR hx
   ·rw [d.res]
    exact ((hV.ev i e st d.ev d.sst d.ty).2.1 (by rw [← d.fit.2.1]; exact hk)).2
   ·have := d.ret; omega
  src := fun x hx hk h0 => by
   obtain ⟨hxl, ⟨i, e, st, d⟩ | ⟨c, d⟩⟩ := opE_cases hS hR hx
   rotate_left
   ·have := d.kind; omega
   have h0 : 0 ≤ (opS s v x).c := h0
   show ∃ w, opE s v w = true ∧ _ ∧ _ ∧ (opS s v w).t = (opS s v x).t ∧ (opS s v w).c = (opS s v x).c ∧ _
   rw [d.is] at h0 ⊢
   have hp := hS.pro i e d.ev d.ty
   rcases hS.s4 i e st d.ev d.sst d.ty (by rw [← d.fit.2.1]; exact hk) h0 with ⟨i', ev, st2, g1, g2, g3, g4, g5, g6, g7, g8⟩ | ⟨c, g1, g2, g3, g4, g5⟩
   ·have g6 : st2.t = st.t := g6
    have g7 : st2.c = st.c := g7
    have g8 : ev.a = e.res := g8
    obtain ⟨w, w1, w2, w3, w4, w5⟩ := hR.done i' ev g1 g3
    have hE : opE s v w = true := opE_done w1 (by omega)
    have hsw : opS s v w = st2 := by
     unfold opS
     rw [if_pos (by omega), w2, Int.toNat_natCast, List.getD_eq_getElem?_getD, g2]
     rfl
    refine ⟨w, hE, w4.2.1.trans g4, ?_, by rw [hsw]; exact g6, by rw [hsw]; exact g7, ?_⟩
    ·have := w4.1; have := d.fit.1; omega
    ·rw [w4.2.2.1, g8, d.res]
   ·obtain ⟨w, w1, w2, w3, w4⟩ := hR.act c g1
    have hkw : (oAt v.ops w).kind = 2 := w4.2.1.trans g3
    have hE : opE s v w = true := opE_pend w1 w2 hkw g2
    have htn : (oAt v.ops w).proc.toNat = c := by omega
    have hsw : opS s v w = (s.cl c).best := by
     unfold opS
     rw [if_neg (by omega), htn]
    have hv := (hS.s6 c g1 g2 g3).2
    refine ⟨w, hE, hkw, ?_, by rw [hsw, g5], by rw [hsw, g5], ?_⟩
    ·have := w4.1; have := d.fit.1; omega
    ·rw [w4.2.2.1, ← hv, g5, d.res]
  zero := fun x hx hk h0 => by
   obtain ⟨hxl, ⟨i, e, st, d⟩ | ⟨c, d⟩⟩ := opE_cases hS hR hx
   rotate_left
   ·have := d.kind; omega
   have h0 : (opS s v x).c < 0 := h0
   show _ ∧ ∀ w, opE s v w = true → _ → _ → (opS s v x).t < (opS s v w).t ∨ ((opS s v x).t = (opS s v w).t ∧ (opS s v x).c < (opS s v w).c)
   rw [d.is] at h0 ⊢
   obtain ⟨z1, z2, z3⟩ := (hV.ev i e st d.ev d.sst d.ty).1 (by rw [← d.fit.2.1]; exact hk) h0
   refine ⟨d.res.trans z3, fun w hw hkw _ => .inl ?_⟩
   obtain ⟨_, ⟨k, e', st', d'⟩ | ⟨c', d'⟩⟩ := opE_cases hS hR hw
   ·rw [d'.is]
    have := ((hV.ev k e' st' d'.ev d'.sst d'.ty).2.1 (by rw [← d'.fit.2.1]; exact hkw)).1
    omega
   ·rw [d'.is]
    have h6 := (hS.s6 c' d'.act d'.tell (by rw [← d'.fit.2.1]; exact d'.kind)).1
    have := (hV.cl c' d'.act).best.1.t1 (by omega)
    omega }
theorem outF_all (hR : SeeR s v) : outF v = v.ops := by
 have h1 : keptF v v.ops.length = List.range v.ops.length := by
  unfold keptF
  refine List.filter_eq_self.2 fun n _ => ?_
  have := hR.gone n
  unfold goneAt at this
  rw [this]
  rfl
 unfold outF
 rw [h1]
 refine List.ext_getElem? fun i => ?_
 by_cases hi : i < v.ops.length
 ·rw [List.getElem?_map, List.getElem?_range hi, List.getElem?_eq_getElem hi]
  simp [oAt, List.getD, hi]
 ·rw [List.getElem?_eq_none (by simp; omega), List.getElem?_eq_none (by omega)]
/-- Where the quorums meet and readers tell, there is an order that shows what was seen. -/
theorem linear_law (hS : SInv s) (hV : SVal s) (hR : SeeR s v) (hb : s.back = true) (hl : s.evs.length ≤ 120) : evF s.evs = some v.ops ∧ (v.ops.length ≤ 40 → OkLin 1 v.ops 20000) ∧ ∃ order, ShowsP 1 v.ops order := by
 refine ⟨?_, fun h40 => ?_, _, reg_shows (reg_ops hS hV hR hb)⟩
 ·unfold evF
  rw [if_pos hl, hR.run]
  show some (outF v) = _
  rw [outF_all hR]
 ·refine ⟨by omega, by omega, by omega, by omega, ?_, fun k hk => ?_⟩
  ·have := out_ok hR.ok hl (by rw [outF_all hR]; exact h40)
   rwa [outF_all hR] at this
  ·rcases hR.ok.ret k hk with g | ⟨r, g1, g2, _⟩
   ·obtain ⟨c, c1, c2, c3⟩ := hR.pend k hk g.1
    have := (hS.bkey c c2).2.2.2.2
    rw [c3.2.1]
    rcases this with e | e <;> rw [e] <;> rfl
   ·obtain ⟨i, e, e1, e2, e3, e4, e5, e6⟩ := hR.isd k hk (by omega)
    have := (hS.pro i e e1 e2).2.2
    rw [e5.2.1]
    rcases this with e | e <;> rw [e] <;> rfl
end
theorem hear_back (s : StS) (j : Nat) (m : SMsg) : (hearF s j m).back = s.back := by
 unfold hearF
 dsimp only
 repeat' split
 all_goals rfl
theorem Mv.back {s s' : StS} (h : Mv s s') : s'.back = s.back := by
 rcases h with ⟨ms, _, rfl⟩ | ⟨c, key, write, value, _, _, _, _, _, rfl⟩ | ⟨c, _, _, rfl⟩ | ⟨j, m, _, rfl⟩
 ·rfl
 ·rfl
 ·rfl
 ·unfold deliverF
  dsimp only
  split
  ·rfl
  ·exact hear_back _ _ _
theorem MvS.back {s s' : StS} (h : MvS s s') : s'.back = s.back := by
 induction h with
 | refl => rfl
 | step _ k ih => exact k.back.trans ih
theorem MvS.trans {a b c : StS} (h : MvS a b) (k : MvS b c) : MvS a c := by
 induction k with
 | refl => exact h
 | step _ m ih => exact .step ih m
theorem MvS.one {a b : StS} (h : Mv a b) : MvS a b := .step (.refl a) h
theorem DelR.mvs {s s' : StS} (h : DelR s s') : MvS s s' := by
 induction h with
 | nil _ => exact .refl _
 | step hm _ ih => exact (MvS.one (.inr (.inr (.inr ⟨0, _, hm, rfl⟩)))).trans ih
theorem BegR.mvs {nums : List Int} {t t' : Tr} {c : Int} {r : Bool} (h : BegR nums t c r t') : MvS t.st t'.st := by
 rcases h with ⟨_, _, rfl⟩ | ⟨_, _, c', hm, rr, g', u', _, h⟩
 ·exact .refl _
 ·rcases h with ⟨_, _, rfl⟩ | ⟨w, k, v, _, ⟨_, _, rfl⟩ | ⟨hok, _, rfl⟩⟩
  ·exact .refl _
  ·exact .refl _
  ·exact MvS.one (.inr (.inl ⟨c', k.toNat, w, v, hm.lt, hm.busy, hm.gone, by have := hok.1; omega, hok.2.1, rfl⟩))
theorem RndR.mvs {nums : List Int} {k i : Nat} {t t' : Tr} {m m' : Bool} (h : RndR nums k i t m t' m') : MvS t.st t'.st := by
 induction h with
 | done => exact .refl _
 | step _ hb _ ih => exact hb.mvs.trans ih
theorem FinR.mvs {nums : List Int} {k : Nat} {t t' : Tr} (h : FinR nums k t t') : MvS t.st t'.st := by
 induction h with
 | last hd hr => exact hd.mvs.trans hr.mvs
 | more hd hr _ ih => exact (hd.mvs.trans hr.mvs).trans ih
/-- A run of a store whose quorums meet, and whose readers tell, is one that something shows. -/
theorem run_law {nums : List Int} {n k a t : Nat} {gen : List UInt8} {t2 : Tr} (hs : SetOk n k a t) (hq : n < a + t) (h : RunTo nums n k a t true gen t2) (hl : t2.st.evs.length ≤ 120) :
  ∃ ops, evF t2.st.evs = some ops ∧ (ops.length ≤ 40 → OkLin 1 ops 20000) ∧ ∃ order, ShowsP 1 ops order := by
 obtain ⟨g, t1, _, h1, _, h2⟩ := h
 have hm := h1.trans h2.mvs
 obtain ⟨hS, hV, -, v, hR⟩ := reach_all hs hq hm
 obtain ⟨hE, hOk, ord, hsh⟩ := linear_law hS hV hR hm.back hl
 exact ⟨v.ops, hE, hOk, ord, hsh⟩
end Go.Proofs.YthndpiopbdecfaaGreatDoor
namespace Go.Proofs.YthndpiopbdecfaaGreatDoor
open Go.RowKit
set_option linter.unusedVariables false
set_option linter.unusedSimpArgs false
set_option maxHeartbeats 8000000 in
theorem farmSound_any (n k a t : Int) (bk : Bool) (title gen : List UInt8) (bud : Int) (A : Option Addr) (len cp : Nat) (nums : List Int) (D : Nat → Prop) (w0 : World) (hN : Ints w0 D (.slice A len cp) nums) (hG : FaG w0) (hM : MaxOk w0) :
  Calls Tryz.prog 3 #[.agg #[.int .i64 n, .int .i64 k, .int .i64 a, .int .i64 t, .bool bk, strV title, strV gen, .int .i64 bud], .slice A len cp] w0 fun en w' => en = .returned (.bool true) ∧ Pure w0 w' := by
 have hI := Inv.start (fun _ => False) w0
 have hln : len = nums.length := by
  obtain ⟨A', c', hv, _⟩ := hN
  injection hv
 subst hln
 refine Vl Tryz.f3.ntmps Tryz.func3 rfl ?_
 refine W_seq (W_region (T3 (.agg _) (#[_, _, _, _, _, _, _, _]) hI rfl ?_))
 clear hI; rintro b2 w - - hI
 refine V4 rfl (WL_nil ?_)
 by_cases h1 : 250 < nums.length
 ·refine W_seq (W_seq (W_region (Vg rfl (Vt rfl Tryz.underlying26 rfl (Tm rfl (V2 rfl (V1 rfl (V1 rfl (V1 rfl (V1 rfl (Vd rfl (WL_nil (W_cond true rfl ?_)))))))))))))
  refine W_seq (W_region (V4 rfl (WL_nil ?_)))
  refine W_ret ?_
  exact ret1 4 (.inr rfl) rfl ⟨rfl, hI.pu⟩
 by_cases h2 : 500 < gen.length
 ·refine W_seq (W_seq (W_region (Vg rfl (Vt rfl Tryz.underlying26 rfl (Tc rfl (V2 rfl (V5 6 rfl (V3 (.string _) rfl (hI.c0 rfl) (To rfl Tryz.underlying9 rfl (Tm rfl (V9 rfl (WL_nil (W_cond true rfl ?_)))))))))))))
  refine W_seq (W_region (V4 rfl (WL_nil ?_)))
  refine W_ret ?_
  exact ret1 4 (.inr rfl) rfl ⟨rfl, hI.pu⟩
 refine W_seq (W_seq (W_region (Vg rfl (Vt rfl Tryz.underlying26 rfl (Tc rfl (V2 rfl (V5 6 rfl (V3 (.string _) rfl (hI.c0 rfl) (To rfl Tryz.underlying9 rfl (Tc rfl (V9 rfl (WL_nil (W_cond false rfl ?_)))))))))))))
 refine W_skip (W_seq (W_region (V5 0 rfl (V5 4 rfl ?_))))
 refine WL_st0 (u := .bool _) hI rfl rfl rfl rfl rfl rfl (by kernel_rfl) rfl rfl rfl ?_
 clear hI; intro w hI
 refine V5 7 rfl ?_
 refine WL_st0 (u := .int .i64 _) hI rfl rfl rfl rfl rfl rfl (by kernel_rfl) rfl rfl rfl ?_
 clear hI; intro w hI
 refine WL_nil ?_
 replace hI : Inv (fun _ => False) w0 _ [B b2 25 #[.int .i64 n, .int .i64 k, .int .i64 a, .int .i64 t, .bool true, strV title, strV gen, .int .i64 3000]] := hI
 have hSet : ∀ (w : World) (H : List Ent), Inv (fun _ => False) w0 w (B b2 25 #[.int .i64 n, .int .i64 k, .int .i64 a, .int .i64 t, .bool true, strV title, strV gen, .int .i64 3000] :: H) → ∀ (j : Nat) (u : Value), [.int .i64 n, .int .i64 k, .int .i64 a, .int .i64 t, .bool true][j]? = some u → w.cell? ⟨b2, 0 + j, none⟩ = some u := by
  intro w H hI j u hj
  rw [Nat.zero_add]
  refine hI.c0 ?_
  match j, hj with
  | 0, h => exact h
  | 1, h => exact h
  | 2, h => exact h
  | 3, h => exact h
  | 4, h => exact h
  | j + 5, h => simp at h
 by_cases hset : SetOk n k a t
 rotate_left
 ·refine W_seq (W_seq (W_region (V6 [] rfl Tryz.func5 rfl ?_)))
  refine (tried_any _ (hG.pure hI.pu) (hM.pure hI.pu)).mono ?_
  rintro e w1 ⟨rfl, hp⟩
  refine ⟨_, rfl, ?_⟩
  replace hI := hI.pure hp
  refine T7 rfl (V2 rfl (V5 0 rfl (Tt 5 [.int .i64 n, .int .i64 k, .int .i64 a, .int .i64 t, .bool true] rfl (hSet _ _ hI) (V6 [.agg _] rfl Tryz.func6 rfl ?_))))
  refine (scheck_any n k a t true _).mono ?_
  rintro e w2 ⟨⟨hb, _⟩ | ⟨_, z, rfl⟩, hp⟩
  ·exact absurd hb hset
  refine ⟨_, rfl, ?_⟩
  replace hI := hI.pure hp
  refine Tf rfl Tryz.underlying29 rfl (V9 rfl (V2 rfl (V1 rfl (V1 rfl (V1 rfl (V1 rfl (Vd rfl (WL_nil (W_cond true rfl (W_seq (W_region (V6 [] rfl Tryz.func5 rfl ?_))))))))))))
  refine (tried_any _ (hG.pure hI.pu) (hM.pure hI.pu)).mono ?_
  rintro e w1 ⟨rfl, hp⟩
  refine ⟨_, rfl, ?_⟩
  replace hI := hI.pure hp
  refine V4 rfl (WL_nil ?_)
  refine W_ret ?_
  exact ret1 4 (.inr rfl) rfl ⟨rfl, hI.pu⟩
 by_cases hcross : n < a + t
 rotate_left
 ·refine W_seq (W_seq (W_region (V6 [] rfl Tryz.func5 rfl ?_)))
  refine (tried_any _ (hG.pure hI.pu) (hM.pure hI.pu)).mono ?_
  rintro e w1 ⟨rfl, hp⟩
  refine ⟨_, rfl, ?_⟩
  replace hI := hI.pure hp
  refine T7 rfl (V2 rfl (V5 0 rfl (Tt 5 [.int .i64 n, .int .i64 k, .int .i64 a, .int .i64 t, .bool true] rfl (hSet _ _ hI) (V6 [.agg _] rfl Tryz.func6 rfl ?_))))
  refine (scheck_any n k a t true _).mono ?_
  rintro e w2 ⟨⟨_, rfl⟩ | ⟨hb, _⟩, hp⟩
  rotate_left
  ·exact absurd hset hb
  refine ⟨_, rfl, ?_⟩
  replace hI := hI.pure hp
  refine Tb rfl Tryz.underlying29 rfl (V9 rfl (V2 rfl (V5 0 rfl (Tt 5 [.int .i64 n, .int .i64 k, .int .i64 a, .int .i64 t, .bool true] rfl (hSet _ _ hI) (V6 [.agg _] rfl Tryz.func7 rfl ?_)))))
  refine (crossing_any n k a t true _ hset).mono ?_
  rintro e w3 ⟨rfl, hp⟩
  rw [decide_eq_false hcross]
  refine ⟨_, rfl, ?_⟩
  replace hI := hI.pure hp
  refine T9 rfl (V9 rfl (WL_nil (W_cond true rfl (W_seq (W_region (V6 [] rfl Tryz.func5 rfl ?_))))))
  refine (tried_any _ (hG.pure hI.pu) (hM.pure hI.pu)).mono ?_
  rintro e w1 ⟨rfl, hp⟩
  refine ⟨_, rfl, ?_⟩
  replace hI := hI.pure hp
  refine V4 rfl (WL_nil ?_)
  refine W_ret ?_
  exact ret1 4 (.inr rfl) rfl ⟨rfl, hI.pu⟩
 refine W_seq (W_seq (W_region (V6 [] rfl Tryz.func5 rfl ?_)))
 refine (tried_any _ (hG.pure hI.pu) (hM.pure hI.pu)).mono ?_
 rintro e w1 ⟨rfl, hp⟩
 refine ⟨_, rfl, ?_⟩
 replace hI := hI.pure hp
 refine T7 rfl (V2 rfl (V5 0 rfl (Tt 5 [.int .i64 n, .int .i64 k, .int .i64 a, .int .i64 t, .bool true] rfl (hSet _ _ hI) (V6 [.agg _] rfl Tryz.func6 rfl ?_))))
 refine (scheck_any n k a t true _).mono ?_
 rintro e w2 ⟨⟨_, rfl⟩ | ⟨hb, _⟩, hp⟩
 rotate_left
 ·exact absurd hset hb
 refine ⟨_, rfl, ?_⟩
 replace hI := hI.pure hp
 refine Tb rfl Tryz.underlying29 rfl (V9 rfl (V2 rfl (V5 0 rfl (Tt 5 [.int .i64 n, .int .i64 k, .int .i64 a, .int .i64 t, .bool true] rfl (hSet _ _ hI) (V6 [.agg _] rfl Tryz.func7 rfl ?_)))))
 refine (crossing_any n k a t true _ hset).mono ?_
 rintro e w3 ⟨rfl, hp⟩
 rw [decide_eq_true hcross]
 refine ⟨_, rfl, ?_⟩
 replace hI := hI.pure hp
 refine T7 rfl (V9 rfl (WL_nil (W_cond false rfl (W_skip (W_seq (W_region (Tn 8 rfl hI.g0 (Vg rfl (V6 [.agg _, .slice _ _ _] rfl Tryz.func8 rfl ?_)))))))))
 refine (frun_any n k a t true title gen 3000 A _ cp nums D _ (Rd.pure hN hI.pu) (hG.pure hI.pu) (by omega)).mono ?_
 rintro e w1 (⟨_, ⟨T, v, rfl⟩, hp⟩ | ⟨n', k', a', t', t2, ops, A1, c1, A2, c2, rfl, rfl, rfl, rfl, hset', -, hrun, hlen, hev, hok, rfl, hT⟩)
 ·refine ⟨_, rfl, ?_⟩
  replace hI := hI.pure hp
  refine Vv rfl (Vf rfl (Vf rfl (T0 (.agg #[.string ⟨#[]⟩, .slice none 0 0, .int .i64 0, .slice none 0 0, .int .i64 0]) (#[.string ⟨#[]⟩, .slice none 0 0, .int .i64 0, .slice none 0 0, .int .i64 0]) hI rfl ?_)))
  clear hI; rintro b5 w - - hI
  refine T1 5 (#[_, _, _, _, _]) (.agg _) hI rfl ?_
  clear hI; intro w hI
  refine Vk rfl (WL_nil (W_seq (W_region (Vo rfl (Tf rfl Tryz.underlying29 rfl (V2 rfl (V5 2 rfl (Te rfl (V3 (.int .i64 _) rfl (hI.c0 rfl) (Vz rfl (Vd rfl (V2 rfl (V1 rfl ?_)))))))))))))
  refine V1 rfl (V1 rfl (V1 rfl (V1 rfl (V1 rfl (V1 rfl (V1 rfl (Vd rfl (V4 rfl (WL_nil ?_)))))))))
  refine W_ret ?_
  exact ret1 4 (.inr rfl) rfl ⟨rfl, hI.pu⟩
 ·refine ⟨_, rfl, ?_⟩
  replace hI := hI.app2 hT
  obtain ⟨ops', hev', -, ord, hsh⟩ := run_law hset (by omega) hrun hlen
  obtain rfl : ops = ops' := Option.some.inj (hev.symm.trans hev')
  have hni := verd_not_invalid (ab := befB) (argsOk hok) (fun k i hk hi hp => hp) hsh (3000 : Int).toNat
  obtain ⟨R, hR⟩ : ∃ R, verdF 1 ops befB (3000 : Int).toNat = R := ⟨_, rfl⟩
  rw [hR] at hI hni ⊢
  refine Vv rfl (Vf rfl (Vf rfl (T0 (.agg #[.string ⟨#[]⟩, .slice none 0 0, .int .i64 0, .slice none 0 0, .int .i64 0]) (#[.string ⟨#[]⟩, .slice none 0 0, .int .i64 0, .slice none 0 0, .int .i64 0]) hI rfl ?_)))
  clear hI; rintro b5 w - - hI
  refine T1 5 (#[_, _, _, _, _]) (.agg _) hI rfl ?_
  clear hI; intro w hI
  refine Ve rfl (WL_nil (W_seq (W_region (T6 rfl (Tb rfl Tryz.underlying29 rfl (V2 rfl (V1 rfl (V1 rfl (V1 rfl (V1 rfl (V9 rfl (V2 rfl (T6 rfl ?_)))))))))))))
  refine WL_val rfl rfl rfl (by exact rNilEq rfl Tryz.underlying29 rfl) ?_
  refine V2 rfl (V5 2 rfl (Te rfl (V3 (.int .i64 _) rfl (hI.c0 rfl) (Tz rfl (Vd rfl (V9 rfl (V4 rfl (WL_nil ?_))))))))
  refine W_ret ?_
  exact ret1 4 (.inr rfl) rfl ⟨rfl, hI.pu⟩
end Go.Proofs.YthndpiopbdecfaaGreatDoor
