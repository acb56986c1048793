/- store: what the walk leans on, kept by each move. Nothing of the program's code. -/
import Derived.Test.YtglioflpblpmpaaStoG
namespace Go.Proofs.Ytglioflpblpmpaa
open Go.RowKit
set_option linter.unusedVariables false
set_option linter.unusedSimpArgs false
theorem busyN_set {s : SSt} {c : Nat} {x : SCl} : ∀ {k : Nat}, (c < k → busyN (setCl s c x) k + (if (s.cl c).busy = true then 1 else 0) = busyN s k + (if x.busy = true then 1 else 0)) ∧ (k ≤ c → busyN (setCl s c x) k = busyN s k)
  | 0 => ⟨fun h => by omega, fun _ => rfl⟩
  | k + 1 => by
    obtain ⟨h1, h2⟩ := busyN_set (s := s) (c := c) (x := x) (k := k)
    rw [busyN_succ, busyN_succ]
    refine ⟨fun h => ?_, fun h => ?_⟩
    · by_cases hck : c < k
      · rw [show (setCl s c x).cl k = s.cl k from if_neg (by omega)]
        have := h1 hck
        omega
      · obtain rfl : c = k := by omega
        rw [h2 (Nat.le_refl _), setCl_self]
        omega
    · rw [h2 (by omega), show (setCl s c x).cl k = s.cl k from if_neg (by omega)]
theorem busyN_cl {s s' : SSt} (h : s'.cl = s.cl) (k : Nat) : busyN s' k = busyN s k := by unfold busyN; rw [h]
theorem push_len {ms : List SMail} {m : SMail} (h : ms.length ≤ 500) : (pushM ms m).length ≤ 500 := by
  unfold pushM
  split
  · simp; omega
  · exact h
theorem sendTo_len {s : SSt} {c what : Nat} {e : SEnt} (h : s.mails.length ≤ 500) : ∀ j, (sendTo s c what e j).length ≤ 500
  | 0 => h
  | j + 1 => by rw [sendTo_succ]; exact push_len (sendTo_len h j)
section
variable {L L' : StL} {s : SSt} {M M' : Nat}
theorem SOk.mono (h : SOk L s M) (hM : M ≤ M') : SOk L s M' :=
  ⟨h.n1, h.k1, h.ask, h.tell, h.mlen, h.elen, h.slen, h.free, fun m hm => by have := h.mok m hm; exact ⟨this.1, this.2.1, by omega, by omega, this.2.2.2.2⟩, fun c hc => by have := h.cok c hc; exact ⟨by omega, by omega, this.2.2⟩, h.clen, fun j k hj hk => Nat.le_trans (h.eok j k hj hk) hM⟩
theorem SOk.loc (h : SOk L s M) (hw : L'.cw = L.cw) : SOk L' s M :=
  ⟨h.n1, h.k1, h.ask, h.tell, h.mlen, h.elen, h.slen, h.free, h.mok, fun c hc => by rw [hw]; exact h.cok c hc, fun c b hc hb => h.clen c b hc (by rw [← hw]; exact hb), h.eok⟩
theorem SOk.mails (h : SOk L s M) {ms : List SMail} (hm : ∀ m ∈ ms, m ∈ s.mails) (hl : ms.length ≤ 500) : SOk L { s with mails := ms } M :=
  ⟨h.n1, h.k1, h.ask, h.tell, hl, h.elen, h.slen, h.free, fun m hx => h.mok m (hm m hx), h.cok, h.clen, h.eok⟩
theorem SOk.cl (h : SOk L s M) {c : Nat} (hc : c < s.k) {x : SCl} (h1 : x.round ≤ M) (h2 : x.best.t ≤ M) (h3 : x.busy = true → L'.cw c ≠ none ∧ x.counted.length = s.n ∧ 0 ≤ x.began.key ∧ x.began.key < 8) (h4 : ∀ b, L'.cw c = some b → x.counted.length = s.n) (ho : ∀ i, i ≠ c → L'.cw i = L.cw i)
    (h5 : s.evs.length + busyN (setCl s c x) s.k ≤ 120) : SOk L' (setCl s c x) M := by
  have hcl : ∀ i, i ≠ c → (setCl s c x).cl i = s.cl i := fun i hi => if_neg hi
  refine ⟨h.n1, h.k1, h.ask, h.tell, h.mlen, h.elen, h.slen, h5, h.mok, fun i hi => ?_, fun i b hi hb => ?_, h.eok⟩
  · by_cases hic : i = c
    · subst hic; rw [setCl_self]; exact ⟨h1, h2, h3⟩
    · rw [hcl i hic, ho i hic]; exact h.cok i hi
  · by_cases hic : i = c
    · subst hic; rw [setCl_self]; exact h4 b hb
    · rw [hcl i hic]; exact h.clen i b hi (by rw [← ho i hic]; exact hb)
theorem SOk.node (h : SOk L s M) {j : Nat} {m : SMsg} (hj : j < s.n) (hc : m.client < s.k) (hk : m.key < 8) (hr : m.round ≤ M) (ht : m.e.t ≤ M) : SOk L (nodeF s j m) M := by
  have hown : (ownN s j m).t ≤ M := by
    unfold ownN
    split
    · exact ht
    · exact h.eok j m.key hj hk
  refine ⟨h.n1, h.k1, h.ask, h.tell, push_len h.mlen, h.elen, h.slen, h.free, fun x hx => ?_, h.cok, h.clen, fun a b ha hb => ?_⟩
  · rcases mem_push hx with hx | rfl
    · exact h.mok x hx
    · exact ⟨hc, hk, hr, hown, Nat.le_refl _, .inr ⟨hj, rfl⟩⟩
  · show (if a = j ∧ b = m.key then ownN s j m else s.ent a b).t ≤ M
    split
    · exact hown
    · exact h.eok a b ha hb
theorem SOk.send (h : SOk L s M) {c what : Nat} {e : SEnt} (hc : c < s.k) (hw : what ≤ 3) (hr : (s.cl c).round + 1 ≤ M) (he : e.t ≤ M) (hk : 0 ≤ (s.cl c).began.key ∧ (s.cl c).began.key < 8) (hcw : L'.cw c ≠ none) (ho : ∀ i, i ≠ c → L'.cw i = L.cw i) : SOk L' (sendF s c what e) M := by
  have hb := (busyN_set (s := s) (c := c) (x := roundC s c what) (k := s.k)).1 hc
  have hbb : (roundC s c what).busy = (s.cl c).busy := rfl
  rw [hbb] at hb
  have h1 : SOk L' (setCl s c (roundC s c what)) M := h.cl hc hr (h.cok c hc).2.1 (fun _ => ⟨hcw, by simp [roundC], hk⟩) (fun _ _ => by simp [roundC]) ho (by have := h.free; omega)
  refine ⟨h1.n1, h1.k1, h1.ask, h1.tell, sendTo_len h.mlen _, h1.elen, h1.slen, h1.free, fun x hx => ?_, h1.cok, h1.clen, h1.eok⟩
  rcases mem_send hx with hx | ⟨i, hi, rfl⟩
  · exact h.mok x hx
  · exact ⟨hc, by show keyC s c < 8; unfold keyC; omega, hr, he, hw, .inl ⟨hi, rfl⟩⟩
theorem SOk.done (h : SOk L s M) {c : Nat} (hc : c < s.k) (hb : (s.cl c).busy = true) (hw : L'.cw = L.cw) : SOk L' (doneS s c) M := by
  have hbn := (busyN_set (s := obsF s (evD (s.cl c)) ⟨(s.cl c).best.t, (s.cl c).best.c, 0⟩) (c := c) (x := { s.cl c with busy := false }) (k := s.k)).1 hc
  rw [busyN_cl (s := s) (s' := obsF s (evD (s.cl c)) ⟨(s.cl c).best.t, (s.cl c).best.c, 0⟩) rfl] at hbn
  rw [if_pos (show ((obsF s (evD (s.cl c)) ⟨(s.cl c).best.t, (s.cl c).best.c, 0⟩).cl c).busy = true from hb), if_neg (by simp)] at hbn
  have hf := h.free
  have he : (s.evs ++ [evD (s.cl c)]).length = s.evs.length + 1 := by simp
  have hbn' : busyN (doneS s c) s.k + 1 = busyN s s.k + 0 := hbn
  have hcx := h.cok c hc
  refine ⟨h.n1, h.k1, h.ask, h.tell, h.mlen, by show (s.evs ++ [evD (s.cl c)]).length ≤ 120; omega, by show (s.sts ++ [_]).length = (s.evs ++ [evD (s.cl c)]).length; simp [h.slen], by show (s.evs ++ [evD (s.cl c)]).length + busyN (doneS s c) s.k ≤ 120; omega, h.mok, fun i hi => ?_, fun i b hi hbb => ?_, h.eok⟩
  · by_cases hic : i = c
    · subst hic
      rw [show (doneS s i).cl i = { s.cl i with busy := false } from setCl_self]
      exact ⟨hcx.1, hcx.2.1, fun h => by cases h⟩
    · rw [show (doneS s c).cl i = s.cl i from if_neg hic, hw]; exact h.cok i hi
  · rw [hw] at hbb
    by_cases hic : i = c
    · subst hic
      rw [show (doneS s i).cl i = { s.cl i with busy := false } from setCl_self]
      exact h.clen i b hi hbb
    · rw [show (doneS s c).cl i = s.cl i from if_neg hic]; exact h.clen i b hi hbb
theorem SOk.give (h : SOk L s M) {c : Nat} (hc : c < s.k) (hb : (s.cl c).busy = true) (hw : L'.cw = L.cw) : SOk L' (giveF s c) M := by
  have hbn := (busyN_set (s := obsF s { (s.cl c).began with ty := 4 } ⟨0, 0, 0⟩) (c := c) (x := { s.cl c with busy := false, gone := true }) (k := s.k)).1 hc
  rw [busyN_cl (s := s) (s' := obsF s { (s.cl c).began with ty := 4 } ⟨0, 0, 0⟩) rfl] at hbn
  rw [if_pos (show ((obsF s { (s.cl c).began with ty := 4 } ⟨0, 0, 0⟩).cl c).busy = true from hb), if_neg (by simp)] at hbn
  have hf := h.free
  have he : (s.evs ++ [{ (s.cl c).began with ty := 4 }]).length = s.evs.length + 1 := by simp
  have hcx := h.cok c hc
  refine ⟨h.n1, h.k1, h.ask, h.tell, h.mlen, by show (s.evs ++ [{ (s.cl c).began with ty := 4 }]).length ≤ 120; omega, by show (s.sts ++ [_]).length = (s.evs ++ [{ (s.cl c).began with ty := 4 }]).length; simp [h.slen], by show (s.evs ++ [{ (s.cl c).began with ty := 4 }]).length + busyN (giveF s c) s.k ≤ 120; have hbn' : busyN (giveF s c) s.k + 1 = busyN s s.k + 0 := hbn; omega, h.mok, fun i hi => ?_, fun i b hi hbb => ?_, h.eok⟩
  · by_cases hic : i = c
    · subst hic
      rw [show (giveF s i).cl i = { s.cl i with busy := false, gone := true } from setCl_self]
      exact ⟨hcx.1, hcx.2.1, fun h => by cases h⟩
    · rw [show (giveF s c).cl i = s.cl i from if_neg hic, hw]; exact h.cok i hi
  · rw [hw] at hbb
    by_cases hic : i = c
    · subst hic
      rw [show (giveF s i).cl i = { s.cl i with busy := false, gone := true } from setCl_self]
      exact h.clen i b hi hbb
    · rw [show (giveF s c).cl i = s.cl i from if_neg hic]; exact h.clen i b hi hbb
theorem SOk.begin (h : SOk L s M) {c key : Nat} {write : Bool} {value : Int} (hc : c < s.k) (hb : (s.cl c).busy = false) (hroom : s.evs.length + 2 + busyN s s.k ≤ 120) (hk : key < 8) (hcw : L'.cw c ≠ none) (ho : ∀ i, i ≠ c → L'.cw i = L.cw i) : SOk L' (beginF s c key write value) (M + 1) := by
  have hcx := h.cok c hc
  have hbn := (busyN_set (s := obsF s (evB c key write value) ⟨0, 0, 0⟩) (c := c) (x := { (obsF s (evB c key write value) ⟨0, 0, 0⟩).cl c with busy := true, began := evB c key write value, best := ⟨0, -2, 0⟩ }) (k := s.k)).1 hc
  rw [busyN_cl (s := s) (s' := obsF s (evB c key write value) ⟨0, 0, 0⟩) rfl] at hbn
  rw [if_neg (show ¬ ((obsF s (evB c key write value) ⟨0, 0, 0⟩).cl c).busy = true by show ¬ (s.cl c).busy = true; rw [hb]; decide), if_pos rfl] at hbn
  have he : (s.evs ++ [evB c key write value]).length = s.evs.length + 1 := by simp
  -- the state ahead of the round: only the client that begins lacks its row
  obtain ⟨s1, hs1⟩ : ∃ s1, obsF s (evB c key write value) ⟨0, 0, 0⟩ = s1 := ⟨_, rfl⟩
  have hb2 := (busyN_set (s := setCl s1 c { s1.cl c with busy := true, began := evB c key write value, best := ⟨0, -2, 0⟩ }) (c := c) (x := roundC (setCl s1 c { s1.cl c with busy := true, began := evB c key write value, best := ⟨0, -2, 0⟩ }) c 1) (k := s.k)).1 hc
  have hbb : (roundC (setCl s1 c { s1.cl c with busy := true, began := evB c key write value, best := ⟨0, -2, 0⟩ }) c 1).busy = true := by
    show ((setCl s1 c _).cl c).busy = true
    rw [setCl_self]
  rw [setCl_self, if_pos rfl, if_pos hbb] at hb2
  rw [hs1] at hbn
  have hcl1 : s1.cl = s.cl := by rw [← hs1]; rfl
  have hev1 : s1.evs = s.evs ++ [evB c key write value] := by rw [← hs1]; rfl
  have hst1 : s1.sts = s.sts ++ [⟨0, 0, 0⟩] := by rw [← hs1]; rfl
  have hm1 : s1.mails = s.mails := by rw [← hs1]; rfl
  have hn1 : s1.n = s.n ∧ s1.k = s.k ∧ s1.ask = s.ask ∧ s1.tell = s.tell ∧ s1.ent = s.ent := by rw [← hs1]; exact ⟨rfl, rfl, rfl, rfl, rfl⟩
  have hbeg : beginF s c key write value = sendF (setCl s1 c { s1.cl c with busy := true, began := evB c key write value, best := ⟨0, -2, 0⟩ }) c 1 ⟨0, 0, 0⟩ := by rw [← hs1]; rfl
  rw [hbeg]
  obtain ⟨x1, hx1⟩ : ∃ x1, { s1.cl c with busy := true, began := evB c key write value, best := ⟨0, -2, 0⟩ } = x1 := ⟨_, rfl⟩
  rw [hx1] at hb2 hbn ⊢
  have hxr : x1.round ≤ M := by rw [← hx1, hcl1]; exact hcx.1
  have hxb : x1.best.t = 0 := by rw [← hx1]
  have hxk : x1.began.key = (key : Int) := by rw [← hx1]; rfl
  have hR : roundC (setCl s1 c x1) c 1 = { x1 with round := x1.round + 1, telling := decide ((1 : Nat) = 2), counted := List.replicate s1.n false } := by
    unfold roundC
    rw [setCl_self]; rfl
  refine ⟨by show 1 ≤ s1.n ∧ s1.n ≤ 7; rw [hn1.1]; exact h.n1, by show 1 ≤ s1.k ∧ s1.k ≤ 8; rw [hn1.2.1]; exact h.k1, by show 1 ≤ s1.ask ∧ s1.ask ≤ s1.n; rw [hn1.2.2.1, hn1.1]; exact h.ask, by show 1 ≤ s1.tell ∧ s1.tell ≤ s1.n; rw [hn1.2.2.2.1, hn1.1]; exact h.tell, sendTo_len (by show s1.mails.length ≤ 500; rw [hm1]; exact h.mlen) _, by show s1.evs.length ≤ 120; rw [hev1]; omega, by show s1.sts.length = s1.evs.length; rw [hst1, hev1]; simp [h.slen], ?_, fun x hx => ?_, fun i hi => ?_, fun i b hi hbc => ?_, fun a b ha hb' => ?_⟩
  · show s1.evs.length + busyN (setCl (setCl s1 c x1) c (roundC (setCl s1 c x1) c 1)) s1.k ≤ 120
    rw [hev1, hn1.2.1]
    omega
  · rcases mem_send hx with hx | ⟨i, hi, rfl⟩
    · have hx : x ∈ s1.mails := hx
      rw [hm1] at hx
      have := h.mok x hx
      refine ⟨by show x.m.client < s1.k; rw [hn1.2.1]; exact this.1, this.2.1, by omega, by omega, this.2.2.2.2.1, ?_⟩
      show (x.dst < s1.n ∧ x.src = s1.n + _) ∨ (x.src < s1.n ∧ x.dst = s1.n + _)
      rw [hn1.1]; exact this.2.2.2.2.2
    · refine ⟨by show c < s1.k; rw [hn1.2.1]; exact hc, ?_, ?_, Nat.zero_le _, by show 1 ≤ 3; omega, .inl ⟨hi, rfl⟩⟩
      · show keyC (setCl s1 c x1) c < 8
        unfold keyC
        rw [setCl_self, hxk]; omega
      · show ((setCl s1 c x1).cl c).round + 1 ≤ M + 1
        rw [setCl_self]; omega
  · have hi : i < s1.k := hi
    rw [hn1.2.1] at hi
    by_cases hic : i = c
    · subst hic
      rw [show (sendF (setCl s1 i x1) i 1 ⟨0, 0, 0⟩).cl i = roundC (setCl s1 i x1) i 1 from setCl_self, hR]
      refine ⟨by show x1.round + 1 ≤ M + 1; omega, by show x1.best.t ≤ M + 1; omega, fun _ => ⟨hcw, ?_, ?_⟩⟩
      · show (List.replicate s1.n false).length = s1.n
        simp
      · show 0 ≤ x1.began.key ∧ x1.began.key < 8
        omega
    · rw [show (sendF (setCl s1 c x1) c 1 ⟨0, 0, 0⟩).cl i = (setCl s1 c x1).cl i from if_neg hic, show (setCl s1 c x1).cl i = s1.cl i from if_neg hic, hcl1, ho i hic]
      have := h.cok i hi
      refine ⟨by omega, by omega, fun hb => ?_⟩
      have := this.2.2 hb
      refine ⟨this.1, ?_, this.2.2⟩
      show _ = s1.n
      rw [hn1.1]; exact this.2.1
  · have hi : i < s1.k := hi
    rw [hn1.2.1] at hi
    show _ = s1.n
    by_cases hic : i = c
    · subst hic
      rw [show (sendF (setCl s1 i x1) i 1 ⟨0, 0, 0⟩).cl i = roundC (setCl s1 i x1) i 1 from setCl_self, hR]
      simp
    · rw [show (sendF (setCl s1 c x1) c 1 ⟨0, 0, 0⟩).cl i = (setCl s1 c x1).cl i from if_neg hic, show (setCl s1 c x1).cl i = s1.cl i from if_neg hic, hcl1, hn1.1]
      exact h.clen i b hi (by rw [← ho i hic]; exact hbc)
  · have ha : a < s1.n := ha
    show (s1.ent a b).t ≤ M + 1
    rw [hn1.2.2.2.2]
    exact Nat.le_trans (h.eok a b (by omega) hb') (by omega)
theorem SOk.loc2 (h : SOk L s M) {c : Nat} (ho : ∀ i, i ≠ c → L'.cw i = L.cw i) (hi : L'.cw c = none ↔ L.cw c = none) : SOk L' s M := by
  have hiff : ∀ i, L'.cw i = none ↔ L.cw i = none := fun i => by
    by_cases hic : i = c
    · subst hic; exact hi
    · rw [ho i hic]
  refine ⟨h.n1, h.k1, h.ask, h.tell, h.mlen, h.elen, h.slen, h.free, h.mok, fun i hk => ?_, fun i b hk hb => ?_, h.eok⟩
  · have := h.cok i hk
    exact ⟨this.1, this.2.1, fun hb => ⟨fun hn => (this.2.2 hb).1 ((hiff i).1 hn), (this.2.2 hb).2⟩⟩
  · cases hl : L.cw i with
    | none => rw [(hiff i).2 hl] at hb; cases hb
    | some b' => exact h.clen i b' hk hl
theorem SOk.clB (h : SOk L s M) {c : Nat} (hc : c < s.k) (hb : (s.cl c).busy = true) {x : SCl} (h0 : x.busy = true) (h1 : x.round ≤ M) (h2 : x.best.t ≤ M) (h3 : L'.cw c ≠ none ∧ x.counted.length = s.n ∧ 0 ≤ x.began.key ∧ x.began.key < 8) (ho : ∀ i, i ≠ c → L'.cw i = L.cw i) : SOk L' (setCl s c x) M := by
  refine h.cl hc h1 h2 (fun _ => h3) (fun _ _ => h3.2.1) ho ?_
  have hbn := (busyN_set (s := s) (c := c) (x := x) (k := s.k)).1 hc
  rw [if_pos hb, if_pos h0] at hbn
  have := h.free
  omega
theorem heardC_facts (x : SCl) (j : Nat) (m : SMsg) : (heardC x j m).busy = x.busy ∧ (heardC x j m).gone = x.gone ∧ (heardC x j m).began = x.began ∧ (heardC x j m).telling = x.telling ∧ (heardC x j m).round = x.round ∧ (heardC x j m).counted = x.counted.set j true ∧ ((heardC x j m).best = x.best ∨ (heardC x j m).best = m.e) := by
  unfold heardC
  dsimp only
  split
  · exact ⟨rfl, rfl, rfl, rfl, rfl, rfl, .inl rfl⟩
  · split
    · exact ⟨rfl, rfl, rfl, rfl, rfl, rfl, .inr rfl⟩
    · exact ⟨rfl, rfl, rfl, rfl, rfl, rfl, .inl rfl⟩
theorem SOk.hear (h : SOk L s M) {j : Nat} {m : SMsg} (hc : m.client < s.k) (ht : m.e.t ≤ M) (ho : ∀ i, i ≠ m.client → L'.cw i = L.cw i) (hi : L'.cw m.client = none ↔ L.cw m.client = none) : SOk L' (hearF s j m) (M + 1) := by
  obtain ⟨c, hcc⟩ : ∃ c, m.client = c := ⟨_, rfl⟩
  unfold hearF
  rw [hcc] at hc ho hi ⊢
  have hcx := h.cok c hc
  obtain ⟨x, hx⟩ : ∃ x, s.cl c = x := ⟨_, rfl⟩
  dsimp only
  split
  · exact (h.loc2 ho hi).mono (by omega)
  · rename_i hbad
    rw [hx] at hbad hcx ⊢
    have hb : x.busy = true := by
      cases hb : x.busy with
      | true => rfl
      | false => exact absurd (.inl hb) hbad
    have hsb : (s.cl c).busy = true := by rw [hx]; exact hb
    obtain ⟨f1, f2, f3, f4, f5, f6, f7⟩ := heardC_facts x j m
    have g := hcx.2.2 hb
    obtain ⟨x1, hx1⟩ : ∃ x1, heardC x j m = x1 := ⟨_, rfl⟩
    rw [hx1] at f1 f2 f3 f4 f5 f6 f7 ⊢
    have hb1 : x1.best.t ≤ M := by
      rcases f7 with e | e <;> rw [e]
      · exact hcx.2.1
      · exact ht
    have hcw' : L'.cw c ≠ none := fun hn => g.1 (hi.1 hn)
    have h3 : L'.cw c ≠ none ∧ x1.counted.length = s.n ∧ 0 ≤ x1.began.key ∧ x1.began.key < 8 := by
      rw [f3, f6, List.length_set]; exact ⟨hcw', g.2⟩
    have hS : SOk L' (setCl s c x1) M := h.clB hc hsb (f1.trans hb) (by rw [f5]; exact hcx.1) hb1 h3 ho
    have hS1 : (setCl s c x1).cl c = x1 := setCl_self
    split
    · split
      · exact (hS.done (L' := L') hc (by rw [hS1]; exact f1.trans hb) rfl).mono (by omega)
      · exact hS.mono (by omega)
    · split
      · exact hS.mono (by omega)
      · obtain ⟨x2, hx2⟩ : ∃ x2, newC x1 c = x2 := ⟨_, rfl⟩
        rw [hx2]
        have k1 : x2.busy = x1.busy ∧ x2.began = x1.began ∧ x2.round = x1.round ∧ x2.counted = x1.counted ∧ x2.best.t ≤ M + 1 := by
          rw [← hx2]; unfold newC
          split
          · exact ⟨rfl, rfl, rfl, rfl, by show x1.best.t + 1 ≤ M + 1; omega⟩
          · exact ⟨rfl, rfl, rfl, rfl, by omega⟩
        obtain ⟨k1, k2, k3, k4, k5⟩ := k1
        have hT : SOk L' (setCl s c x2) (M + 1) := (h.mono (M' := M + 1) (by omega)).clB hc hsb (k1.trans (f1.trans hb)) (by rw [k3, f5]; have := hcx.1; omega) k5 (by rw [k2, k4]; exact h3) ho
        have hT1 : (setCl s c x2).cl c = x2 := setCl_self
        split
        · exact hT.send (L' := L') hc (by omega) (by rw [hT1, k3, f5]; have := hcx.1; omega) k5 (by rw [hT1, k2]; exact h3.2.2) hcw' (fun _ _ => rfl)
        · exact hT.done (L' := L') hc (by rw [hT1]; exact k1.trans (f1.trans hb)) rfl
end
end Go.Proofs.Ytglioflpblpmpaa
