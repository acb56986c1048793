/- FarmMany: lemmas. -/
import Derived.Test.YtfjcghhjlmfggaaGreatDoorPZ
import Derived.Conc.Own
import Derived.Conc.Own2
import Derived.Conc.Own3
import Derived.Conc.Own4
import Derived.Conc.Own5
import Derived.Conc.Listed
import Derived.Conc.Machine
import Derived.Conc.Beside
import Derived.Conc.CrowdStepC2
import Derived.Conc.CrowdSel
import Derived.Conc.CrowdRun
set_option linter.unusedSectionVars false
set_option linter.unusedVariables false
set_option linter.unusedSimpArgs false
set_option linter.defProp false
namespace Go.Proofs.YtfjcghhjlmfggaaGreatDoor
open Go Go.Conc
def oc(M R:lF)(e:Event):Prop:=match e.loc with
 |.cell a=>M a.block\/(R a.block/\e.write=false)|.obj r=>M r|.mark m=>m=.noRoom\/∃f,m=.extern f|_=>False
def grown(M:lF)(n n':Nat):Nat->Prop:=fun k=>M k\/(n<=k/\k<n')
structure nJ(M:lF)(w w':lE):Prop where
 size:w.heap.size<=w'.heap.size
 rest:∀k:Nat,¬M k->k<w.heap.size->w'.heap[k]?=w.heap[k]?
 tape:w'.tape=w.tape
 os:w'.os=w.os
 out:w'.output=w.output
theorem nJ.refl(M:lF)(w:lE):nJ M w w:=⟨ku _,fun _ _ _=>rfl,rfl,rfl,rfl⟩
theorem Bz(M:lF)(n:Nat):grown M n n=M:=by funext k;apply propext;exact⟨fun h=>h.elim id fun h=>aa,.inl⟩
theorem amo{M:lF}{n n1 n2:Nat}(h1:n<=n1)(h2:n1<=n2):grown (grown M n n1) n1 n2=grown M n n2:=by
 funext k;apply propext;constructor
 .rintro((h|h)|h)
  .exact .inl h
  .exact .inr ⟨h.1,aa⟩
  exact .inr ⟨aa,h.2⟩
 rintro(h|h)
 .exact .inl<|.inl h
 by_cases hk:k<n1
 .exact .inl<|.inr ⟨h.1,hk⟩
 exact .inr ⟨aa,h.2⟩
structure oe(M R:lF)(Sh:oQ)(w w1:lE):Prop where
 size:w.heap.size<=w1.heap.size
 mine:∀k:Nat,M k\/R k->w1.heap[k]?=w.heap[k]?
 tape:w1.tape=w.tape
 os:w1.os=w.os
 out:w1.output=w.output
 sh:Sh w->Sh w1
theorem oe.refl(M R:lF)(Sh:oQ)(w:lE):oe M R Sh w w:=⟨ku _,fun _ _=>rfl,rfl,rfl,rfl,id⟩
theorem oe.trans{M R:lF}{Sh:oQ}{a b c:lE}(h:oe M R Sh a b)(h':oe M R Sh b c):oe M R Sh a c:=⟨j5 h.size h'.size,fun k hk=>(h'.mine k hk).trans<|h.mine k hk,h'.tape.trans h.tape,h'.os.trans h.os,h'.out.trans h.out,fun x=>h'.sh<|h.sh x⟩
section
variable(P:lY)(main:Bool)(R:lF)(Sh:oQ)(X:Event->Prop)(Stop:qz)
inductive Own:(Nat->Prop)->Goroutine->World->Prop where
 |stop {M:lF} {g:lZ} {w:lE} (h:∀w1,oe M R Sh w w1->Stop M g w1):Own M g w|step {M:lF} {g:lZ} {w:lE} (hs:g.status=.running) (nx:World->Goroutine×World×Array Event)
   (h1:∀w1,oe M R Sh w w1->stepG P main g w1=.go (nx w1).1 (nx w1).2.1 (nx w1).2.2)
   (h2:∀w1,oe M R Sh w w1->nJ M w1 (nx w1).2.1)
   (h3:∀w1,oe M R Sh w w1->∀e∈(nx w1).2.2,oc (grown M w1.heap.size (nx w1).2.1.heap.size) R e\/X e)
   (h4:∀w1,oe M R Sh w w1->Own (grown M w1.heap.size (nx w1).2.1.heap.size) (nx w1).1 (nx w1).2.1):Own M g w
end
section
variable{P:lY}{main:Bool}{R:lF}{Sh:oQ}{X:Event->Prop}{Stop:qz}{M:lF}
theorem Own.rely{g:lZ}{w w1:lE}(h:Own P main R Sh X Stop M g w)(hr:oe M R Sh w w1):Own P main R Sh X Stop M g w1:=by
 cases h with
 |stop h=>exact .stop fun w2 h2=>h w2<|hr.trans h2
 |step hs nx h1 h2 h3 h4=>exact .step hs nx (fun w2 k=>h1 w2<|hr.trans k) (fun w2 k=>h2 w2<|hr.trans k) (fun w2 k=>h3 w2<|hr.trans k) fun w2 k=>h4 w2<|hr.trans k
open Classical in
theorem Own.mk{g:lZ}{w:lE}(hs:g.status=.running)
  (h:∀w1,oe M R Sh w w1->∃g' w' es,stepG P main g w1=.go g' w' es/\nJ M w1 w'/\(∀e∈es,oc (grown M w1.heap.size w'.heap.size) R e\/X e)/\Own P main R Sh X Stop (grown M w1.heap.size w'.heap.size) g' w'):Own P main R Sh X Stop M g w:=by
 have hh:∀w1,∃x:Goroutine×World×Array Event,oe M R Sh w w1->stepG P main g w1=.go x.1 x.2.1 x.2.2/\nJ M w1 x.2.1/\(∀e∈x.2.2,oc (grown M w1.heap.size x.2.1.heap.size) R e\/X e)/\Own P main R Sh X Stop (grown M w1.heap.size x.2.1.heap.size) x.1 x.2.1:=fun w1=>by
  by_cases hr:oe M R Sh w w1
  .have⟨g',w',es,h1,h2,h3,h4⟩:=h w1 hr;exact⟨(g',w',es),fun _=>⟨h1,h2,h3,h4⟩⟩
  exact⟨(g,w, #[]),fun k=>ll k hr⟩
 have nx:=fun w1=>fA<|hh w1;exact .step hs (fun w1=>Classical.choose<|hh w1) (fun w1 k=>(nx w1 k).1) (fun w1 k=>(nx w1 k).2.1) (fun w1 k=>(nx w1 k).2.2.1) fun w1 k=>(nx w1 k).2.2.2
theorem Own.move{g g':lZ}{w:lE}(hs:g.status=.running)(h:∀w1,stepG P main g w1=.go g' w1)(h':∀w1,oe M R Sh w w1->Own P main R Sh X Stop M g' w1):Own P main R Sh X Stop M g w:=
 .mk hs fun w1 hr=>⟨g',w1, #[],h w1,nJ.refl _ _,fun e he=>by simp at he,by rw[Bz];exact h' w1 hr⟩
end
inductive mO where
 |leaf|node (f:World->mO)
def mO.lt(a b:mO):Prop:=∃f w,b=.node f/\a=f w
theorem mO.acc:∀a:mO,Acc mO.lt a
 |.leaf=>.intro _ fun y h=>by obtain⟨f,w,h,_⟩:=h;cases h
 |.node f=>.intro _ fun y h=>by obtain⟨g,w,h,rfl⟩:=h;cases h;exact mO.acc<|f w
def mO.chain:Nat->mO
 |0=>.leaf|n+1=>.node fun _=>mO.chain n
def mO.wrap:mO->mO
 |.leaf=>.node fun _=>.leaf
 |.node f=>.node fun w=>mO.wrap<|f w
def N8(N:Nat)(f g:Nat->mO):Prop:=∃i,i<N/\mO.lt (f i) (g i)/\∀a,a≠i->f a=g a
theorem abr:∀(N:Nat) (f:Nat->mO),Acc (N8 N) f
 |0,f=>.intro _ fun y ⟨i,h,_⟩=>aa
 |N+1,f=>by
  have key:∀x,Acc mO.lt x->∀f:Nat->mO,f N=x->Acc (N8<|N+1) f:=by
   intro x hx
   induction hx with
   |intro x _ Xe=>
    intro f hf;have hA:=abr N f
    induction hA with
    |intro f _ ihf=>
     refine .intro _ fun y ⟨i,hi,lX,hs⟩=>?_;by_cases e:i=N
     .subst e;exact Xe _ (hf▸lX) y Z
     exact ihf y ⟨i,aa,lX,hs⟩<|(hs N<|fun h=>e h.symm).trans hf
  exact key _ (mO.acc _) f Z
abbrev Mu:=Nat×((Nat->mO)×mO)
def zZ(N:Nat):Mu->Mu->Prop:=Prod.Lex (· < ·) (Prod.Lex (N8 N) mO.lt)
theorem arT(N:Nat):WellFounded (zZ N):=⟨fun⟨a,b,c⟩=>Prod.lexAccessible (Nat.lt_wfRel.wf.apply a) (fun⟨b,c⟩=>Prod.lexAccessible (abr N b) (fun c=>mO.acc c) c) (b,c)⟩
section
variable{N:Nat}{a b:Nat}{f g:Nat->mO}{x y:mO}
theorem Gg(h:a<b):zZ N (a,f,x) (b,g,y):=Prod.Lex.left _ _ h
theorem arU(h:a=b)(hf:N8 N f g):zZ N (a,f,x) (b,g,y):=by subst h;exact Prod.Lex.right _ (Prod.Lex.left _ _ hf)
theorem arR(h:a=b)(hf:f=g)(hx:mO.lt x y):zZ N (a,f,x) (b,g,y):=by subst h;subst hf;exact Prod.Lex.right _ (Prod.Lex.right _ hx)
end
def rF(P:lY)(main:Bool)(R:lF)(Sh:oQ)(X:Event->Prop)(Stop:qz):mO->(Nat->Prop)->Goroutine->World->Prop
 |.leaf,M,g,w=>∀w1,oe M R Sh w w1->Stop M g w1|.node f,M,g,w=>g.status=.running/\∀w1,oe M R Sh w w1->∃g' w' es,stepG P main g w1=.go g' w' es/\nJ M w1 w'/\(∀e∈es,oc (grown M w1.heap.size w'.heap.size) R e\/X e)/\
   rF P main R Sh X Stop (f w1) (grown M w1.heap.size w'.heap.size) g' w'
section
variable{P:lY}{main:Bool}{R:lF}{Sh:oQ}{X:Event->Prop}{Stop:qz}{M:lF}{g:lZ}{w w1:lE}
open Classical in
theorem Own.tree(h:Own P main R Sh X Stop M g w):∃τ,rF P main R Sh X Stop τ M g w:=by
 induction h with
 |stop h=>exact⟨.leaf,h⟩|step hs nx h1 h2 h3 h4 ih=>
  rename_i M g w
  let f:World->mO:=fun w1=>if hr:oe M R Sh w w1 then Classical.choose (ih w1 hr)else .leaf
  refine⟨.node f,hs,fun w1 hr=>⟨_,_,_,h1 w1 hr,h2 w1 hr,h3 w1 hr,?_⟩⟩;show rF P main R Sh X Stop (if hr:oe M R Sh w w1 then Classical.choose (ih w1 hr)else .leaf) _ _ _;rw[lh hr];exact fA<|ih w1 hr
theorem rF.rely:∀{τ:mO},rF P main R Sh X Stop τ M g w->oe M R Sh w w1->rF P main R Sh X Stop τ M g w1
 |.leaf,h,hr=>fun w2 h2=>h w2<|hr.trans h2
 |.node f,h,hr=>⟨h.1,fun w2 h2=>h.2 w2<|hr.trans h2⟩
theorem rF.running(mo:∀M g w,Stop M g w->g.status=.running):∀{τ:mO},rF P main R Sh X Stop τ M g w->g.status=.running
 |.leaf,h=>mo _ _ _<|h w<|.refl ..|.node f,h=>h.1
theorem XK{E:Event->Prop}(hE:∀e,E e->∀M,oc M R e\/X e){Rl:World->World->Prop}(yO:∀M w w1,oe M R Sh w w1->Rl w w1){S:vo}:∀{n:Nat} {M:lF} {g:lZ} {w:lE},Goes P main Rl (fun w w' es=>w'=w/\∀e∈es,E e) S n g w->Own P main R Sh X (fun _ g w=>S g w) M g w
 |0,M,g,w,h=>.stop fun w1 hr=>h w1<|yO _ _ _ hr
 |n+1,M,g,w,h=>by
  rcases h with h|⟨hs,h⟩
  .exact .stop fun w1 hr=>h w1<|yO _ _ _ hr
  refine Own.mk hs fun w1 hr=>?_;have:=h w1<|yO _ _ _ hr;cases hg:stepG P main g w1 with
  |go g' w' es=>rw[hg,goes_go]at this;have⟨⟨e1,e2⟩,hn⟩:=this;subst e1;exact⟨g',w',es,Z,nJ.refl _ _,fun e he=>hE e (e2 e he) _,XK hE yO hn⟩
  |_=>rw[hg]at this;exact this.elim
theorem Own.mono{K7:qz}(h:Own P main R Sh X Stop M g w)(hs:∀M g w,Stop M g w->K7 M g w):Own P main R Sh X K7 M g w:=by
 induction h with
 |stop h=>exact .stop fun w1 hr=>hs _ _ _<|h w1 hr
 |step hr nx h1 h2 h3 h4 ih=>exact .step hr nx h1 h2 h3 ih
end
theorem at3{P:lY}{α:Type}{r:α->α->Prop}(wf:WellFounded r)(zW:α->Machine->Trace->Prop)(Q:Machine->Trace->Prop)
  (h:∀μ m t,zW μ m t->Q m t\/(∃m' aBi qK,stepT P m=(.next m',aBi)/\r qK μ/\zW qK m' (t++aBi))):
  ∀μ m t,zW μ m t->∃n m' t',runNT P n m t=(.next m',t')/\Q m' t':=by
 intro μ
 induction μ using wf.induction with
 |_ μ ih=>
  intro m t hI;rcases h μ m t hI with hq|⟨m',aBi,qK,hs,hr,si⟩
  .exact⟨0,m,t,Z,hq⟩
  have⟨n,m2,t',h1,h2⟩:=ih qK hr m' (t++aBi) si;exact⟨n+1,m2,t',by rw[runNT_succ_next hs];exact h1,h2⟩
end Go.Proofs.YtfjcghhjlmfggaaGreatDoor
namespace Go.Proofs.YtfjcghhjlmfggaaGreatDoor
theorem df{p:Prop}(h:p:=by rw[g_of_ofEvents op mw];omega):p:=h
theorem cu{p:Prop}(h:p:=by rw[I.size];omega):p:=h
theorem bz{p:Prop}(h:p:=by rw[Deaf_other t (by omega) _ g_of_ofEvents,I.above g0 vB]):p:=h
theorem dK{p:Prop}(h:p:=by simp[I.size]):p:=h
theorem cR{p:Prop}(h:p:=by simp only[pH.grow];rw[I.vD,if_neg (by omega)]):p:=h
theorem bN{p:Prop}(h:p:=by simp[MemAct.ofEvent]):p:=h
theorem bS{p:Prop}(h:p:=by simp[MemAct.ofEvent,MemAct.touch?]at hx):p:=h
theorem bm{p:Prop}(h:p:=by simpa[MemAct.ofEvent,MemAct.touch?]using hx.symm):p:=h
theorem dL{p:Prop}(h:p:=by rw[hd];rfl):p:=h
theorem dA{p:Prop}(h:p:=by rw[hd]):p:=h
theorem bD{p:Prop}(h:p:=by cases e):p:=h
theorem dF{p:Prop}(h:p:=by simp[GD.wd,hd,WS.num]):p:=h
theorem dz{p:Prop}(h:p:=by simp only;omega):p:=h
theorem dy{p:Prop}(h:p:=by simpa using rq):p:=h
theorem cA{p:Prop}(h:p:=by rw[hf];simp[GD.wd,hd,WS.num]):p:=h
theorem dq{p:Prop}(h:p:=by simp[deafBehind,semEvents]):p:=h
theorem cV{p:Prop}(h:p:=by rw[hd];exact deafBehind_still (aqV mj) 0):p:=h
theorem dk{p:Prop}(h:p:=by rw[hs];simp):p:=h
theorem dv{p:Prop}(h:p:=by simpa[ofEvents_eq]using mw):p:=h
theorem bY{p:Prop}(h:p:=by rw[Array.getElem?_setIfInBounds_self_of_lt lX]):p:=h
theorem bx{p:Prop}(h:p:=by rw[Array.getElem?_setIfInBounds_ne (by omega),Array.getElem?_setIfInBounds_ne (by omega)]):p:=h
theorem aT{p:Prop}(h:p:=by simp only[MT.phi];omega):p:=h
theorem cW{p:Prop}(h:p:=by simp[MT.ct]):p:=h
theorem dh{p:Prop}(h:p:=by simpa[MT.ct,pend]using I.wg):p:=h
def eE:=@Go.ConcR.ofEvent_loc_mark
def ff:=@Go.Conc.offersAt_of_not_blocked
def fB:=@Go.ConcR.ofEvent_cell
def fO:=@Go.Conc.getElem?_append_cases
def gq:=@Go.Conc.lt_size_of_getElem?
def js:=@Go.Conc.g?_old
def jC:=@Go.Conc.getElem?_stand
def jE:=@Go.Conc.ways_recv_none
def jQ:=@Go.ConcR.g_of_ofEvents
def jW:=@Go.Conc.Goes.running
def kA:=@Go.ConcN.get_map_set
def kD:=@Go.Conc.ofEvents_eq
def kK:=@Go.ConcN.Deaf_still
def lf:=@Go.Conc.touch_of
def lu:=@Go.ConcN.upd_ne
open Go Go.Conc
open Go.ConcR (stA smA mk rd wr KK WgAt Bk)
open Go.ConcN (RelBy)
variable{k n r:Nat}{M:lF}{w w' w1:lE}
structure wV where
 Wg:Nat
 Ch:Nat
 Ov:Nat
 B0:Nat
 z0:Nat
 T0:Nat
 R:lF
 tR:Nat->Addr->Prop
 Bb:Loc->Prop
structure wV.Ok(A:wV):Prop where
 rB:∀b,A.R b->b<A.B0
 rW:∀b,A.R b->b≠A.Wg/\b≠A.Ch/\b≠A.Ov
 rM:∀k a,A.tR k a->¬A.R a.block
 mB:∀k a,A.tR k a->a.block<A.B0/\a.block≠A.Wg/\a.block≠A.Ch/\a.block≠A.Ov
 mU:∀k k' a,A.tR k a->A.tR k' a->k=k'
 wB:A.Wg<A.B0
 cB:A.Ch<A.B0
 oB:A.Ov<A.B0
 wc:A.Wg≠A.Ch
 wo:A.Wg≠A.Ov
 co:A.Ch≠A.Ov
 agw:∀l,A.Bb l->∃a,l=.cell a/\a.block<A.B0/\a.block≠A.Wg/\¬A.R a.block/\∀k,¬A.tR k a
structure pH where
 size:Nat
 own:Nat->Nat
 nx:Nat
 hold:Nat->Nat
structure pH.Le(H H':pH):Prop where
 size:H.size<=H'.size
 own:∀b,b<H.size->H'.own b=H.own b
 nx:H.nx<=H'.nx
 hold:∀k,k<H.nx->H'.hold k=H.hold k
theorem pH.Le.refl(H:pH):H.Le H:=⟨ku _,fun _ _=>rfl,ku _,fun _ _=>rfl⟩
inductive uA(A:wV)(H:pH)(g:Nat)(a:Touch):Prop
 |wg (ad:Addr):a.loc=.cell ad->ad.block=A.Wg->a.kind≠.plain->(a.kind=.said->g=0)->uA A H g a|ch:a.loc=.obj A.Ov->a.kind≠.plain->(a.kind=.said->g=0)->uA A H g a|own (b:Nat):((∃ad,a.loc=.cell ad/\ad.block=b)\/a.loc=.obj b)->A.B0<=b->b<H.size->H.own b=g->uA A H g a|key (k:Nat) (ad:Addr):a.loc=.cell ad->A.tR k ad->k<H.nx->H.hold k=g->uA A H g a|rd (ad:Addr):a.loc=.cell ad->A.R ad.block->a.write=false->uA A H g a|EB:a.loc.isMemory=false->uA A H g a
theorem uA.mono{A:wV}{H H':pH}{g:Nat}{a:Touch}(h:uA A H g a)(k:H.Le H'):uA A H' g a:=by
 cases h with
 |wg ad h1 h2 h3 h4=>exact .wg ad h1 h2 h3 h4|ch h1 h2 h3=>exact .ch h1 h2 h3|own b h1 h2 h3 h4=>exact .own b h1 h2 (gK h3 k.size)<|(k.own b h3).trans h4|key q ad h1 h2 h3 h4=>exact .key q ad h1 h2 (gK h3 k.nx)<|(k.hold q h3).trans h4|rd ad h1 h2 h3=>exact .rd ad h1 h2 h3|EB h=>exact .EB h
theorem uA.one{A:wV}(O:A.Ok){H:pH}{g g':Nat}{a b:Touch}{said:Bool}(ha:uA A H g a)(hb:uA A H g' b)(hc:a.conflicts said b):g=g':=by
 obtain⟨hl,hm,hw,hk⟩:=hc;have kinds:a.kind≠.plain->b.kind≠.plain->(a.kind=.said->g=0)->(b.kind=.said->g'=0)->g=g':=by
  intro h1 h2 h3 h4;rcases hk with e|e|⟨_,e1,e2⟩
  .exact ll e h1
  .exact ll e h2
  rw[h3 e1,h4 e2]
 cases ha with
 |EB h=>rw[h]at hm;cases hm
 |wg ad h1 h2 h3 h4=>
  rw[h1]at hl;cases hb with
  |EB h=>rw[<-hl]at h;cases h
  |wg uD k1 k2 k3 k4=>exact kinds h3 k3 h4 k4|ch k1 k2 k3=>rw[k1]at hl;cases hl
  |own c k1 k2 k3 k4=>
   exfalso;rcases k1 with⟨uD,e,e'⟩|e
   .rw[e]at hl;cases hl;have:=O.wB;omega
   rw[e]at hl;cases hl
  |key q uD k1 k2 k3 k4=>rw[k1]at hl;cases hl;exact ll h2 (O.mB _ _ k2).2.1
  |rd uD k1 k2 k3=>rw[k1]at hl;cases hl;exact ll h2 (O.rW _ k2).1
 |ch h1 h2 h3=>
  rw[h1]at hl;cases hb with
  |EB h=>rw[<-hl]at h;cases h
  |wg uD k1 k2 k3 k4=>rw[k1]at hl;cases hl
  |ch k1 k2 k3=>exact kinds h2 k2 h3 k3|own c k1 k2 k3 k4=>
   exfalso;rcases k1 with⟨uD,e,e'⟩|e
   .rw[e]at hl;cases hl
   rw[e]at hl;cases hl;have:=O.oB;omega
  |key q uD k1 k2 k3 k4=>rw[k1]at hl;cases hl
  |rd uD k1 k2 k3=>rw[k1]at hl;cases hl
 |own c h1 h2 h3 h4=>
  cases hb with
  |EB h=>rw[<-hl]at h;rw[h]at hm;cases hm
  |wg uD k1 k2 k3 k4=>
   exfalso;rw[k1]at hl;rcases h1 with⟨ad,e,e'⟩|e
   .rw[e]at hl;cases hl;have:=O.wB;omega
   rw[e]at hl;cases hl
  |ch k1 k2 k3=>
   exfalso;rw[k1]at hl;rcases h1 with⟨ad,e,e'⟩|e
   .rw[e]at hl;cases hl
   rw[e]at hl;cases hl;have:=O.oB;omega
  |own c' k1 k2 k3 k4=>
   have:c=c':=by
    rcases h1 with⟨ad,e,e'⟩|e<;>rcases k1 with⟨uD,f,f'⟩|f<;>rw[e,f]at hl<;>cases hl
    .exact e'.symm.trans f'
    rfl
   subst this;exact h4.symm.trans k4
  |key q uD k1 k2 k3 k4=>
   exfalso;rw[k1]at hl;rcases h1 with⟨ad,e,e'⟩|e
   .rw[e]at hl;cases hl;have:=(O.mB _ _ k2).1;omega
   rw[e]at hl;cases hl
  |rd uD k1 k2 k3=>
   exfalso;rw[k1]at hl;rcases h1 with⟨ad,e,e'⟩|e
   .rw[e]at hl;cases hl;have:=O.rB _ k2;omega
   rw[e]at hl;cases hl
 |key q ad h1 h2 h3 h4=>
  rw[h1]at hl;cases hb with
  |EB h=>rw[<-hl]at h;cases h
  |wg uD k1 k2 k3 k4=>rw[k1]at hl;cases hl;exact ll k2 (O.mB _ _ h2).2.1
  |ch k1 k2 k3=>rw[k1]at hl;cases hl
  |own c k1 k2 k3 k4=>
   exfalso;rcases k1 with⟨uD,e,e'⟩|e
   .rw[e]at hl;cases hl;have:=(O.mB _ _ h2).1;omega
   rw[e]at hl;cases hl
  |key q' uD k1 k2 k3 k4=>rw[k1]at hl;cases hl;have:=O.mU _ _ _ h2 k2;subst this;exact h4.symm.trans k4
  |rd uD k1 k2 k3=>rw[k1]at hl;cases hl;exact ll k2<|O.rM _ _ h2
 |rd ad h1 h2 h3=>
  rw[h1]at hl;cases hb with
  |EB h=>rw[<-hl]at h;cases h
  |wg uD k1 k2 k3 k4=>rw[k1]at hl;cases hl;exact ll k2 (O.rW _ h2).1
  |ch k1 k2 k3=>rw[k1]at hl;cases hl
  |own c k1 k2 k3 k4=>
   exfalso;rcases k1 with⟨uD,e,e'⟩|e
   .rw[e]at hl;cases hl;have:=O.rB _ h2;omega
   rw[e]at hl;cases hl
  |key q' uD k1 k2 k3 k4=>rw[k1]at hl;cases hl;exact ll h2<|O.rM _ _ k2
  |rd uD k1 k2 k3=>exfalso;rw[h3,k3]at hw;simp at hw
theorem uA.ar9{A:wV}(O:A.Ok){H:pH}{g:Nat}{b:Touch}(hb:uA A H g b)(hs:A.Bb b.loc):False:=by
 have⟨a,e,h1,h2,h3,h4⟩:=O.agw _ hs;cases hb with
 |wg ad k1 k2 _ _=>rw[k1]at e;cases e;exact h2 k2
 |ch k1 _ _=>rw[k1]at e;cases e
 |own c k1 k2 _ _=>
  rcases k1 with⟨uD,f,f'⟩|f
  .rw[f]at e;cases e;omega
  rw[f]at e;cases e
 |key q ad k1 k2 _ _=>rw[k1]at e;cases e;exact h4 _ k2
 |rd ad k1 k2 _=>rw[k1]at e;cases e;exact h3 k2
 |EB k=>rw[e]at k;cases k
structure TI(A:wV)(H:pH)(j:Nat)(t:Trace):Prop where
 nr:∀said,¬Race said t
 base:∀g,g=0\/(A.z0<g/\g<=j)->∀i a,i<A.T0->touchAt t i=some a->a.loc.isMemory->Knows t g i\/(A.Bb a.loc/\a.kind=.atomic)
 new:∀i a g,A.T0<=i->touchAt t i=some a->t.g? i=some g->(g=0\/A.z0<g)/\uA A H g a
 gs:∀(i:Nat) (op:MemOp),A.T0<=i->t[i]?=some op->op.g<=j
 seen:∀op∈t,op.act.low H.size
 norel:Go.Conc.NoRelease (stA A.Wg) t
 over:∀i g,i<A.T0->t.g? i=some g->g≠0->t.counts i->∃q,t.g? q=some 0/\HappensBefore t i q
 T0:A.T0<=t.size
section
variable{A:wV}{H H':pH}{j g:Nat}{t u:Trace}
theorem g?_of{i:Nat}{op:MemOp}(h:t[i]?=some op):t.g? i=some op.g:=by simp[Trace.g?,h]
theorem TI.grow(h:TI A H j t)(aBm:H.Le H')(Mz:∀said,¬Race said (t++u))(hu:∀op∈u,op.g<=j/\(∀x,op.act.touch?=some x->(op.g=0\/A.z0<op.g)/\uA A H' op.g x)/\op.act.low H'.size/\op.act≠.mark (.release (stA A.Wg))):TI A H' j (t++u):=by
 refine⟨Mz,fun g' qp i a hi ha hm=>?_,fun i a g' hi ha qp=>?_,fun i op hT hi=>?_,fun op mw=>?_,h.norel.app fun op mw=>(hu op mw).2.2.2,fun i g' hi qp mK hc=>?_,by simp;have:=h.T0;omega⟩
 .have lX:i<t.size:=gK hi h.T0;rw[touchAt_old lX]at ha;exact(h.base g' qp i a hi ha hm).imp (·.app u) id
 .have⟨op,mw,hox⟩:=lf ha;rcases fO mw with⟨lX,CV⟩|⟨_,apa⟩
  .have:=h.new i a g' hi (by rw[touchAt_of CV];exact hox) (by rw[g?_of CV];rw[g?_of mw]at qp;exact qp);exact⟨this.1,this.2.mono aBm⟩
  rw[g?_of mw]at qp;cases qp;exact(hu op apa).2.1 a hox
 .rcases fO hi with⟨_,mr⟩|⟨_,VM⟩
  .exact h.gs i op hT mr
  exact(hu op VM).1
 .rcases ig.1 mw with h1|h1
  .exact MemAct.low_mono aBm.size<|h.seen op h1
  exact(hu op h1).2.2.1
 have lX:i<t.size:=gK hi h.T0;rw[Go.Conc.counts_old lX]at hc;rw[js lX]at qp;have⟨q,h1,h2⟩:=h.over i g' hi qp mK hc;have⟨z,hz,_⟩:=ft.1 h1;have hq:=gq hz;exact⟨q,by rw[js hq];exact h1,hb_app u h2⟩
theorem TI.app(O:A.Ok)(h:TI A H j t)(hg:g=0\/(A.z0<g/\g<=j))(aBm:H.Le H')(hu:∀op∈u,op.g=g/\(∀x,op.act.touch?=some x->uA A H' g x)/\op.act.low H'.size/\op.act≠.mark (.release (stA A.Wg))):TI A H' j (t++u):=by
 refine h.grow aBm (fun said=>noRace_append (h.nr said) (fun op mw=>(hu op mw).1) fun i a ha op mw b hb hc=>?_) fun op mw=>⟨?_,fun x hx=>⟨?_,?_⟩,(hu op mw).2.2.1,(hu op mw).2.2.2⟩
 .have Ji:=(hu op mw).2.1 b hb;by_cases hi:i<A.T0
  .rcases h.base g hg i a hi ha hc.2.1 with hk|⟨hs,_⟩
   .exact hk
   exact ll (hc.1▸hs) fun hs=>Ji.ar9 O hs
  have⟨x,hx,MX⟩:=lf ha;have hca:=(h.new i a x.g aa ha<|g?_of hx).2.mono aBm;have:=uA.one O hca Ji hc;subst this;exact knows_own hx
 .rw[(hu op mw).1];omega
 .rw[(hu op mw).1];exact hg.imp id (·.1)
 rw[(hu op mw).1];exact(hu op mw).2.1 x hx
theorem aem{said:Bool}(h:¬Race said t)(hu:∀op∈u,op.act.touch?=none):¬Race said (t++u):=by
 rintro⟨i,j,sX,⟨a,b,ha,hb,hc⟩,n1,n2⟩;have old:∀{i:Nat} {a:Touch},((t++u).act? i).bind (·.touch?)=some a->(t.act? i).bind (·.touch?)=some a:=by
  intro i a ha;have⟨x,hx,MX⟩:=lf ha;rcases fO hx with⟨_,ru⟩|⟨_,hxu⟩
  .simp[Trace.act?,ru,MX]
  rw[hu x hxu]at MX;cases MX
 exact h ⟨i,j,sX,⟨a,b,old ha,old hb,hc⟩,fun e=>n1<|hb_app u e,fun e=>n2<|hb_app u e⟩
theorem TI.quiet(h:TI A H j t)(aBm:H.Le H')(hu:∀op∈u,op.g<=j/\op.act.touch?=none/\op.act.low H'.size/\op.act≠.mark (.release (stA A.Wg))):TI A H' j (t++u):=h.grow aBm (fun said=>aem (h.nr said) fun op mw=>(hu op mw).2.1) fun op mw=>⟨(hu op mw).1,fun x hx=>(by rw[(hu op mw).2.1]at hx;cases hx),(hu op mw).2.2⟩
theorem TI.fork(h:TI A H j t){x y:MemOp}(hx:x.g=0/\x.act=.go (j+1))(hy:y.g=j+1/\y.act=.start)(h0:Deaf t 0=0)(hk:Deaf t (j+1)=0):TI A H (j+1) (t++ #[x,y]):=by
 have hm:∀op∈ #[x,y],op=x\/op=y:=by intro op mw;simpa using mw
 have BQ:∀op∈ #[x,y],op.act.touch?=none:=by
  intro op mw;rcases hm op mw with rfl|rfl
  .rw[hx.2];rfl
  rw[hy.2];rfl
 have old:∀{i:Nat} {a:Touch},touchAt (t++ #[x,y]) i=some a->touchAt t i=some a:=by
  intro i a ha;have⟨z,hz,F8⟩:=lf ha;rcases fO hz with⟨_,oM⟩|⟨_,Xa⟩
  .rw[touchAt_of oM];exact F8
  rw[BQ z Xa]at F8;cases F8
 refine⟨fun said=>aem (h.nr said) BQ,fun g' qp i a hi ha ve=>?_,fun i a g' hi ha qp=>?_,fun i op hT hi=>?_,fun op mw=>?_,h.norel.app fun op mw=>?_,fun i g' hi qp mK hc=>?_,by simp;have:=h.T0;omega⟩
 .have Ea:=old ha;by_cases e:g'=j+1
  .subst e;exact(h.base 0 (.inl Z) i a hi Ea ve).imp (Go.ConcN.fork_knows hx hy h0 hk) id
  exact(h.base g' aa i a hi Ea ve).imp (·.app _) id
 .have Ea:=old ha;have⟨z,hz,_⟩:=lf Ea;apply h.new i a g' hi Ea
  rwa [js (gq hz)]at qp
 .rcases fO hi with⟨_,mr⟩|⟨_,VM⟩
  .exact Nat.le_succ_of_le<|h.gs i op hT mr
  rcases hm op VM with rfl|rfl
  .rw[hx.1];exact kz _
  rw[hy.1];exact ku _
 .rcases ig.1 mw with h1|h1
  .exact h.seen op h1
  rcases hm op h1 with rfl|rfl
  .rw[hx.2];trivial
  rw[hy.2];trivial
 .rcases hm op mw with rfl|rfl
  .rw[hx.2];simp
  rw[hy.2];simp
 have lX:i<t.size:=gK hi h.T0;rw[Go.Conc.counts_old lX]at hc;rw[js lX]at qp;have⟨q,h1,h2⟩:=h.over i g' hi qp mK hc;have⟨z,hz,_⟩:=ft.1 h1;exact⟨q,by rw[js (gq hz)];exact h1,hb_app _ h2⟩
end
structure zg(A:wV)(t:Trace)(g r:Nat):Prop where
 rel:RelBy (stA A.Wg) t g r
 late:∀i a,r<i->touchAt t i=some a->t.g? i=some g->(∃ad,a.loc=.cell ad/\ad.block=A.Wg)/\a.kind=.atomic
section
variable{A:wV}{H:pH}{j g r:Nat}{t u:Trace}
theorem zg.app(h:zg A t g r)(vg:RelBy (stA A.Wg) (t++u) g r)(hu:∀op∈u,op.g=g->∀x,op.act.touch?=some x->(∃ad,x.loc=.cell ad/\ad.block=A.Wg)/\x.kind=.atomic):zg A (t++u) g r:=by
 refine⟨vg,fun i a hi ha hg=>?_⟩;have⟨z,hz,F8⟩:=lf ha;rcases fO hz with⟨_,oM⟩|⟨_,Xa⟩
 .exact h.late i a hi (by rw[touchAt_of oM];exact F8) (by rw[g?_of oM];rw[g?_of hz]at hg;exact hg)
 rw[g?_of hz]at hg;cases hg;exact hu z Xa Z a F8
theorem zg.other(h:zg A t g r)(hu:∀op∈u,op.g≠g):zg A (t++u) g r:=h.app (h.rel.appNot hu) fun op mw e=>ll e<|hu op mw
theorem TI.past(h:TI A H j t){q:Nat}(hq:t.act? q=some (.mark (.acquire (stA A.Wg))))(hg:t.g? q=some 0)(hh:t.heard q)(hd:Deaf t 0=0)
  (all:∀g,A.z0<g->g<=j->∃r,zg A t g r/\r<q):Past (fun l=>A.Bb l\/∃ad,l=.cell ad/\ad.block=A.Wg) H.size t:=by
 have le:∀i g,A.T0<=i->t.g? i=some g->g<=j:=fun i g hT hi=>by obtain⟨op,ho,rfl⟩:=ft.1 hi;exact h.gs i op hT ho
 have aa9:∀{g r:Nat},zg A t g r->r<q->HappensBefore t r q:=fun hr F2=>.single<|.inr ⟨.marked F2 (.inr hr.rel.act) hq<|fun k _ _=>h.norel k,hr.rel.heard,hh⟩;have upto:∀{g r i:Nat},zg A t g r->r<q->t.g? i=some g->i<=r->HappensBefore t i q:=by
  intro g r i hr F2 xj aBm;rcases j6 i r with lX|oh
  .exact .trans (.single<|.inl ⟨lX,g,xj,hr.rel.g⟩)<|aa9 hr F2
  obtain rfl:i=r:=aa;exact aa9 hr F2
 have⟨zq,hzq,aqb⟩:=ft.1 hg;refine⟨h.nr,fun i a ha hm=>?_,fun i g xj mK hc=>?_,hd,h.seen⟩
 .by_cases hi:i<A.T0
  .exact(h.base 0 (.inl Z) i a hi ha hm).imp id fun x=>⟨.inl x.1,x.2⟩
  have⟨x,hx,MX⟩:=lf ha;have⟨h1,_⟩:=h.new i a x.g aa ha<|g?_of hx;rcases h1 with h0|hz
  .exact .inl<|h0▸knows_own hx
  have⟨r,hr,F2⟩:=all x.g hz<|h.gs i x aa hx;rcases j6 r i with lX|oh
  .have⟨h2,h3⟩:=hr.late i a lX ha<|g?_of hx;exact .inr ⟨.inr h2,h3⟩
  exact .inl ⟨q,zq,hzq,aqb,.inr<|upto hr F2 (g?_of hx) oh⟩
 by_cases hi:i<A.T0
 .exact h.over i g hi xj mK hc
 have⟨x,hx,_,_⟩:=id hc;have⟨h1,_⟩:=h.new i x g aa hx xj;have hz:A.z0<g:=h1.resolve_left mK;have⟨r,hr,F2⟩:=all g hz<|le i g aa xj;have aBm:i<=r:=iF fun lX=>hr.rel.after i lX xj hc;exact⟨q,hg,upto hr F2 xj aBm⟩
theorem TI.begin{B:Nat}(hP:Past A.Bb B t)(hT:A.T0=t.size)(hz:A.z0=j)(hB:B<=A.Wg)(hs:A.Wg<H.size):TI A H j t:=by
 refine⟨hP.clean,fun g hg i a _ ha hm=>?_,fun i a g hi ha _=>?_,fun i op hT hi=>by have:=gq hi;omega,fun op mw=>MemAct.low_mono aa<|hP.seen op mw,fun i hi=>?_,fun i g _ hg mK hc=>hP.over i g hg mK hc,aa⟩
 .have:g=0:=aa;subst this;exact hP.known i a ha hm
 .have⟨x,hx,_⟩:=lf ha;have:=gq hx;omega
 have⟨op,ho,hoa⟩:=ft.1 hi;have:=hP.seen op<|fz ho;rw[hoa]at this;have:A.Wg<B:=this;omega
end
open Go Go.Conc
open Go.ConcR (stA smA rd wr KK WgAt Bk)
structure mg where
 P:lY
 ty:lT
 A:wV
 m:Nat
 N:Nat
 tv:World->Prop
 DG:Nat->(Nat->Prop)->World->Prop
 Head:Goroutine->World->Prop
 AS:Goroutine->World->Prop
 GS:Goroutine->Prop
 z:lH
 zo:lH
def none_:Nat->Prop:=fun _=>False
namespace mg
variable(c:mg)
def Sh(w:lE):Prop:=Go.ConcN.WgLive c.ty c.A.Wg w/\(∃s r tm,w.heap[c.A.Ch]?=some (.chan 0 #[] false s r tm))/\(∃cl s r tm,w.heap[c.A.Ov]?=some (.chan 0 #[] cl s r tm))/\c.tv w
def Cv(e:Event):Prop:=∃a:Addr,a.block=c.A.Wg/\(e=⟨.mark (.read a),false,true⟩\/e=⟨.mark (.write a),false,true⟩)
abbrev Rel(M:Nat->Prop):World->World->Prop:=oe M c.A.R c.Sh
abbrev WO(Stop:(Nat->Prop)->Goroutine->World->Prop)(g:Goroutine)(w:World):Prop:=Own c.P false c.A.R c.Sh (fun _=>False) Stop none_ g w
abbrev MO(Stop:(Nat->Prop)->Goroutine->World->Prop)(g:Goroutine)(w:World):Prop:=Own c.P true c.A.R c.Sh c.Cv Stop none_ g w
abbrev WQ(Stop:Goroutine->World->Prop)(g:Goroutine)(w:World):Prop:=∃n,Goes c.P false (c.Rel none_) Go.ConcR.DC0 Stop n g w
def AtD4(g:lZ)(w:lE):Prop:=g.status=.running/\mayWake c.P g=true/\(WgAt c.ty c.A.Wg w 0 0->∃g',stepG c.P false g w=.go g' (w.setCell (smA c.A.Wg)<|.int .u32 1) (semEvents<|smA c.A.Wg)/\∃q,QuitsD c.P q 1 g')
def AtD3(g:lZ)(w:lE):Prop:=g.status=.running/\(WgAt c.ty c.A.Wg w 1 0->∃g',stepG c.P false g w=.go g' (w.setCell (stA c.A.Wg)<|.int .u64 0) #[wr (stA c.A.Wg)]/\c.WQ c.AtD4 g' (w.setCell (stA c.A.Wg)<|.int .u64 0))
def AtD2(g:lZ)(w:lE):Prop:=g.status=.running/\(WgAt c.ty c.A.Wg w 1 0->∃g',stepG c.P false g w=.go g' w #[rd (stA c.A.Wg)]/\c.WQ c.AtD3 g' w)
def AtD1(g:lZ)(w:lE):Prop:=
 g.status=.running/\∀v wt:Nat,wt<=1->v<2147483647->WgAt c.ty c.A.Wg w ((v+1)*KK+wt) 0->
  ∃g',stepG c.P false g w=.go g' (w.setCell (stA c.A.Wg)<|.int .u64<|v*KK+wt) #[rd (stA c.A.Wg),wr<|stA c.A.Wg]/\
   ((v=0/\wt=1)->c.WQ c.AtD2 g' (w.setCell (stA c.A.Wg)<|.int .u64<|v*KK+wt))/\(¬(v=0/\wt=1)->∃q,QuitsD c.P q 1 g')
def AtK1(g:lZ)(w:lE):Prop:=g.status=.running/\∃g',stepG c.P false g w=.go g' w #[Go.ConcR.mk .disable]/\c.WQ c.AtD1 g' w
def AtR0(_:lF)(g:lZ)(w:lE):Prop:=g.status=.running/\∃g',stepG c.P false g w=.go g' w #[Go.ConcR.mk (.releaseMerge<|stA c.A.Wg)]/\c.WQ c.AtK1 g' w
structure Lays(k:Nat)(w w':lE):Prop where
 size:w'.heap.size=w.heap.size
 TN:∀b,(∀a,c.A.tR k a->a.block≠b)->w'.heap[b]?=w.heap[b]?
 cells:∀a,¬c.A.tR k a->w'.cell? a=w.cell? a
 tape:w'.tape=w.tape
 os:w'.os=w.os
 out:w'.output=w.output
def Iz(k:Nat)(l:List (Addr×Value))(M:lF)(g:lZ)(w:lE):Prop:=g.status=.running/\((∀p,p∈l->w.cell? p.1=some p.2)->∃g' w' es,stepG c.P false g w=.go g' w' es/\c.Lays k w w'/\(∀e∈es,∃a,e.loc=.cell a/\c.A.tR k a)/\c.tv w'/\c.DG k M w'/\c.Head g' w')
def Dx(k:Nat)(M:lF)(g:lZ)(w:lE):Prop:=g.status=.running/\∃g' w' es l,stepG c.P false g w=.go g' w' es/\c.Lays k w w'/\(∀e∈es,∃a,e.loc=.cell a/\c.A.tR k a)/\c.tv w'/\(∀p,p∈l->c.A.tR k p.1/\w'.cell? p.1=some p.2)/\Own c.P false c.A.R c.Sh (fun _=>False) (c.Iz k l) M g' w'
def cs:Array CommCase:= #[rcase c.A.Ch c.z,rcase c.A.Ov c.zo]
def Cl(_:lF)(g:lZ)(w:lE):Prop:=
 g.status=.running/\g.offers=none/\stepG c.P false g w=.comm g c.cs true .select w #[]/\
  (∀k:Nat,k<c.m->c.WO (c.Dx k) (g.finishComm c.P c.cs .select 0 (.int .i64 k) true) w)/\c.WO c.AtR0 (g.finishComm c.P c.cs .select 1 c.zo false) w
def Fa(M:lF)(g:lZ)(w:lE):Prop:=c.Cl M g w\/∃g2 cs sh,c.Cl M g2 w/\g={Go.Conc.parked g2 cs sh with status:=.running}
def AtAcq(_:lF)(g:lZ)(w:lE):Prop:=g.status=.running/\∃g',stepG c.P true g w=.go g' w #[Go.ConcR.mk (.acquire<|stA c.A.Wg)]/\c.GS g'
def AtKe(_:lF)(g:lZ)(w:lE):Prop:=g.status=.running/\∃g',stepG c.P true g w=.go g' w #[Go.ConcR.mk .enable]/\c.MO c.AtAcq g' w
def AtW4(_:lF)(g:lZ)(w:lE):Prop:=g.status=.running/\(WgAt c.ty c.A.Wg w 0 0->∃g',stepG c.P true g w=.go g' w #[rd (stA c.A.Wg)]/\c.MO c.AtKe g' w)
def AtW3(_:lF)(g:lZ)(w:lE):Prop:=
 g.status=.running/\g.offers=none/\
  ((∃st,WgAt c.ty c.A.Wg w st 0)->stepG c.P true g w=.go {g with status:=.blocked} w #[])/\
  (WgAt c.ty c.A.Wg w 0 1->∃g',stepG c.P true g w=.go g' (w.setCell (smA c.A.Wg)<|.int .u32 0) (semEvents<|smA c.A.Wg)/\c.MO c.AtW4 g' (w.setCell (smA c.A.Wg)<|.int .u32 0))
def AtW2(vs:Nat)(_:lF)(g:lZ)(w:lE):Prop:=
 g.status=.running/\∀v:Nat,v<2147483648->WgAt c.ty c.A.Wg w (v*KK) 0->
  (v=vs->∃g',stepG c.P true g w=.go g' (w.setCell (stA c.A.Wg)<|.int .u64<|v*KK+1) #[rd (stA c.A.Wg),wr<|stA c.A.Wg]/\c.MO c.AtW3 g' (w.setCell (stA c.A.Wg)<|.int .u64<|v*KK+1))/\
  (v≠vs->∃g',stepG c.P true g w=.go g' w #[rd (stA c.A.Wg)]/\c.MO (fun _=>c.AS) g' w)
def AtW1(_:lF)(g:lZ)(w:lE):Prop:=
 g.status=.running/\∀v:Nat,v<2147483648->WgAt c.ty c.A.Wg w (v*KK) 0->∃g',stepG c.P true g w=.go g' w #[rd (stA c.A.Wg)]/\
  (v=0->c.MO c.AtKe g' w)/\(v≠0->c.MO (c.AtW2 v) g' w)
def AtKd(_:lF)(g:lZ)(w:lE):Prop:=g.status=.running/\∃g',stepG c.P true g w=.go g' w #[Go.ConcR.mk .disable]/\c.MO (fun _=>c.AS) g' w
def AtClose(_:lF)(g:lZ)(w:lE):Prop:=
 g.status=.running/\mayWake c.P g=true/\∀s r tm,w.heap[c.A.Ov]?=some (.chan 0 #[] false s r tm)->
  ∃g',g'.status=.running/\stepG c.P true g w=.go g' (w.setChan c.A.Ov 0 #[] true s r tm) #[⟨.obj c.A.Ov,false,true⟩,⟨.obj c.A.Ov,true,true⟩]/\c.MO c.AtKd g' (w.setChan c.A.Ov 0 #[] true s r tm)
def AtSend(k:Nat)(Next:vo)(_:lF)(g:lZ)(w:lE):Prop:=g.status=.running/\g.offers=none/\∃z,stepG c.P true g w=.comm g #[scase c.A.Ch (.int .i64 k) z] true .send w #[]/\Next (Go.Conc.served g undef) w
def Sends:Nat->Goroutine->World->Prop
 |0,g,w=>c.MO c.AtClose g w|r+1,g,w=>c.MO (c.AtSend (c.m-(r+1))<|Sends r) g w
def AtGoS(Next:vo)(_:lF)(g:lZ)(w:lE):Prop:=g.status=.running/\∃g' child,stepG c.P true g w=.spawn g' child w #[]/\child.status=.running/\c.WO c.Cl child w/\Next g' w
def AtKeS(Next:vo)(_:lF)(g:lZ)(w:lE):Prop:=g.status=.running/\∃g',stepG c.P true g w=.go g' w #[Go.ConcR.mk .enable]/\c.MO (c.AtGoS Next) g' w
def AtA1(Next:vo)(_:lF)(g:lZ)(w:lE):Prop:=
 g.status=.running/\∀v:Nat,v<2147483647->WgAt c.ty c.A.Wg w (v*KK) 0->
  ∃g',stepG c.P true g w=.go g' (w.setCell (stA c.A.Wg)<|.int .u64<|(v+1)*KK) #[rd (stA c.A.Wg),wr<|stA c.A.Wg]/\
   c.MO (c.AtKeS Next) g' (w.setCell (stA c.A.Wg)<|.int .u64<|(v+1)*KK)
def AtKdS(Next:vo)(_:lF)(g:lZ)(w:lE):Prop:=g.status=.running/\∃g',stepG c.P true g w=.go g' w #[Go.ConcR.mk .disable]/\c.MO (c.AtA1 Next) g' w
def Spawns:Nat->Goroutine->World->Prop
 |0,g,w=>c.Sends c.m g w|r+1,g,w=>c.MO (c.AtKdS<|Spawns r) g w
theorem auY:∀{r:Nat} {g:lZ} {w w1:lE},c.Sends r g w->c.Rel none_ w w1->c.Sends r g w1
 |0,g,w,w1,h,hr=>Own.rely h hr|r+1,g,w,w1,h,hr=>Own.rely h hr
structure Ok0:Prop where
 nq:c.A.Ok
 qD:∀w w',w.heap.size<=w'.heap.size->(∀b,b<c.A.B0->b≠c.A.Wg->b≠c.A.Ch->b≠c.A.Ov->w'.heap[b]?=w.heap[b]?)->c.tv w->c.tv w'
structure Ok:Prop extends c.Ok0 where
 res:∀k D w w',(∀b,D b->w'.heap[b]?=w.heap[b]?)->(∀a,c.A.tR k a->w'.cell? a=w.cell? a)->c.DG k D w->c.DG k D w'
 head:∀g w,c.Sh w->c.Head g w->c.WO c.Cl g w
 anch:∀g w,c.AS g w->c.MO c.AtW1 g w
 Z4:∀g w,c.AS g w->g.status=.running
 N:c.N<2147483648
 z0:c.A.z0<c.N
end mg
open Go Go.Conc
open Go.ConcR (stA smA rd wr KK WgAt Bk)
open Go.ConcN (upd upd_same upd_ne sumTo sumTo_upd CTag Mode WD Vc OpenSt AllQuit isOpen isFin isW3)
inductive WS where
 |take|pz|busy (k:Nat) (o:Option (List<|Addr×Value))|r0|k1|d1|d2|d3|d4|quit
def WS.num:WS->Nat
 |.take|.pz|.busy _ _|.r0=>7|.k1=>6|.d1=>5|.d2=>4|.d3=>3|.d4=>2|.quit=>1
def WS.wt:WS->Nat
 |.busy _ none=>11|.busy _ (some _)=>10|.take=>9|.pz=>8|.r0=>7|.k1=>6|.d1=>5|.d2=>4|.d3=>3|.d4=>2|.quit=>1
def WS.key:WS->Option Nat
 |.busy k _=>some k|_=>none
def WS.loops:WS->Prop
 |.take|.pz|.busy _ _=>True|_=>False
structure GD where
 st:WS
 M:lF
 tr:mO
 deaf:Nat
def GD.wd(d:GD):WD:=⟨d.st.num,0,0⟩
inductive MT where
 |sp (r s:Nat)|send (r:Nat)|qH (r:Nat)|xb|kd|anch|w1|w2 (vs:Nat)|w3|blk|w4|ke|acq|done
def MT.ct:MT->CTag
 |.sp r s=>.sp r s|.send _|.qH _|.xb|.kd=>.kd|.anch=>.anch|.w1=>.w1|.w2 vs=>.w2 vs|.w3=>.w3|.blk=>.blk|.w4=>.w4|.ke=>.ke|.acq=>.acq|.done=>.ret
def MT.opn:MT->Bool
 |.sp _ _|.send _|.qH _|.xb=>true|_=>false
def MT.started(N:Nat):MT->Nat
 |.sp r _=>N-(r+1)|_=>N
def MT.nx(m:Nat):MT->Nat
 |.sp _ _=>0|.send r|.qH r=>m-(r+1)|_=>m
def MT.fits(N z0 m:Nat):MT->Prop
 |.sp r _=>r+z0<N|.send r|.qH r=>r<m|_=>True
def MT.phi(N m v:Nat):MT->Nat
 |.sp r s=>9*N+5*m+20+32*(r+1)+s|.send r=>9*N+5*(r+1)+9|.qH r=>9*N+5*(r+1)+8|.xb=>9*N+8|.kd=>8*N+7|.anch=>8*v+6|.w1=>8*v+5|.w2 vs=>8*vs+4
 |.w3=>5|.blk=>5|.w4=>4|.ke=>3|.acq=>2|.done=>1
theorem MT.phi_mono(N m:Nat){v v':Nat}(h:v'<=v)(tag:MT):tag.phi N m v'<=tag.phi N m v:=by cases tag<;>simp only[MT.phi]<;>omega
namespace mg
variable(c:mg)
abbrev IS(Stop:(Nat->Prop)->Goroutine->World->Prop)(τ:mO)(M:Nat->Prop)(g:Goroutine)(w:World):Prop:=rF c.P false c.A.R c.Sh (fun _=>False) Stop τ M g w
abbrev rE(Stop:(Nat->Prop)->Goroutine->World->Prop)(τ:mO)(M:Nat->Prop)(g:Goroutine)(w:World):Prop:=rF c.P true c.A.R c.Sh c.Cv Stop τ M g w
inductive WSit:GD->Goroutine->World->Prop
 |take {M:lF} {τ:mO} {g:lZ} {w:lE}:c.IS c.Fa τ M g w->WSit ⟨.take,M,τ,0⟩ g w|pz {M:lF} {g:lZ} {w:lE}:(∀w1,c.Rel M w w1->c.Cl M g w1)->WSit ⟨.pz,M,.leaf,0⟩ (Go.Conc.parked g c.cs .select) w|busy {k:Nat} {M:lF} {τ:mO} {g:lZ} {w:lE}:c.IS (c.Dx k) τ M g w->WSit ⟨.busy k none,M,τ,0⟩ g w|IW {k:Nat} {l:List (Addr×Value)} {M:lF} {τ:mO} {g:lZ} {w:lE}:c.IS (c.Iz k l) τ M g w->WSit ⟨.busy k<|some l,M,τ,0⟩ g w|r0 {M:lF} {τ:mO} {g:lZ} {w:lE}:c.IS c.AtR0 τ M g w->WSit ⟨.r0,M,τ,0⟩ g w|k1 {n:Nat} {g:lZ} {w:lE}:Goes c.P false (c.Rel none_) Go.ConcR.DC0 c.AtK1 n g w->WSit ⟨.k1,none_,.chain n,0⟩ g w|d1 {n:Nat} {g:lZ} {w:lE}:Goes c.P false (c.Rel none_) Go.ConcR.DC0 c.AtD1 n g w->WSit ⟨.d1,none_,.chain n,1⟩ g w|d2 {n:Nat} {g:lZ} {w:lE}:Goes c.P false (c.Rel none_) Go.ConcR.DC0 c.AtD2 n g w->WSit ⟨.d2,none_,.chain n,1⟩ g w|d3 {n:Nat} {g:lZ} {w:lE}:Goes c.P false (c.Rel none_) Go.ConcR.DC0 c.AtD3 n g w->WSit ⟨.d3,none_,.chain n,1⟩ g w|d4 {n:Nat} {g:lZ} {w:lE}:Goes c.P false (c.Rel none_) Go.ConcR.DC0 c.AtD4 n g w->WSit ⟨.d4,none_,.chain n,1⟩ g w|quit {q d:Nat} {g:lZ} {w:lE}:QuitsD c.P q d g->WSit ⟨.quit,none_,.chain q,d⟩ g w
inductive ql:MT->(Nat->Prop)->mO->Nat->Goroutine->World->Prop
 |skd {r:Nat} {M:lF} {τ:mO} {g:lZ} {w:lE}:c.rE (c.AtKdS<|c.Spawns r) τ M g w->ql (.sp r 5) M τ 0 g w|sa1 {r:Nat} {M:lF} {τ:mO} {g:lZ} {w:lE}:c.rE (c.AtA1<|c.Spawns r) τ M g w->ql (.sp r 4) M τ 1 g w|ske {r:Nat} {M:lF} {τ:mO} {g:lZ} {w:lE}:c.rE (c.AtKeS<|c.Spawns r) τ M g w->ql (.sp r 3) M τ 1 g w|sgo {r:Nat} {M:lF} {τ:mO} {g:lZ} {w:lE}:c.rE (c.AtGoS<|c.Spawns r) τ M g w->ql (.sp r 2) M τ 0 g w|send {r:Nat} {M:lF} {τ:mO} {g:lZ} {w:lE}:c.rE (c.AtSend (c.m-(r+1))<|c.Sends r) τ M g w->ql (.send r) M τ 0 g w|qH {r:Nat} {M:lF} {z:lH} {g:lZ} {w:lE}:(∀w1,c.Rel M w w1->c.AtSend (c.m-(r+1)) (c.Sends r) M g w1)->ql (.qH r) M .leaf 0 (Go.Conc.parked g #[scase c.A.Ch (.int .i64 (c.m-(r+1):Nat)) z] .send) w|xb {M:lF} {τ:mO} {g:lZ} {w:lE}:c.rE c.AtClose τ M g w->ql .xb M τ 0 g w|kd {M:lF} {τ:mO} {g:lZ} {w:lE}:c.rE c.AtKd τ M g w->ql .kd M τ 0 g w|anch {M:lF} {τ:mO} {g:lZ} {w:lE}:c.rE (fun _=>c.AS) τ M g w->ql .anch M τ 1 g w|w1 {M:lF} {τ:mO} {g:lZ} {w:lE}:c.rE c.AtW1 τ M g w->ql .w1 M τ 1 g w|w2 {vs:Nat} {M:lF} {τ:mO} {g:lZ} {w:lE}:c.rE (c.AtW2 vs) τ M g w->ql (.w2 vs) M τ 1 g w|w3 {M:lF} {τ:mO} {g:lZ} {w:lE}:c.rE c.AtW3 τ M g w->ql .w3 M τ.wrap 1 g w|blk {M:lF} {g:lZ} {w:lE}:(∀w1,c.Rel M w w1->c.AtW3 M g w1)->ql .blk M .leaf 1 {g with status:=.blocked} w|w4 {M:lF} {τ:mO} {g:lZ} {w:lE}:c.rE c.AtW4 τ M g w->ql .w4 M τ 1 g w|ke {M:lF} {τ:mO} {g:lZ} {w:lE}:c.rE c.AtKe τ M g w->ql .ke M τ 1 g w|acq {M:lF} {τ:mO} {g:lZ} {w:lE}:c.rE c.AtAcq τ M g w->ql .acq M τ 0 g w|done {M:lF} {g:lZ} {w:lE}:c.GS g->ql .done M .leaf 0 g w
variable{c}
theorem Dh(h:c.Rel M w w1):c.Rel none_ w w1:=⟨h.size,fun k hk=>h.mine k (.inr (hk.resolve_left id)),h.tape,h.os,h.out,h.sh⟩
theorem WSit.rely{d:GD}{g:lZ}(h:c.WSit d g w)(hr:c.Rel d.M w w1):c.WSit d g w1:=by
 cases h with
 |take h=>exact .take<|h.rely hr|pz h=>exact .pz fun w2 h2=>h w2<|hr.trans h2
 |busy h=>exact .busy<|h.rely hr|IW h=>exact .IW<|h.rely hr|r0 h=>exact .r0<|h.rely hr|k1 h=>exact .k1<|Goes.rely (fun _ _ _ h1 h2=>h1.trans h2) h<|Dh hr|d1 h=>exact .d1<|Goes.rely (fun _ _ _ h1 h2=>h1.trans h2) h<|Dh hr|d2 h=>exact .d2<|Goes.rely (fun _ _ _ h1 h2=>h1.trans h2) h<|Dh hr|d3 h=>exact .d3<|Goes.rely (fun _ _ _ h1 h2=>h1.trans h2) h<|Dh hr|d4 h=>exact .d4<|Goes.rely (fun _ _ _ h1 h2=>h1.trans h2) h<|Dh hr|quit h=>exact .quit h
theorem ql.rely{tag:MT}{τ:mO}{d:Nat}{g:lZ}(h:c.ql tag M τ d g w)(hr:c.Rel M w w1):c.ql tag M τ d g w1:=by
 cases h with
 |skd h=>exact .skd<|h.rely hr|sa1 h=>exact .sa1<|h.rely hr|ske h=>exact .ske<|h.rely hr|sgo h=>exact .sgo<|h.rely hr|send h=>exact .send<|h.rely hr|qH h=>exact .qH fun w2 h2=>h w2<|hr.trans h2
 |xb h=>exact .xb<|h.rely hr|kd h=>exact .kd<|h.rely hr|anch h=>exact .anch<|h.rely hr|w1 h=>exact .w1<|h.rely hr|w2 h=>exact .w2<|h.rely hr|w3 h=>exact .w3<|h.rely hr|blk h=>exact .blk fun w2 h2=>h w2<|hr.trans h2
 |w4 h=>exact .w4<|h.rely hr|ke h=>exact .ke<|h.rely hr|acq h=>exact .acq<|h.rely hr|done h=>exact .done h
theorem Fa.running{g:lZ}(h:c.Fa M g w):g.status=.running:=by
 rcases h with h|⟨g2,cs,sh,h,rfl⟩
 .exact h.1
 rfl
theorem WSit.status{d:GD}{g:lZ}(h:c.WSit d g w):(g.status=.running/\d.st≠.pz)\/(g.status=.finished/\d.st=.quit)\/(g.status=.blocked/\d.st=.pz):=by
 cases h with
 |take h=>exact .inl ⟨rF.running (fun _ _ _ x=>Fa.running x) h,aq⟩|pz h=>exact .inr<|.inr ⟨rfl,rfl⟩|busy h=>exact .inl ⟨rF.running (fun _ _ _ x=>x.1) h,aq⟩|IW h=>exact .inl ⟨rF.running (fun _ _ _ x=>x.1) h,aq⟩|r0 h=>exact .inl ⟨rF.running (fun _ _ _ x=>x.1) h,aq⟩|k1 h=>exact .inl ⟨jW (fun _ _ x=>x.1) w (.refl ..) h,aq⟩|d1 h=>exact .inl ⟨jW (fun _ _ x=>x.1) w (.refl ..) h,aq⟩|d2 h=>exact .inl ⟨jW (fun _ _ x=>x.1) w (.refl ..) h,aq⟩|d3 h=>exact .inl ⟨jW (fun _ _ x=>x.1) w (.refl ..) h,aq⟩|d4 h=>exact .inl ⟨jW (fun _ _ x=>x.1) w (.refl ..) h,aq⟩|quit h=>exact h.status.elim (fun x=>.inl ⟨x,aq⟩) fun x=>.inr<|.inl ⟨x,rfl⟩
theorem WSit.running{d:GD}{g:lZ}(h:c.WSit d g w)(hp:d.st≠.pz)(hq:d.st≠.quit):g.status=.running:=by
 rcases h.status with h|h|h
 .exact h.1
 .exact ll h.2 hq
 exact ll h.2 hp
theorem ql.status(K:c.Ok){tag:MT}{τ:mO}{d:Nat}{g:lZ}(h:c.ql tag M τ d g w)(hd:tag≠.done):
  (g.status=.running/\tag≠.blk/\∀r,tag≠.qH r)\/(g.status=.blocked/\(tag=.blk\/∃r,tag=.qH r)):=by
 cases h with
 |skd h=>exact .inl ⟨rF.running (fun _ _ _ x=>x.1) h,aq,aq⟩|sa1 h=>exact .inl ⟨rF.running (fun _ _ _ x=>x.1) h,aq,aq⟩|ske h=>exact .inl ⟨rF.running (fun _ _ _ x=>x.1) h,aq,aq⟩|sgo h=>exact .inl ⟨rF.running (fun _ _ _ x=>x.1) h,aq,aq⟩|send h=>exact .inl ⟨rF.running (fun _ _ _ x=>x.1) h,aq,aq⟩|qH h=>exact .inr ⟨rfl,.inr ⟨_,rfl⟩⟩|xb h=>exact .inl ⟨rF.running (fun _ _ _ x=>x.1) h,aq,aq⟩|kd h=>exact .inl ⟨rF.running (fun _ _ _ x=>x.1) h,aq,aq⟩|anch h=>exact .inl ⟨rF.running (fun _ _ _ x=>K.Z4 _ _ x) h,aq,aq⟩|w1 h=>exact .inl ⟨rF.running (fun _ _ _ x=>x.1) h,aq,aq⟩|w2 h=>exact .inl ⟨rF.running (fun _ _ _ x=>x.1) h,aq,aq⟩|w3 h=>exact .inl ⟨rF.running (fun _ _ _ x=>x.1) h,aq,aq⟩|blk h=>exact .inr ⟨rfl,.inl rfl⟩|w4 h=>exact .inl ⟨rF.running (fun _ _ _ x=>x.1) h,aq,aq⟩|ke h=>exact .inl ⟨rF.running (fun _ _ _ x=>x.1) h,aq,aq⟩|acq h=>exact .inl ⟨rF.running (fun _ _ _ x=>x.1) h,aq,aq⟩|done h=>exact ll rfl hd
theorem WSit.woken{d:GD}{g:lZ}(h:c.WSit d g w)(a a':lZ)(ho:d.st=.pz->(∃s r tm,w'.heap[c.A.Ch]?=some (.chan 0 #[] false s r tm))/\∃s r tm,w'.heap[c.A.Ov]?=some (.chan 0 #[] false s r tm)):woken c.P a a' w' g=g:=by
 rcases h.status with⟨hs,_⟩|⟨hs,_⟩|⟨hs,hp⟩
 .unfold Go.Conc.woken;split
  .exact again_running _<|.inl hs
  rfl
 .unfold Go.Conc.woken;split
  .exact again_running _<|.inr hs
  rfl
 have⟨⟨s,r,tm,hc⟩,⟨s',r',tm',vc⟩⟩:=ho hp;cases h with
 |pz h=>
  unfold Go.Conc.woken;split
  .exact again_all_open fun cc xV=>by
    simp only[mg.cs,iB,jM,iD,ld]at xV;rcases xV with rfl|rfl
    .exact⟨_,_,_,_,_,_,_,Z,hc⟩
    exact⟨_,_,_,_,_,_,_,Z,vc⟩
  rfl
 |quit h=>cases hp
 |_=>cases hp
theorem ql.wokenBy(K:c.Ok){tag:MT}{τ:mO}{d:Nat}{a:lZ}(h:c.ql tag M τ d a w)(hd:tag≠.done)(hr:c.Rel M w w')(g g':lZ)
  (ho:∀r,tag=.qH r->∃s q tm,w'.heap[c.A.Ch]?=some (.chan 0 #[] false s q tm)):
  ∃tag' tP,c.ql tag' M tP d (Go.Conc.woken c.P g g' w' a) w'/\((tag'=tag/\tP=τ)\/(tag=.blk/\tag'=.w3))/\(mayWake c.P g->g'.status=.running->tag'≠.blk):=by
 have h':=h.rely hr;rcases h'.status K hd with⟨hs,mK,_⟩|⟨_,rfl|⟨r,rfl⟩⟩
 .exact⟨tag,τ,by rw[woken_running hs];exact h',.inl ⟨rfl,rfl⟩,fun _ _=>mK⟩
 .cases h' with
  |blk hb=>
   rename_i g0;have h3:=hb w'<|.refl ..;unfold Go.Conc.woken;split
   .refine⟨.w3,mO.wrap .leaf,?_,.inr ⟨Z,Z⟩,fun _ _=>aq⟩;rw[Go.ConcR.again_blocked h3.1 h3.2.1];exact .w3 (τ:=.leaf) hb
   rename_i hc;exact⟨.blk,.leaf,.blk hb,.inl ⟨Z,Z⟩,fun h1 h2=>ll (by simp[h1,h2]) hc⟩
 have⟨s,q,tm,hc⟩:=ho r rfl;refine⟨.qH r,τ,?_,.inl ⟨Z,Z⟩,fun _ _=>aq⟩;have e:Go.Conc.woken c.P g g' w' a=a:=by
  cases h' with
  |qH hb=>exact woken_send_open g g' hc
 rw[e];exact h'
end mg
open Go Go.Conc
open Go.ConcR (stA smA rd wr KK WgAt Bk g_of_ofEvents)
open Go.ConcN (upd upd_same upd_ne sumTo sumTo_upd CTag Mode WD Vc OpenSt AllQuit isOpen isFin isW3 cnt Vc_upd get_map_set get_map_set_same)
def pH.grow(H:pH)(n g:Nat):pH:={H with size:=n,own:=fun b=>if b<H.size then H.own b else g}
theorem pH.UA(H:pH)(g:Nat)(h:H.size<=n):H.Le (H.grow n g):=⟨h,fun b hb=>by simp[pH.grow,hb],ku _,fun _ _=>rfl⟩
namespace mg
variable(c:mg)
structure vV(M:lF)(w w':lE):Prop where
 size:w.heap.size<=w'.heap.size
 keep:∀b,b<w.heap.size->c.A.R b\/(c.A.B0<=b/\¬M b)->w'.heap[b]?=w.heap[b]?
 tape:w'.tape=w.tape
 os:w'.os=w.os
 out:w'.output=w.output
variable{c}
theorem vV.refl(M:lF)(w:lE):c.vV M w w:=⟨ku _,fun _ _ _=>rfl,rfl,rfl,rfl⟩
theorem vV.rel(K:c.Ok){M':lF}(h:c.vV M w w')(hB:c.A.B0<=w.heap.size)(xq:c.Sh w')(hM:∀b,M' b->c.A.B0<=b/\b<w.heap.size/\¬M b):c.Rel M' w w':=⟨h.size,fun b hb=>hb.elim (fun x=>let⟨h1,h2,h3⟩:=hM b x;h.keep b h2 (.inr ⟨h1,h3⟩)) fun x=>h.keep b (gK (K.nq.rB b x) hB)<|.inl x,h.tape,h.os,h.out,fun _=>xq⟩
theorem vV.own(K:c.Ok)(h:nJ M w w')(hM:∀b,M b->c.A.B0<=b):c.vV M w w':=⟨h.size,fun b hb hx=>h.rest b (fun hm=>hx.elim (fun x=>by have:=hM b hm;have:=K.nq.rB b x;omega) fun x=>x.2 hm) hb,h.tape,h.os,h.out⟩
theorem vV.low(K:c.Ok)(x:Nat)(hx:x<c.A.B0)(hxR:¬c.A.R x)(hs:w'.heap.size=w.heap.size)(hk:∀b,b≠x->w'.heap[b]?=w.heap[b]?)(ht:w'.tape=w.tape)(ho:w'.os=w.os)(hp:w'.output=w.output):c.vV M w w':=⟨j3 hs.symm,fun b _ hb=>hk b (fun e=>by subst e;exact hb.elim (fun y=>hxR y) fun y=>aa),ht,ho,hp⟩
theorem vV.setCell(K:c.Ok)(w:lE)(p:Addr)(v:lH)(hp:p.block=c.A.Wg):c.vV M w (w.setCell p v):=
 .low K c.A.Wg K.nq.wB (fun h=>(K.nq.rW _ h).1 rfl) (by simp[World.setCell]) (fun b hb=>by simp only[World.setCell,fw];rw[lp (by rw[hp];exact fun e=>hb e.symm)]) rfl rfl rfl
variable(c) in
structure nT(w0:lE)(gs:sA)(w:lE)(t:Trace)(j:Nat)(D:Nat->GD)(tag:MT)(M0:lF)(ml:mO)(d0:Nat)(a:lZ)(st sm:Int)(H:pH):Prop where
 size:gs.size=j+1
 ha:gs[0]?=some a
 ms:c.ql tag M0 ml d0 a w
 jj:tag.started c.N=j
 fits:tag.fits c.N c.A.z0 c.m
 nx:H.nx=tag.nx c.m
 wk:∀i,i<j->∃g,gs[i+1]?=some g/\c.WSit (D i) g w
 old:∀i,i<c.A.z0->(D i).st=.quit
 opn:tag.opn->∀i,c.A.z0<=i->i<j->(D i).st.loops
 Da:tag.opn=false\/(∃r,tag=.qH r)->∀i,i<j->(D i).st≠.pz
 ch:∃s r tm,w.heap[c.A.Ch]?=some (.chan 0 #[] false s r tm)
 ov:∃s r tm,w.heap[c.A.Ov]?=some (.chan 0 #[] (!tag.opn) s r tm)
 wg:WgAt c.ty c.A.Wg w st sm
 mode:Go.ConcN.Mode j (fun a=>(D a).wd) tag.ct st sm
 qD:c.tv w
 ti:TI c.A H j t
 vD:H.size=w.heap.size
 hB:c.A.B0<=w.heap.size
 mem:∀i,i<j->∀b,(D i).M b->c.A.B0<=b/\b<w.heap.size/\H.own b=i+1
 zI:∀b,M0 b->c.A.B0<=b/\b<w.heap.size/\H.own b=0
 deaf0:Deaf t 0=d0
 deafW:∀i,i<j->Deaf t (i+1)=(D i).deaf
 above:∀g,j<g->Deaf t g=0
 rel:∀i,c.A.z0<=i->i<j->(D i).st.num<=6->∃r,zg c.A t (i+1) r
 keys:∀k,k<H.nx->(∃i,i<j/\(D i).st.key=some k/\H.hold k=i+1)\/(∃Dk:lF,c.DG k Dk w/\∀b,Dk b->c.A.B0<=b/\b<w.heap.size/\¬M0 b/\∀i,i<j->¬(D i).M b)
 busy:∀i,i<j->∀k,(D i).st.key=some k->k<H.nx/\H.hold k=i+1
 B5:∀i,i<j->∀k l,(D i).st=.busy k (some l)->∀p,p∈l->c.A.tR k p.1/\w.cell? p.1=some p.2
 Dl:c.Rel none_ w0 w
 acq:tag=.done->∃q,t.act? q=some (.mark<|.acquire<|stA c.A.Wg)/\t.g? q=some 0/\t.heard q/\∀g,c.A.z0<g->g<=j->∃r,zg c.A t g r/\r<q
variable(c) in
def mu(j:Nat)(D:Nat->GD)(tag:MT)(ml:mO):Mu:=(tag.phi c.N c.m (Vc j fun a=>(D a).wd)+sumTo j (fun i=>(D i).st.wt),(fun i=>(D i).tr,ml))
variable(c) in
def zW(w0:lE)(μ:Mu)(m:Machine)(t:Trace):Prop:=
 ∃(gs:sA) (w:lE) (sl:tS) (j:Nat) (D:Nat->GD) (tag:MT) (M0:lF) (ml:mO) (d0:Nat) (a:lZ) (st sm:Int) (H:pH),
  m=crowd gs w sl/\c.nT w0 gs w t j D tag M0 ml d0 a st sm H/\μ=c.mu j D tag ml
section
variable{w0 w w':lE}{gs:sA}{t:Trace}{j:Nat}{D:Nat->GD}{tag:MT}{M0:lF}{ml:mO}{d0:Nat}{a:lZ}{st sm:Int}{H:pH}{sl:tS}
theorem nT.sh(I:c.nT w0 gs w t j D tag M0 ml d0 a st sm H):c.Sh w:=⟨⟨_,_,I.wg⟩,I.ch,let⟨s,r,tm,h⟩:=I.ov;⟨_,s,r,tm,h⟩,I.qD⟩
theorem nT.jN(I:c.nT w0 gs w t j D tag M0 ml d0 a st sm H):j<=c.N:=by have:=I.jj;subst this;unfold MT.started;split<;>omega
theorem It(D:Nat->GD)(i:Nat)(d:GD):(fun a=>(upd D i d a).wd)=upd (fun a=>(D a).wd) i d.wd:=by
 funext a;by_cases e:a=i
 .subst e;rw[upd_same,upd_same]
 rw[lu D _ e,lu _ _ e]
theorem workerStep(K:c.Ok)(I:c.nT w0 gs w t j D tag M0 ml d0 a st sm H)(nf:tag≠.done){i:Nat}(hi:i<j){g g':lZ}{es:Array Event}{d':GD}{st' sm':Int}
  (hg:gs[i+1]?=some g) (aBk:stepG c.P false g w=.go g' w' es) (uf:c.vV (D i).M w w')
  (pM:w'.heap[c.A.Ch]?=w.heap[c.A.Ch]?) (sH:w'.heap[c.A.Ov]?=w.heap[c.A.Ov]?) (wy:c.tv w') (En:WgAt c.ty c.A.Wg w' st' sm') (r8:c.WSit d' g' w')
  (HJ:TI c.A (H.grow w'.heap.size<|i+1) j (t++MemOp.ofEvents (i+1) g.frame.fn g.frame.place es)) (anY:deafBehind (D i).deaf es=d'.deaf)
  (vg:c.A.z0<=i->d'.st.num<=6->∃r,zg c.A (t++MemOp.ofEvents (i+1) g.frame.fn g.frame.place es) (i+1) r)
  (hM:∀b,d'.M b->(D i).M b\/(w.heap.size<=b/\b<w'.heap.size))
  (qi:∀tag',(tag'=tag\/(tag=.blk/\tag'=.w3))->(mayWake c.P g->g'.status=.running->tag'≠.blk)->Go.ConcN.Mode j (upd (fun a=>(D a).wd) i d'.wd) tag'.ct st' sm')
  (ao8:i<c.A.z0->d'.st=.quit) (FZ:tag.opn->c.A.z0<=i->d'.st.loops) (api:d'.st≠.pz)
  (nU:∀k a,c.A.tR k a->(D i).st.key≠some k->w'.cell? a=w.cell? a)
  (hk:∀k,(D i).st.key=some k->d'.st.key=some k\/(c.DG k (D i).M w'/\d'.M=none_)) (nY:∀k,d'.st.key=some k->(D i).st.key=some k) (aoO:∀k l,d'.st=.busy k (some l)->∀p,p∈l->c.A.tR k p.1/\w'.cell? p.1=some p.2)
  (lX:(d'.st.wt<(D i).st.wt/\cnt d'.wd<=cnt (D i).wd)\/(d'.st.wt=(D i).st.wt/\cnt d'.wd=cnt (D i).wd/\mO.lt d'.tr (D i).tr)):
  ∃m1 aBi qK,runT c.P (crowd gs w sl) (i+1)=(.next m1,aBi)/\zZ c.N qK (c.mu j D tag ml)/\c.zW w0 qK m1 (t++aBi):=by
 have CZ:c.Sh w':=⟨⟨_,_,En⟩,let⟨s,r,tm,h⟩:=I.ch;⟨s,r,tm,pM.trans h⟩,let⟨s,r,tm,h⟩:=I.ov;⟨_,s,r,tm,sH.trans h⟩,wy⟩
 have G2:∀i' b,i'<j->i'≠i->(D i').M b->¬(D i).M b:=fun i' b mr mK h1 h2=>by have:=(I.mem i' mr b h1).2.2;have:=(I.mem i hi b h2).2.2;omega
 have zB:c.Rel M0 w w':=uf.rel K I.hB CZ fun b hb=>⟨(I.zI b hb).1,(I.zI b hb).2.1,fun h=>by
  have:=(I.mem i hi b h).2.2;have:=(I.zI b hb).2.2
  omega⟩
 have Jv:∀i',i'<j->i'≠i->c.Rel (D i').M w w':=fun i' mr mK=>uf.rel K I.hB CZ fun b hb=>⟨(I.mem i' mr b hb).1,(I.mem i' mr b hb).2.1,G2 i' b mr mK hb⟩
 have VA:∃s r tm,w'.heap[c.A.Ch]?=some (.chan 0 #[] false s r tm):=let⟨s,r,tm,h⟩:=I.ch;⟨s,r,tm,pM.trans h⟩;have apb:tag.opn->∃s r tm,w'.heap[c.A.Ov]?=some (.chan 0 #[] false s r tm):=fun ho=>by have⟨s,r,tm,h⟩:=I.ov;rw[ho]at h;exact⟨s,r,tm,sH.trans h⟩
 have CW:∀r,tag=.qH r->∃s q tm,w'.heap[c.A.Ch]?=some (.chan 0 #[] false s q tm):=fun r e=>VA;have⟨tag',tP,aoR,F3,BU⟩:=I.ms.wokenBy K nf zB g g' CW;have F4:tag'=tag\/(tag=.blk/\tag'=.w3):=F3.imp (·.1) id;have nK:=runT_crowd_go (P:=c.P) (sl:=sl) (i:=i+1) hg (by simpa using aBk);have azy:=H.UA (i+1) (n:=w'.heap.size) (by rw[I.vD];exact uf.size);have HB:tag'.opn=tag.opn:=by rcases F4 with rfl|⟨rfl,rfl⟩<;>rfl
 have apD:tag'.started c.N=tag.started c.N:=by rcases F4 with rfl|⟨rfl,rfl⟩<;>rfl
 have py:tag'.nx c.m=tag.nx c.m:=by rcases F4 with rfl|⟨rfl,rfl⟩<;>rfl
 have qc:∀b,w.heap.size<=b->(H.grow w'.heap.size<|i+1).own b=i+1:=fun b hb=>cR;have Js:∀b,b<w.heap.size->(H.grow w'.heap.size<|i+1).own b=H.own b:=fun b hb=>by simp only[pH.grow];rw[I.vD,lq hb]
 refine⟨_,_,c.mu j (upd D i d') tag' tP,nK,?_,_,w',sl,j,upd D i d',tag',M0,tP,d0,Go.Conc.woken c.P g g' w' a,st',sm',H.grow w'.heap.size<|i+1,Z,?_,Z⟩
 .have e1:=sumTo_upd D d' (fun d=>d.st.wt) hi;have e2:Vc j (upd (fun a=>(D a).wd) i d'.wd)+cnt (D i).wd=Vc j (fun a=>(D a).wd)+cnt d'.wd:=Vc_upd (fun a=>(D a).wd) d'.wd hi;have apj:tag'.phi c.N c.m (Vc j fun a=>(D a).wd)=tag.phi c.N c.m (Vc j fun a=>(D a).wd):=by rcases F4 with rfl|⟨rfl,rfl⟩<;>rfl
  unfold mu;rw[It];rcases lX with⟨h1,h2⟩|⟨h1,h2,h3⟩
  .apply Gg;have:=MT.phi_mono c.N c.m (v':=Vc j<|upd (fun a=>(D a).wd) i d'.wd) (v:=Vc j fun a=>(D a).wd) aa tag';omega
  refine arU ?_ ⟨i,by have:=I.jN;omega,?_,fun x hx=>by dsimp only;rw[lu D _ hx]⟩
  .have:Vc j (upd (fun a=>(D a).wd) i d'.wd)=Vc j fun a=>(D a).wd:=aa;rw[this,apj];omega
  dsimp only;rw[upd_same];exact h3
 have Au:=I.jN
 refine⟨dK,by rw[kA _ _ _ _ aa,I.ha];rfl,aoR,by rw[apD];exact I.jj,?_,by rw[py];exact I.nx,fun i' mr=>?_,fun i' mr=>?_,fun ho i' hz mr=>?_,fun ho i' mr=>?_,VA,?_,En,?_,wy,HJ,rfl,j5 I.hB uf.size,fun i' mr b hb=>?_,fun b hb=>?_,
  by rw[Deaf_other t aa _ jQ,I.deaf0],fun i' mr=>?_,fun g0 vB=>bz,fun i' hz mr hn=>?_,fun k nC=>?_,fun i' mr k hb=>?_,fun i' mr k l hb p hp=>?_,I.Dl.trans (uf.rel K I.hB CZ fun b hb=>hb.elim),fun e=>?_⟩
 .rcases F4 with rfl|⟨rfl,rfl⟩
  .exact I.fits
  trivial
 .by_cases e:i'=i
  .subst e;exact⟨g',get_map_set_same _ _ _ cu,by rw[upd_same];exact r8⟩
  have⟨x,hx,pO⟩:=I.wk i' mr;refine⟨x,?_,by rw[lu D _ e];exact pO.rely<|Jv i' mr e⟩;rw[kA _ _ _ _ aa,hx,jk,pO.woken g g' fun hp=>?_];cases ho:tag.opn with
  |true=>exact⟨VA,apb ho⟩|false=>exact ll hp<|I.Da (.inl ho) i' mr
 .by_cases e:i'=i
  .subst e;rw[upd_same];exact ao8 mr
  rw[lu D _ e];exact I.old i' mr
 .rw[HB]at ho;by_cases e:i'=i
  .subst e;rw[upd_same];exact FZ ho hz
  rw[lu D _ e];exact I.opn ho i' hz mr
 .by_cases e:i'=i
  .subst e;rw[upd_same];exact api
  rw[lu D _ e];refine I.Da ?_ i' mr;rcases ho with ho|⟨r,ho⟩
  .exact .inl<|HB▸ho
  rcases F4 with rfl|⟨_,rfl⟩
  .exact .inr ⟨r,ho⟩
  cases ho
 .have⟨s,r,tm,h⟩:=I.ov;rw[HB];exact⟨s,r,tm,sH.trans h⟩
 .rw[It];exact qi tag' F4 BU
 .by_cases e:i'=i
  .subst e;rw[upd_same]at hb;rcases hM b hb with h|⟨h1,h2⟩
   .have:=I.mem i' mr b h;exact⟨this.1,gK this.2.1 uf.size,(Js b this.2.1).trans this.2.2⟩
   exact⟨j5 I.hB h1,h2,qc b h1⟩
  rw[lu D _ e]at hb;have:=I.mem i' mr b hb;exact⟨this.1,gK this.2.1 uf.size,(Js b this.2.1).trans this.2.2⟩
 .have:=I.zI b hb;exact⟨this.1,gK this.2.1 uf.size,(Js b this.2.1).trans this.2.2⟩
 .by_cases e:i'=i
  .subst e;rw[Deaf_own,I.deafW i' mr,upd_same];exact anY
  rw[Deaf_other t aa _ jQ,I.deafW i' mr,lu D _ e]
 .by_cases e:i'=i
  .subst e;rw[upd_same]at hn;exact vg hz hn
  rw[lu D _ e]at hn;have⟨r,hr⟩:=I.rel i' hz mr hn;exact⟨r,hr.other fun op mw=>df⟩
 .have aoG:k<H.nx:=nC;have mine:(D i).st.key=some k->(∃i',i'<j/\(upd D i d' i').st.key=some k/\(H.grow w'.heap.size<|i+1).hold k=i'+1)\/(∃Dk:lF,c.DG k Dk w'/\∀b,Dk b->c.A.B0<=b/\b<w'.heap.size/\¬M0 b/\∀i',i'<j->¬(upd D i d' i').M b):=by
   intro hb;rcases hk k hb with h|⟨h1,h2⟩
   .exact .inl ⟨i,hi,by rw[upd_same];exact h,(I.busy i hi k hb).2⟩
   refine .inr ⟨(D i).M,h1,fun b hb=>?_⟩;have hm:=I.mem i hi b hb;refine⟨hm.1,gK hm.2.1 uf.size,fun h=>by have:=(I.zI b h).2.2;omega,fun i' mr h=>?_⟩;by_cases e:i'=i
   .subst e;rw[upd_same,h2]at h;exact h
   rw[lu D _ e]at h;exact G2 i' b mr e h hb
  by_cases uj:(D i).st.key=some k
  .exact mine uj
  rcases I.keys k aoG with⟨i0,pE,sj,wC⟩|⟨Dk,ur,zw⟩
  .have e:i0≠i:=fun e=>uj<|e▸sj;exact .inl ⟨i0,pE,by rw[lu D _ e];exact sj,wC⟩
  refine .inr ⟨Dk,K.res k Dk w w' (fun b hb=>?_) (fun a ha=>nU k a ha uj) ur,fun b hb=>?_⟩
  .have⟨h1,h2,_,h4⟩:=zw b hb;exact uf.keep b h2<|.inr ⟨h1,h4 i hi⟩
  have⟨h1,h2,h3,h4⟩:=zw b hb;refine⟨h1,gK h2 uf.size,h3,fun i' mr h=>?_⟩;by_cases e:i'=i
  .subst e;rw[upd_same]at h;rcases hM b h with h|h
   .exact h4 i' mr h
   omega
  rw[lu D _ e]at h;exact h4 i' mr h
 .by_cases e:i'=i
  .subst e;rw[upd_same]at hb;exact I.busy i' mr k<|nY k hb
  rw[lu D _ e]at hb;exact I.busy i' mr k hb
 .by_cases e:i'=i
  .subst e;rw[upd_same]at hb;exact aoO k l hb p hp
  rw[lu D _ e]at hb;have⟨h1,h2⟩:=I.B5 i' mr k l hb p hp;refine⟨h1,(nU k p.1 h1 fun h=>e ?_).trans h2⟩;have:=(I.busy i hi k h).2;have:=(I.busy i' mr k<|by rw[hb];rfl).2;omega
 exfalso;rcases F4 with rfl|⟨_,rfl⟩
 .exact nf e
 cases e
end
end mg
open Go Go.Conc
open Go.ConcR (stA smA rd wr KK WgAt Bk g_of_ofEvents)
open Go.ConcN (upd upd_same upd_ne sumTo sumTo_upd CTag WD Vc OpenSt AllQuit isOpen isFin isW3 cnt Vc_upd get_map_set get_map_set_same)
namespace mg
variable{c:mg}
variable{w0 w w':lE}{gs:sA}{t:Trace}{j:Nat}{D:Nat->GD}{tag tag':MT}{M0 M0':lF}{ml τ0':mO}{d0:Nat}{a a':lZ}{st sm st' sm':Int}{H:pH}{sl:tS}{es:Array Event}
theorem Xp(K:c.Ok)(I:c.nT w0 gs w t j D tag M0 ml d0 a st sm H)(aBk:stepG c.P true a w=.go a' w' es)(uf:c.vV M0 w w')
  (pM:∃s r tm,w'.heap[c.A.Ch]?=some (.chan 0 #[] false s r tm)) (sH:∃s r tm,w'.heap[c.A.Ov]?=some (.chan 0 #[] (!tag'.opn) s r tm)) (wy:c.tv w') (En:WgAt c.ty c.A.Wg w' st' sm') (uo:c.ql tag' M0' τ0' (deafBehind d0 es) a' w')
  (HJ:TI c.A (H.grow w'.heap.size 0) j (t++MemOp.ofEvents 0 a.frame.fn a.frame.place es)) (hM:∀b,M0' b->M0 b\/(w.heap.size<=b/\b<w'.heap.size))
  (qi:Go.ConcN.Mode j (fun a=>(D a).wd) tag'.ct st' sm') (mo:tag'.started c.N=j) (py:tag'.nx c.m=H.nx) (wA:tag'.fits c.N c.A.z0 c.m) (FZ:tag'.opn=tag.opn) (CW:∀r,tag'≠.qH r)
  (nU:∀k a,c.A.tR k a->w'.cell? a=w.cell? a)
  (anm:tag'=.done->∃q,(t++MemOp.ofEvents 0 a.frame.fn a.frame.place es).act? q=some (.mark (.acquire (stA c.A.Wg)))/\(t++MemOp.ofEvents 0 a.frame.fn a.frame.place es).g? q=some 0/\(t++MemOp.ofEvents 0 a.frame.fn a.frame.place es).heard q/\
   ∀g,c.A.z0<g->g<=j->∃r,zg c.A (t++MemOp.ofEvents 0 a.frame.fn a.frame.place es) g r/\r<q)
  (lX:tag'.phi c.N c.m (Vc j fun a=>(D a).wd)<tag.phi c.N c.m (Vc j fun a=>(D a).wd)\/(tag'.phi c.N c.m (Vc j fun a=>(D a).wd)=tag.phi c.N c.m (Vc j fun a=>(D a).wd)/\mO.lt τ0' ml)):
  ∃m1 aBi qK,runT c.P (crowd gs w sl) 0=(.next m1,aBi)/\zZ c.N qK (c.mu j D tag ml)/\c.zW w0 qK m1 (t++aBi):=by
 have CZ:c.Sh w':=⟨⟨_,_,En⟩,pM,let⟨s,r,tm,h⟩:=sH;⟨_,s,r,tm,h⟩,wy⟩
 have Jv:∀i,i<j->c.Rel (D i).M w w':=fun i hi=>uf.rel K I.hB CZ fun b hb=>⟨(I.mem i hi b hb).1,(I.mem i hi b hb).2.1,fun h=>by
  have:=(I.mem i hi b hb).2.2;have:=(I.zI b h).2.2
  omega⟩
 have nK:=runT_crowd_go (P:=c.P) (sl:=sl) (i:=0) I.ha (by simpa using aBk);have qc:∀b,w.heap.size<=b->(H.grow w'.heap.size 0).own b=0:=fun b hb=>cR;have Js:∀b,b<w.heap.size->(H.grow w'.heap.size 0).own b=H.own b:=fun b hb=>by simp only[pH.grow];rw[I.vD,lq hb]
 have Au:=I.jN;refine⟨_,_,c.mu j D tag' τ0',nK,?_,_,w',sl,j,D,tag',M0',τ0',deafBehind d0 es,a',st',sm',H.grow w'.heap.size 0,Z,?_,Z⟩
 .unfold mu;rcases lX with h|⟨h1,h2⟩
  .exact Gg aa
  exact arR aa Z h2
 refine⟨dK,get_map_set_same _ _ _ cu,uo,mo,wA,py.symm,fun i hi=>?_,I.old,fun ho=>I.opn (FZ▸ho),fun ho i hi=>?_,pM,sH,En,qi,wy,HJ,Z,j5 I.hB uf.size,fun i hi b hb=>?_,fun b hb=>?_,
  by rw[Deaf_own,I.deaf0],fun i hi=>by rw[Deaf_other t aa _ jQ,I.deafW i hi],fun g0 vB=>bz,fun i hz hi hn=>?_,fun k nC=>?_,fun i hi k hb=>I.busy i hi k hb,fun i hi k l hb p hp=>let⟨h1,h2⟩:=I.B5 i hi k l hb p hp;⟨h1,(nU k p.1 h1).trans h2⟩,I.Dl.trans (uf.rel K I.hB CZ fun b hb=>hb.elim),anm⟩
 .have⟨x,hx,pO⟩:=I.wk i hi;refine⟨x,?_,pO.rely<|Jv i hi⟩;rw[kA _ _ _ _ aa,hx,jk,pO.woken a a' fun hp=>?_];cases ho:tag'.opn with
  |true=>obtain⟨s,r,tm,h⟩:=sH;rw[ho]at h;exact⟨pM,s,r,tm,h⟩
  |false=>exact ll hp<|I.Da (.inl<|FZ▸ho) i hi
 .refine I.Da (.inl ?_) i hi;rcases ho with ho|⟨r,ho⟩
  .exact FZ▸ho
  exact ll ho<|CW r
 .have:=I.mem i hi b hb;exact⟨this.1,gK this.2.1 uf.size,(Js b this.2.1).trans this.2.2⟩
 .rcases hM b hb with h|⟨h1,h2⟩
  .have:=I.zI b h;exact⟨this.1,gK this.2.1 uf.size,(Js b this.2.1).trans this.2.2⟩
  exact⟨j5 I.hB h1,h2,qc b h1⟩
 .have⟨r,hr⟩:=I.rel i hz hi hn;exact⟨r,hr.other fun op mw=>df⟩
 rcases I.keys k nC with h|⟨Dk,ur,zw⟩
 .exact .inl h
 refine .inr ⟨Dk,K.res k Dk w w' (fun b hb=>?_) (fun a ha=>nU k a ha) ur,fun b hb=>?_⟩
 .have⟨h1,h2,h3,_⟩:=zw b hb;exact uf.keep b h2<|.inr ⟨h1,h3⟩
 have⟨h1,h2,h3,h4⟩:=zw b hb;exact⟨h1,gK h2 uf.size,fun h=>(hM b h).elim h3 fun h=>aa,h4⟩
theorem cell_of{a:Addr}(e:w1.heap[a.block]?=w.heap[a.block]?):w1.cell? a=w.cell? a:=by simp[World.cell?,e]
theorem Nb(K:c.Ok0)(w:lE)(p:Addr)(v:lH)(hp:p.block=c.A.Wg)(b:Nat)(hb:b≠c.A.Wg):(w.setCell p v).heap[b]?=w.heap[b]?:=by simp only[World.setCell,fw];rw[lp (by rw[hp];exact fun e=>hb e.symm)]
theorem ajU{A:wV}{g:Nat}{e:Event}{x:Touch}(h:Bk A.Wg e)(hx:(MemAct.ofEvent e).touch?=some x):uA A H g x:=by
 rcases h with h1|h1|⟨ad,wr,rfl,ha⟩
 .rw[eE h1]at hx;cases hx
 .rw[eE h1]at hx;cases hx
 simp only[fB,MemAct.touch?,ia]at hx;subst hx;exact .wg ad Z ha aq aq
theorem aq0{A:wV}{B:Nat}{e:Event}(h:Bk A.Wg e)(hB:A.Wg<B):(MemAct.ofEvent e).low B:=by
 rcases h with h1|h1|⟨ad,wr,rfl,ha⟩
 .rw[eE h1];trivial
 .rw[eE h1];trivial
 rw[fB];show ad.block<B;omega
theorem aen{A:wV}{e:Event}(h:Bk A.Wg e):MemAct.ofEvent e≠.mark (.release (stA A.Wg)):=by
 rcases h with h1|h1|⟨ad,wr,rfl,ha⟩
 .rw[eE h1];simp
 .rw[eE h1];simp
 rw[fB];simp
theorem adS{A:wV}{e:Event}{x:Touch}(h:Bk A.Wg e)(hx:(MemAct.ofEvent e).touch?=some x):(∃ad,x.loc=.cell ad/\ad.block=A.Wg)/\x.kind=.atomic:=by
 rcases h with h1|h1|⟨ad,wr,rfl,ha⟩
 .rw[eE h1]at hx;cases hx
 .rw[eE h1]at hx;cases hx
 simp only[fB,MemAct.touch?,ia]at hx;subst hx;exact⟨⟨ad,Z,ha⟩,Z⟩
theorem TI.book(K:c.Ok){H':pH}{g:Nat}{fn:FuncId}{pos:String}(h:TI c.A H j t)(hg:g=0\/(c.A.z0<g/\g<=j))(aBm:H.Le H')(hB:c.A.B0<=H'.size)(uj:∀e∈es,Bk c.A.Wg e):TI c.A H' j (t++MemOp.ofEvents g fn pos es):=
 h.app K.nq hg aBm fun op mw=>by rw[kD]at mw;obtain⟨e,he,rfl⟩:=jF.1 mw;exact⟨Z,fun x hx=>ajU (uj e he) hx,aq0 (uj e he)<|gK K.nq.wB hB,aen<|uj e he⟩
theorem TI.own(K:c.Ok){g n':Nat}{fn:FuncId}{pos:String}(h:TI c.A H j t)(hg:g=0\/(c.A.z0<g/\g<=j))(hH:H.size=n)(hn:n<=n')(hB:c.A.B0<=n)
  (hM:∀b,M b->c.A.B0<=b/\b<n/\H.own b=g) (mj:∀e∈es,oc (grown M n n') c.A.R e\/(g=0/\c.Cv e)):TI c.A (H.grow n' g) j (t++MemOp.ofEvents g fn pos es):=by
 refine h.app K.nq hg (H.UA g aa) fun op mw=>?_;rw[kD]at mw;obtain⟨e,he,rfl⟩:=jF.1 mw;have ho0:=mj e he;have zA:∀b,grown M n n' b->c.A.B0<=b/\b<n'/\(H.grow n' g).own b=g:=by
  intro b hb;rcases hb with hb|⟨h1,h2⟩
  .have⟨k1,k2,k3⟩:=hM b hb;exact⟨k1,aa,by simp only[pH.grow];rw[lq aa];exact k3⟩
  exact⟨aa,h2,by simp only[pH.grow];rw[lp aa]⟩
 rcases ho0 with ho|⟨rfl,ad,had,apw⟩
 rotate_left
 .have oV:ad.block<n':=by have:=K.nq.wB;omega
  rcases apw with rfl|rfl
  .refine⟨Z,fun x hx=>?_,oV,bN⟩;have:x=⟨.cell ad,false,.said⟩:=bm;subst this;exact .wg ad Z had aq<|fun _=>Z
  refine⟨Z,fun x hx=>?_,oV,bN⟩;have:x=⟨.cell ad,true,.said⟩:=bm;subst this;exact .wg ad Z had aq<|fun _=>Z
 obtain⟨loc,wr,sy⟩:=e;unfold oc at ho;cases loc with
 |cell ad=>
  simp only at ho;refine⟨Z,fun x hx=>?_,?_,bN⟩
  .have:x=⟨.cell ad,wr,if sy then .atomic else .plain⟩:=bm;subst this;rcases ho with ho|⟨ho,hw⟩
   .have⟨k1,k2,k3⟩:=zA _ ho;exact .own ad.block (.inl ⟨ad,Z,Z⟩) k1 k2 k3
   exact .rd ad Z ho hw
  show ad.block<n';rcases ho with ho|⟨ho,_⟩
  .exact(zA _ ho).2.1
  have:=K.nq.rB _ ho;omega
 |obj r=>
  simp only at ho;have⟨k1,k2,k3⟩:=zA _ ho;by_cases hc:wr=true/\sy=true
  .obtain⟨rfl,rfl⟩:=hc;exact⟨Z,fun x hx=>bS,k2,bN⟩
  have e:MemAct.ofEvent ⟨.obj r,wr,sy⟩=.access ⟨.obj r,wr,sy⟩:=by cases wr<;>cases sy<;>first|rfl|exact ll ⟨rfl,rfl⟩ hc
  rw[e];refine⟨Z,fun x hx=>?_,k2,aq⟩;have:x=⟨.obj r,wr,if sy then .atomic else .plain⟩:=by simpa[MemAct.touch?]using hx.symm
  subst this;exact .own r (.inr Z) k1 k2 k3
 |mark m=>
  simp only at ho;rcases ho with rfl|⟨f,rfl⟩
  .exact⟨Z,fun x hx=>bS,trivial,bN⟩
  exact⟨Z,fun x hx=>bS,trivial,bN⟩
 |_=>exact ho.elim
theorem aha{R:lF}{X:Prop}(mj:∀e∈es,oc M R e\/(X/\c.Cv e))(d:Nat):deafBehind d es=d:=
 deafBehind_still (fun e he=>by
  rcases mj e he with ho|⟨_,a,_,rfl|rfl⟩
  rotate_left
  .exact⟨aq,aq⟩
  .exact⟨aq,aq⟩
  unfold oc at ho
  refine⟨fun h=>?_,fun h=>?_⟩<;>rw[h]at ho<;>rcases ho with h|⟨f,h⟩<;>cases h) d
end mg
open Go Go.Conc
open Go.ConcR (stA smA rd wr KK WgAt Bk g_of_ofEvents)
open Go.ConcN (upd upd_same upd_ne sumTo sumTo_upd CTag WD Vc OpenSt AllQuit isOpen isFin isW3 cnt Vc_upd get_map_set get_map_set_same pend bk_cell others_uncounted le_sumTo Vc_le)
theorem MT.D3{tag tag':MT}(h:tag'=tag\/(tag=.blk/\tag'=.w3)):tag'.ct=tag.ct\/(tag.ct=.blk/\tag'.ct=.w3):=by
 rcases h with rfl|⟨rfl,rfl⟩
 .exact .inl Z
 exact .inr ⟨Z,Z⟩
theorem E3{α:Type}(f:Nat->α)(i:Nat):upd f i (f i)=f:=by
 funext a;by_cases e:a=i
 .subst e;rw[upd_same]
 rw[lu f _ e]
namespace mg
variable{c:mg}
variable{w0 w w':lE}{gs:sA}{t:Trace}{j:Nat}{D:Nat->GD}{tag:MT}{M0:lF}{ml:mO}{d0:Nat}{a:lZ}{st sm st' sm':Int}{H:pH}{sl:tS}{es:Array Event}{i:Nat}{g g':lZ}
variable(c) in
def qw(w0:lE)(gs:sA)(w:lE)(sl:tS)(t:Trace)(j:Nat)(D:Nat->GD)(tag:MT)(ml:mO)(i:Nat):Prop:=∃m1 aBi qK,runT c.P (crowd gs w sl) i=(.next m1,aBi)/\zZ c.N qK (c.mu j D tag ml)/\c.zW w0 qK m1 (t++aBi)
theorem nT.Hd(I:c.nT w0 gs w t j D tag M0 ml d0 a st sm H)(g:Nat)(h:n=w.heap.size):H.Le (H.grow n g):=H.UA g (by rw[I.vD,h];exact ku _)
theorem RS(K:c.Ok)(I:c.nT w0 gs w t j D tag M0 ml d0 a st sm H)(nf:tag≠.done)(hi:i<j)(hz:c.A.z0<=i){s:WS}{τ tP:mO}(hd:D i=⟨s,M,τ,0⟩)(hs7:s.num=7)(nP:s≠.pz)(hg:gs[i+1]?=some g)
  (aBk:stepG c.P false g w=.go g' w' es) (mR:nJ M w w') (VH:∀e∈es,oc (grown M w.heap.size w'.heap.size) c.A.R e\/False) (r8:c.WSit ⟨s,grown M w.heap.size w'.heap.size,tP,0⟩ g' w') (WY:mO.lt tP τ):c.qw w0 gs w sl t j D tag ml (i+1):=by
 have mj:∀e∈es,oc (grown M w.heap.size w'.heap.size) c.A.R e\/(i+1=0/\c.Cv e):=fun e he=>.inl<|(VH e he).resolve_right id;have hM:∀b,M b->c.A.B0<=b/\b<w.heap.size/\H.own b=i+1:=fun b hb=>I.mem i hi b (by rw[hd];exact hb);have oV:∀b,b<c.A.B0->w'.heap[b]?=w.heap[b]?:=fun b hb=>mR.rest b (fun h=>by have:=(hM b h).1;omega)<|gK hb I.hB;have mo:(D i).st=s:=dA;refine workerStep K I nf hi hg aBk (by rw[hd];exact vV.own K mR fun b hb=>(hM b hb).1) (oV _ K.nq.cB) (oV _ K.nq.oB) (K.qD w w' mR.size (fun b h _ _ _=>oV b h) I.qD) (I.wg.of_block<|oV _ K.nq.wB) r8
  (TI.own K I.ti (.inr ⟨aa,aa⟩) I.vD mR.size I.hB hM mj) (by rw[hd];exact aha mj 0) (fun _ h=>by simp only at h;omega) (fun b hb=>?_) (fun tag' ht _=>?_) (fun h=>aa) (fun ho _=>by have:=I.opn ho i hz hi;rw[mo]at this;exact this) nP
  (fun k a ha _=>cell_of<|oV _ (K.nq.mB k a ha).1) (fun k hb=>.inl<|by rw[mo]at hb;exact hb) (fun k hb=>by rw[mo];exact hb) (fun k l e p hp=>have h:=I.B5 i hi k l (mo.trans e) p hp;⟨h.1,(cell_of<|oV _ (K.nq.mB k p.1 h.1).1).trans h.2⟩) (.inr ⟨by rw[mo],dL,by rw[hd];exact WY⟩)
 .rw[hd];rcases hb with h|h
  .exact .inl h
  exact .inr h
 have e:(⟨s,grown M w.heap.size w'.heap.size,tP,0⟩:GD).wd=(fun a=>(D a).wd) i:=by simp[GD.wd,hd]
 rw[e,E3];exact I.mode.retag<|MT.D3 ht
theorem GB(K:c.Ok)(I:c.nT w0 gs w t j D tag M0 ml d0 a st sm H)(nf:tag≠.done)(hi:i<j)(hz:c.A.z0<=i){s s':WS}{τ tP:mO}{dd dd':Nat}(hd:D i=⟨s,none_,τ,dd⟩)(h6:s.num<=6)(Pd:s'.num<=6)(hg:gs[i+1]?=some g)
  (aBk:stepG c.P false g w=.go g' w' es) (hw:w'=w\/∃p v,p.block=c.A.Wg/\w'=w.setCell p v) (En:WgAt c.ty c.A.Wg w' st' sm') (uj:∀e∈es,Bk c.A.Wg e)
  (Jk:∀jx e,es[jx]?=some e->(MemAct.ofEvent e).touch?=none\/0<deafBehind dd (es.extract 0 jx)) (r8:c.WSit ⟨s',none_,tP,dd'⟩ g' w') (hdd:deafBehind dd es=dd')
  (qi:∀tag',(tag'=tag\/(tag=.blk/\tag'=.w3))->(mayWake c.P g->g'.status=.running->tag'≠.blk)->Go.ConcN.Mode j (upd (fun a=>(D a).wd) i ⟨s'.num,0,0⟩) tag'.ct st' sm')
  (lX:(s'.wt<s.wt/\cnt ⟨s'.num,0,0⟩<=cnt ⟨s.num,0,0⟩)\/(s'=s/\mO.lt tP τ)):c.qw w0 gs w sl t j D tag ml (i+1):=by
 have VG:c.vV none_ w w':=by
  rcases hw with rfl|⟨p,v,hp,rfl⟩
  .exact .refl _ _
  exact .setCell K w p v hp
 have oV:∀b,b≠c.A.Wg->w'.heap[b]?=w.heap[b]?:=by
  rcases hw with rfl|⟨p,v,hp,rfl⟩
  .exact fun _ _=>Z
  exact fun b hb=>Nb K.toOk0 w p v hp b hb
 have mR:w'.heap.size=w.heap.size:=by
  rcases hw with rfl|⟨p,v,hp,rfl⟩
  .rfl
  simp[World.setCell]
 have mo:(D i).st=s:=dA;have nb:∀{x:WS} (k:Nat),x.num<=6->x.key≠some k:=fun {x} k h e=>by cases x<;>simp[WS.num,WS.key]at h e
 have Ee:Deaf t (i+1)=dd:=by rw[I.deafW i hi,hd]
 refine workerStep K I nf hi hg aBk (by rw[hd];exact VG) (oV _ fun e=>K.nq.wc e.symm) (oV _ fun e=>K.nq.wo e.symm) (K.qD w w' (j3 mR.symm) (fun b _ h _ _=>oV b h) I.qD) En r8
  (TI.book K I.ti (.inr ⟨aa,aa⟩) (I.Hd _ mR) (by simp only[pH.grow];rw[mR];exact I.hB) uj) (by rw[hd];exact hdd) (fun _ _=>?_) (fun b hb=>hb.elim) (fun tag' ht hk=>qi tag' ht hk) (fun h=>aa) (fun ho _=>?_) (fun e=>?_)
  (fun k a ha _=>cell_of<|oV _ (K.nq.mB k a ha).2.1) (fun k hb=>ll (by rw[mo]at hb;exact hb)<|nb k h6) (fun k hb=>ll hb<|nb k Pd) (fun k l e=>by simp only at e;rw[e]at Pd;simp[WS.num]at Pd) ?_
 .have⟨r,hr⟩:=I.rel i hz hi (by rw[mo];exact h6);refine⟨r,hr.app (hr.rel.book Ee _ _ uj Jk) fun op mw _ x hx=>?_⟩;rw[kD]at mw;obtain⟨e,he,rfl⟩:=jF.1 mw;exact adS (uj e he) hx
 .have:=I.opn ho i hz hi;rw[mo]at this;cases s<;>simp[WS.num,WS.loops]at h6 this
 .simp only at e;subst e;simp[WS.num]at Pd
 rcases lX with⟨h1,h2⟩|⟨rfl,h2⟩
 .exact .inl ⟨by rw[mo];exact h1,by rw[hd];exact h2⟩
 exact .inr ⟨by rw[mo],dL,by rw[hd];exact h2⟩
theorem NY(K:c.Ok)(I:c.nT w0 gs w t j D tag M0 ml d0 a st sm H)(nf:tag≠.done)(hi:i<j)(hz:c.A.z0<=i){s:WS}{dd:Nat}(hd:D i=⟨s,none_,.chain (n+1),dd⟩)(h6:s.num<=6)(hg:gs[i+1]?=some g)
  (aBk:stepG c.P false g w=.go g' w #[]) (r8:c.WSit ⟨s,none_,.chain n,dd⟩ g' w):c.qw w0 gs w sl t j D tag ml (i+1):=
 GB K I nf hi hz hd h6 h6 hg aBk (.inl rfl) I.wg aq aq r8 rfl (fun tag' ht _=>by
  have e:(⟨s.num,0,0⟩:WD)=(fun a=>(D a).wd) i:=by simp[GD.wd,hd]
  rw[e,E3]
  exact I.mode.retag (MT.D3 ht)) (.inr ⟨Z,⟨_,w,Z,Z⟩⟩)
theorem LO{Stop:vo}(h:Goes c.P false (c.Rel none_) Go.ConcR.DC0 Stop n g w):
  Stop g w\/∃n' g',n=n'+1/\stepG c.P false g w=.go g' w #[]/\Goes c.P false (c.Rel none_) Go.ConcR.DC0 Stop n' g' w:=by
 rcases Goes.cases h with HI|⟨m',rfl,uM⟩
 .exact .inl<|HI w<|.refl ..
 obtain⟨g',w',es,aBk,⟨rfl,rfl⟩,qp⟩:=uM w<|.refl ..;exact .inr ⟨m',g',Z,aBk,qp⟩
theorem axI(K:c.Ok)(I:c.nT w0 gs w t j D tag M0 ml d0 a st sm H)(nf:tag≠.done)(hi:i<j)(hz:c.A.z0<=i){τ:mO}(hd:D i=⟨.r0,M,τ,0⟩)(hg:gs[i+1]?=some g)(h:c.AtR0 M g w):c.qw w0 gs w sl t j D tag ml (i+1):=by
 obtain⟨_,g',aBk,n,hk⟩:=h;have mo:(D i).st=.r0:=dA;have Ee:Deaf t (i+1)=0:=by rw[I.deafW i hi,hd]
 have Qa:(D i).wd=⟨7,0,0⟩:=dL;have Jm:∀e∈ #[Go.ConcR.mk (.releaseMerge<|stA c.A.Wg)],MemAct.ofEvent e=.mark (.releaseMerge<|stA c.A.Wg):=by intro e he;simp at he;subst he;rfl
 refine workerStep K I nf hi hg aBk (.refl _ _) Z Z I.qD I.wg (d':=⟨.k1,none_,.chain n,0⟩) (.k1 hk) (I.ti.app (g:=i+1) K.nq (.inr ⟨aa,aa⟩) (I.Hd _ rfl) fun op mw=>?_) dL (fun _ _=>⟨t.size,?_⟩) (fun b hb=>hb.elim)
  (fun tag' ht _=>?_) (fun h=>aa) (fun ho _=>?_) aq (fun _ _ _ _=>rfl) (fun k hb=>by rw[mo]at hb;cases hb) (fun k hb=>by cases hb) (fun k l e=>bD) (.inl ⟨by rw[mo];simp[WS.wt],by rw[Qa];simp[GD.wd,WS.num,cnt]⟩)
 .rw[kD]at mw;obtain⟨e,he,rfl⟩:=jF.1 mw;have:=Jm e he;refine⟨Z,fun x hx=>(by have ru:(MemAct.ofEvent e).touch?=some x:=hx;rw[this]at ru;cases ru),?_,(by show MemAct.ofEvent e≠_;rw[this];simp)⟩;show(MemAct.ofEvent e).low _;rw[this];show c.A.Wg<w.heap.size;exact gK K.nq.wB I.hB
 .refine⟨Go.ConcN.RelBy.new Ee _ _,fun i' a' mr Ea _=>?_⟩;have⟨z,oM,F8⟩:=lf Ea;rcases fO oM with⟨lX,_⟩|⟨_,hu⟩
  .omega
  rw[kD]at hu;obtain⟨e,he,rfl⟩:=jF.1 hu;have adw:(MemAct.ofEvent e).touch?=some a':=F8;rw[Jm e he]at adw;cases adw
 .have:=I.mode.counted (i:=i) hi (by rw[Qa];decide) (.inl rfl) 0 0;exact this.retag<|MT.D3 ht
 have:=I.opn ho i hz hi;rw[mo]at this;exact this.elim
theorem axG(K:c.Ok)(I:c.nT w0 gs w t j D tag M0 ml d0 a st sm H)(nf:tag≠.done)(hi:i<j)(hz:c.A.z0<=i)(hd:D i=⟨.k1,none_,.chain n,0⟩)(hg:gs[i+1]?=some g)(h:Goes c.P false (c.Rel none_) Go.ConcR.DC0 c.AtK1 n g w):c.qw w0 gs w sl t j D tag ml (i+1):=by
 rcases LO h with hs|⟨n',g',rfl,aBk,hk⟩
 .obtain⟨_,g',aBk,n2,hk⟩:=hs;refine GB K I nf hi hz hd aw (s':=.d1) aw hg aBk (.inl Z) I.wg (by intro e he;simp at he;subst he;exact .inl rfl)
   (by intro jx e he;exact .inl (by have:=fz he;simp at this;subst this;rfl)) (.d1 hk) rfl (fun tag' ht _=>?_) (.inl ⟨aw,aw⟩)
  have:=I.mode.counted (i:=i) hi dF (.inr rfl) 0 0;exact this.retag<|MT.D3 ht
 exact NY K I nf hi hz hd aw hg aBk<|.k1 hk
theorem axH(K:c.Ok)(I:c.nT w0 gs w t j D tag M0 ml d0 a st sm H)(nf:tag≠.done)(hi:i<j){q dd:Nat}(hd:D i=⟨.quit,none_,.chain q,dd⟩)(hg:gs[i+1]?=some g)(nK:g.status=.running)(h:QuitsD c.P q dd g):c.qw w0 gs w sl t j D tag ml (i+1):=by
 cases q with
 |zero=>rw[h.1]at nK;cases nK
 |succ q=>
  rcases h with⟨hf,_⟩|⟨_,g',es,PT,uM,hq⟩
  .rw[hf]at nK;cases nK
  have uj:∀e∈es,Bk c.A.Wg e:=fun e he=>Go.ConcR.bk_of_mute<|PT e he;have mo:(D i).st=.quit:=dA;have Ee:Deaf t (i+1)=dd:=by rw[I.deafW i hi,hd]
  have mI:∀jx e,es[jx]?=some e->(MemAct.ofEvent e).touch?=none\/0<deafBehind dd (es.extract 0 jx):=fun jx e he=>.inl<|touch_mute<|PT e<|fz he;refine workerStep K I nf hi hg (uM w) (.refl _ _) Z Z I.qD I.wg (d':=⟨.quit,none_,.chain q,deafBehind dd es⟩) (.quit hq) (I.ti.quiet (I.Hd _ Z) fun op mw=>?_) dA (fun hz _=>?_) (fun b hb=>hb.elim)
   (fun tag' ht _=>?_) (fun _=>rfl) (fun ho hz=>?_) aq (fun _ _ _ _=>rfl) (fun k hb=>by rw[mo]at hb;cases hb) (fun k hb=>by cases hb) (fun k l e=>bD) (.inr ⟨by rw[mo],dL,by rw[hd];exact⟨_,w,rfl,rfl⟩⟩)
  .rw[kD]at mw;obtain⟨e,he,rfl⟩:=jF.1 mw;exact⟨dz,touch_mute<|PT e he,low_mute (PT e he) _,aen<|uj e he⟩
  .have⟨r,hr⟩:=I.rel i hz hi (by rw[mo];decide);refine⟨r,hr.app (hr.rel.book Ee _ _ uj mI) fun op mw _ x hx=>?_⟩;rw[kD]at mw;obtain⟨e,he,rfl⟩:=jF.1 mw;exact adS (uj e he) hx
  .have e:(⟨.quit,none_,.chain q,deafBehind dd es⟩:GD).wd=(fun a=>(D a).wd) i:=by simp[GD.wd,hd]
   rw[e,E3];exact I.mode.retag<|MT.D3 ht
  have:=I.opn ho i hz hi;rw[mo]at this;exact this.elim
end mg
open Go Go.Conc
open Go.ConcR (stA smA rd wr KK WgAt Bk g_of_ofEvents)
open Go.ConcN (upd upd_same upd_ne sumTo sumTo_upd CTag WD Vc OpenSt AllQuit isOpen isFin isW3 cnt Vc_upd get_map_set get_map_set_same pend bk_cell others_uncounted le_sumTo Vc_le)
namespace mg
variable{c:mg}
variable{w0 w w':lE}{gs:sA}{t:Trace}{j:Nat}{D:Nat->GD}{tag:MT}{M0:lF}{ml:mO}{d0:Nat}{a:lZ}{st sm st' sm':Int}{H:pH}{sl:tS}{es:Array Event}{i:Nat}{g g':lZ}
theorem axC(K:c.Ok)(I:c.nT w0 gs w t j D tag M0 ml d0 a st sm H)(nf:tag≠.done)(hi:i<j)(hz:c.A.z0<=i)(hd:D i=⟨.d1,none_,.chain n,1⟩)(hg:gs[i+1]?=some g)(h:Goes c.P false (c.Rel none_) Go.ConcR.DC0 c.AtD1 n g w):c.qw w0 gs w sl t j D tag ml (i+1):=by
 rcases LO h with hs|⟨n',g',rfl,aBk,hk⟩
 .obtain⟨_,nG⟩:=hs;obtain⟨f,hf⟩:∃f:Nat->WD,f=fun a=>(D a).wd:=⟨_,rfl⟩
  have qi:=I.mode;rw[<-hf]at qi;have xZ:f i=⟨5,0,0⟩:=cA;have oT:cnt (f i)=1:=by rw[xZ];rfl
  have hV1:1<=Vc j f:=by have:=le_sumTo (f:=fun x=>cnt<|f x) hi;simp only[Vc];omega
  have hVj:=Vc_le j f;have Au:=I.jN;have hN:=K.N;have bk2:∀e∈ #[rd (stA c.A.Wg),wr<|stA c.A.Wg],Bk c.A.Wg e:=by intro e he;simp at he;rcases he with rfl|rfl<;>exact bk_cell _ _ rfl
  have S7:∀jx e,(#[rd (stA c.A.Wg),wr<|stA c.A.Wg]:Array Event)[jx]?=some e->(MemAct.ofEvent e).touch?=none\/0<deafBehind 1 ((#[rd (stA c.A.Wg),wr<|stA c.A.Wg]:Array Event).extract 0 jx):=by
   intro jx e he
   match jx,he with
   |0,_=>exact .inr (by simp[deafBehind])|1,_=>exact .inr (by simp[deafBehind,rd])|jx+2,he=>simp at he
  have UO:∀s:Nat,s<5->Vc j (upd f i ⟨s,0,0⟩)+1=Vc j f:=fun s hs=>by
   have:=Vc_upd f (⟨s,0,0⟩:WD) hi;have c0:cnt (⟨s,0,0⟩:WD)=0:=by simp only[cnt];rw[lp aa]
   omega
  have opq:OpenSt j f->OpenSt j (upd f i ⟨1,0,0⟩):=fun h a ha=>by
   by_cases e:a=i
   .subst e;rw[upd_same];simp
   rw[lu _ _ e];exact h a ha
  have Ax:pend tag.ct<=1:=by cases tag<;>simp only[MT.ct,pend]<;>(try split)<;>omega
  have rq:=I.wg;have F0:0<pend tag.ct->j<c.N:=fun hp=>by have hj:=I.jj;have wA:=I.fits;cases tag<;>simp only[MT.ct,pend,MT.started,MT.fits]at hp hj wA<;>omega
  have uu:∀tag',(tag'=tag\/(tag=.blk/\tag'=.w3))->tag'.ct=tag.ct\/(tag.ct=.blk/\tag'.ct=.w3):=fun _=>MT.D3;generalize tag.ct=ct at qi Ax F0 uu;cases qi with
  |opn h1 h2 h3=>
   obtain⟨v,hv⟩:∃v,Vc j f+pend ct=v+1:=⟨Vc j f+pend ct-1,aa⟩
   rw[hv]at rq;have xr:WgAt c.ty c.A.Wg w (((v:Nat)+1)*KK+((0:Nat):Int)) 0:=dy;have W3:v<2147483647:=by
    rcases j6 0 (pend ct)with hp|hp
    .have:=F0 hp;omega
    omega
   have⟨g',aBk,_,hq⟩:=nG v 0 aa W3 xr;have⟨q,hq⟩:=hq aa;have HO:Vc j (upd f i ⟨1,0,0⟩)+pend ct=v:=by have:=UO 1 aa;omega
   refine GB K I nf hi hz hd aw (s':=.quit) aw hg aBk (.inr ⟨_,_,Z,Z⟩) (rq.setSt _) bk2 S7 (.quit hq) Z (fun tag' ht _=>?_)<|.inl ⟨aw,aw⟩;rw[<-hf];have e:((v:Nat):Int)*KK+((0:Nat):Int)=((Vc j (upd f i ⟨1,0,0⟩)+pend ct:Nat):Int)*KK:=by rw[HO];simp
   rw[e];exact(Go.ConcN.Mode.opn h1 (opq h2) (fun vs ev=>by have:=h3 vs ev;have:=UO 1 aa;omega)).retag<|uu tag' ht
  |reg h1 h2 h3=>
   obtain⟨v,hv⟩:∃v,Vc j f=v+1:=⟨Vc j f-1,aa⟩
   rw[hv]at rq;have xr:WgAt c.ty c.A.Wg w (((v:Nat)+1)*KK+((1:Nat):Int)) 0:=dy;have⟨g',aBk,hl,hq⟩:=nG v 1 aa aa xr;by_cases MU:v=0
   .subst MU;have⟨n2,hk⟩:=hl ⟨rfl,rfl⟩;refine GB K I nf hi hz hd aw (s':=.d2) aw hg aBk (.inr ⟨_,_,Z,Z⟩) (rq.setSt _) bk2 S7 (.d2 hk) Z (fun tag' ht _=>?_)<|.inl ⟨aw,aw⟩;rw[<-hf];have xo:∀a,a<j->a≠i->(f a).stage=1:=fun a ha e=>by
     have c0:=others_uncounted hi hv oT a ha e;have:=h2 a ha;simp only[cnt]at c0;split at c0<;>omega
    have:=Go.ConcN.Mode.last (j:=j) (D:=upd f i ⟨4,0,0⟩) (tag:=ct) i h1 hi (by rw[upd_same];simp) (fun a ha e=>by rw[lu _ _ e];exact xo a ha e);rw[upd_same]at this;simpa[WS.num]using this.retag (uu tag' ht)
   have⟨q,hq⟩:=hq aa;have HO:Vc j (upd f i ⟨1,0,0⟩)=v:=by have:=UO 1 aa;omega
   refine GB K I nf hi hz hd aw (s':=.quit) aw hg aBk (.inr ⟨_,_,Z,Z⟩) (rq.setSt _) bk2 S7 (.quit hq) Z (fun tag' ht _=>?_)<|.inl ⟨aw,aw⟩;rw[<-hf];have e:((v:Nat):Int)*KK+((1:Nat):Int)=((Vc j (upd f i ⟨1,0,0⟩):Nat):Int)*KK+1:=by rw[HO];simp
   rw[e];exact(Go.ConcN.Mode.reg h1 (opq h2) aa).retag<|uu tag' ht
  |last L _ h2 h3 h4=>
   by_cases e:i=L
   .subst e;rw[xZ]at h3;simp at h3
   have:=h4 i hi e;rw[xZ]at this;simp at this
  |sema h2=>have:=h2 i hi;rw[xZ]at this;simp at this
  |fin _ h2=>have:=h2 i hi;rw[xZ]at this;simp at this
 exact NY K I nf hi hz hd aw hg aBk<|.d1 hk
theorem adR{s:Nat}(h1:isW3 tag.ct)(hi:i<j)(hs:s=4\/s=3\/s=2){f:Nat->WD}(xo:∀a,a<j->a≠i->(f a).stage=1){tag':MT}(ht:tag'=tag\/(tag=.blk/\tag'=.w3)){x:Int}(hx:x=if s=2 then 0 else 1):
  Go.ConcN.Mode j (upd f i ⟨s,0,0⟩) tag'.ct x 0:=by
 have:=Go.ConcN.Mode.last (j:=j) (D:=upd f i ⟨s,0,0⟩) (tag:=tag.ct) i h1 hi (by rw[upd_same];exact hs) (fun a ha e=>by rw[lu _ _ e];exact xo a ha e);rw[upd_same]at this;rw[hx];exact this.retag<|MT.D3 ht
theorem axD(K:c.Ok)(I:c.nT w0 gs w t j D tag M0 ml d0 a st sm H)(nf:tag≠.done)(hi:i<j)(hz:c.A.z0<=i)(hd:D i=⟨.d2,none_,.chain n,1⟩)(hg:gs[i+1]?=some g)(h:Goes c.P false (c.Rel none_) Go.ConcR.DC0 c.AtD2 n g w):c.qw w0 gs w sl t j D tag ml (i+1):=by
 rcases LO h with hs|⟨n',g',rfl,aBk,hk⟩
 .obtain⟨_,hx⟩:=hs;obtain⟨f,hf⟩:∃f:Nat->WD,f=fun a=>(D a).wd:=⟨_,rfl⟩
  have qi:=I.mode;rw[<-hf]at qi;have xZ:(f i).stage=4:=cA;obtain⟨Mc,xo,rfl,rfl⟩:=qi.isLast hi aa;have rq:=I.wg;simp only[xZ]at rq;have⟨g',aBk,n2,hk⟩:=hx dy;exact GB K I nf hi hz hd aw (s':=.d3) aw hg aBk (.inl Z) rq (by intro e he;simp at he;subst he;exact bk_cell _ _ rfl)
   (by intro jx e he;match jx,he with|0,_=>exact .inr (by simp[deafBehind])|jx+1,he=>simp at he) (.d3 hk) rfl (fun tag' ht _=>by rw[<-hf];exact adR Mc hi (.inr<|.inl rfl) xo ht aq) (.inl ⟨aw,aw⟩)
 exact NY K I nf hi hz hd aw hg aBk<|.d2 hk
theorem axE(K:c.Ok)(I:c.nT w0 gs w t j D tag M0 ml d0 a st sm H)(nf:tag≠.done)(hi:i<j)(hz:c.A.z0<=i)(hd:D i=⟨.d3,none_,.chain n,1⟩)(hg:gs[i+1]?=some g)(h:Goes c.P false (c.Rel none_) Go.ConcR.DC0 c.AtD3 n g w):c.qw w0 gs w sl t j D tag ml (i+1):=by
 rcases LO h with hs|⟨n',g',rfl,aBk,hk⟩
 .obtain⟨_,hx⟩:=hs;obtain⟨f,hf⟩:∃f:Nat->WD,f=fun a=>(D a).wd:=⟨_,rfl⟩
  have qi:=I.mode;rw[<-hf]at qi;have xZ:(f i).stage=3:=cA;obtain⟨Mc,xo,rfl,rfl⟩:=qi.isLast hi aa;have rq:=I.wg;simp only[xZ]at rq;have⟨g',aBk,n2,hk⟩:=hx dy;exact GB K I nf hi hz hd aw (s':=.d4) aw hg aBk (.inr ⟨_,_,Z,Z⟩) (rq.setSt 0) (by intro e he;simp at he;subst he;exact bk_cell _ _ rfl)
   (by intro jx e he;match jx,he with|0,_=>exact .inr (by simp[deafBehind])|jx+1,he=>simp at he) (.d4 hk) rfl (fun tag' ht _=>by rw[<-hf];exact adR Mc hi (.inr<|.inr rfl) xo ht aq) (.inl ⟨aw,aw⟩)
 exact NY K I nf hi hz hd aw hg aBk<|.d3 hk
theorem axF(K:c.Ok)(I:c.nT w0 gs w t j D tag M0 ml d0 a st sm H)(nf:tag≠.done)(hi:i<j)(hz:c.A.z0<=i)(hd:D i=⟨.d4,none_,.chain n,1⟩)(hg:gs[i+1]?=some g)(h:Goes c.P false (c.Rel none_) Go.ConcR.DC0 c.AtD4 n g w):c.qw w0 gs w sl t j D tag ml (i+1):=by
 rcases LO h with hs|⟨n',g',rfl,aBk,hk⟩
 .obtain⟨_,Mt,hx⟩:=hs;obtain⟨f,hf⟩:∃f:Nat->WD,f=fun a=>(D a).wd:=⟨_,rfl⟩
  have qi:=I.mode;rw[<-hf]at qi;have xZ:(f i).stage=2:=cA;obtain⟨Mc,xo,rfl,rfl⟩:=qi.isLast hi aa;have rq:=I.wg;simp only[xZ]at rq;have⟨g',aBk,q,hq⟩:=hx dy;have HF:g'.status=.running:=by
   cases q with
   |zero=>exact ll hq.2 aw|succ q=>exact hq.elim (fun x=>ll x.2 aw)<|fun x=>x.1
  refine GB K I nf hi hz hd aw (s':=.quit) aw hg aBk (.inr ⟨_,_,Z,Z⟩) (rq.setSm 1) Go.ConcN.bk_sem ?_ (.quit hq) dq (fun tag' ht hw=>?_)<|.inl ⟨aw,aw⟩
  .intro jx e he
   match jx,he with
   |0,he=>simp[semEvents]at he;subst he;exact .inl rfl|1,_=>exact .inr dq|2,_=>exact .inr dq|3,he=>simp[semEvents]at he;subst he;exact .inl rfl|jx+4,he=>simp[semEvents]at he
  have Ei:=hw Mt HF;have e3:tag'=.w3:=by
   rcases ht with rfl|⟨_,rfl⟩
   .cases tag'<;>first|rfl|exact Mc.elim|exact ll rfl Ei
   rfl
  subst e3;simp only[lj];rw[<-hf];exact .sema fun a ha=>by
   by_cases e:a=i
   .subst e;rw[upd_same];rfl
   rw[lu _ _ e];exact xo a ha e
 exact NY K I nf hi hz hd aw hg aBk<|.d4 hk
theorem ahb(K:c.Ok)(I:c.nT w0 gs w t j D tag M0 ml d0 a st sm H)(hi:i<j)(mo:(D i).st.key=some k)(hl:w'.heap.size=w.heap.size)(mj:∀e∈es,∃a,e.loc=.cell a/\c.A.tR k a){fn:FuncId}{pos:String}:
  ∀op∈MemOp.ofEvents (i+1) fn pos es,op.g=i+1/\(∀x,op.act.touch?=some x->uA c.A (H.grow w'.heap.size<|i+1) (i+1) x)/\op.act.low (H.grow w'.heap.size<|i+1).size/\op.act≠.mark (.release<|stA c.A.Wg):=by
 intro op mw;rw[kD]at mw;obtain⟨e,he,rfl⟩:=jF.1 mw;have⟨ad,PQ,hm⟩:=mj e he;obtain⟨loc,wr,sy⟩:=e;simp only at PQ;subst PQ;have e1:MemAct.ofEvent ⟨.cell ad,wr,sy⟩=.access ⟨.cell ad,wr,sy⟩:=by cases wr<;>cases sy<;>rfl
 refine⟨Z,fun x hx=>?_,?_,(by show MemAct.ofEvent ⟨.cell ad,wr,sy⟩≠_;rw[e1];simp)⟩
 .have ru:(MemAct.ofEvent ⟨.cell ad,wr,sy⟩).touch?=some x:=hx;rw[e1]at ru;simp only[MemAct.touch?,ia]at ru;subst ru;have⟨h1,h2⟩:=I.busy i hi k mo;exact .key k ad Z hm h1 h2
 show(MemAct.ofEvent ⟨.cell ad,wr,sy⟩).low _;rw[e1];show ad.block<w'.heap.size;have:=(K.nq.mB k ad hm).1;have:=I.hB;omega
theorem Lays.keep(K:c.Ok)(hl:c.Lays k w w')(b:Nat)(hb:b=c.A.Wg\/b=c.A.Ch\/b=c.A.Ov\/c.A.R b\/c.A.B0<=b):w'.heap[b]?=w.heap[b]?:=
 hl.TN b fun a ha e=>by
  subst e;have:=K.nq.mB k a ha;rcases hb with h|h|h|h|h
  .exact this.2.1 h
  .exact this.2.2.1 h
  .exact this.2.2.2 h
  .exact K.nq.rM k a ha h
  omega
theorem aqV{X:Addr->Prop}(mj:∀e∈es,∃a,e.loc=.cell a/\X a):∀e∈es,e.loc≠.mark .disable/\e.loc≠.mark .enable:=fun e he=>by have⟨ad,PQ,_⟩:=mj e he;rw[PQ];exact⟨aq,aq⟩
theorem axJ(K:c.Ok)(I:c.nT w0 gs w t j D tag M0 ml d0 a st sm H)(nf:tag≠.done)(hi:i<j)(hz:c.A.z0<=i){τ:mO}(hd:D i=⟨.busy k none,M,τ,0⟩)(hg:gs[i+1]?=some g)(h:c.Dx k M g w):c.qw w0 gs w sl t j D tag ml (i+1):=by
 obtain⟨_,g',w',es,lx,aBk,hl,mj,wy,VY,nO⟩:=h;have mo:(D i).st=.busy k none:=dA;have wD:(D i).st.key=some k:=by rw[mo];rfl
 have uK:=hl.keep K;have⟨tP,qd⟩:=nO.tree;refine workerStep K I nf hi hg aBk ⟨j3 hl.size.symm,fun b _ hb=>uK b<|hb.elim (fun h=>.inr<|.inr<|.inr<|.inl h) fun h=>.inr<|.inr<|.inr<|.inr h.1,hl.tape,hl.os,hl.out⟩ (uK _<|.inr<|.inl Z) (uK _<|.inr<|.inr<|.inl Z) wy (I.wg.of_block<|uK _<|.inl Z)
  (d':=⟨.busy k<|some lx,M,tP,0⟩) (.IW qd) (I.ti.app (g:=i+1) K.nq (.inr ⟨aa,aa⟩) (I.Hd _ hl.size)<|ahb K I hi wD hl.size mj) cV (fun _ h=>by simp[WS.num]at h) (fun b hb=>.inl<|by rw[hd];exact hb) (fun tag' ht _=>?_) (fun h=>aa) (fun _ _=>trivial) aq
  (fun k' a ha mK=>hl.cells a fun hm=>mK<|by rw[wD,K.nq.mU _ _ _ hm ha]) (fun k' hb=>.inl<|by rw[wD]at hb;exact hb) (fun k' hb=>by rw[wD];exact hb) (fun k' l' e=>by cases e;exact VY) (.inl ⟨by rw[mo];simp[WS.wt],by rw[hd];simp[GD.wd,WS.num,cnt]⟩)
 have e:(⟨.busy k<|some lx,M,tP,0⟩:GD).wd=(fun a=>(D a).wd) i:=dF;rw[e,E3];exact I.mode.retag<|MT.D3 ht
theorem axK(K:c.Ok)(I:c.nT w0 gs w t j D tag M0 ml d0 a st sm H)(nf:tag≠.done)(hi:i<j)(hz:c.A.z0<=i){lx:List (Addr×Value)}{τ:mO}(hd:D i=⟨.busy k (some lx),M,τ,0⟩)(hg:gs[i+1]?=some g)(h:c.Iz k lx M g w):c.qw w0 gs w sl t j D tag ml (i+1):=by
 have mo:(D i).st=.busy k (some lx):=dA;obtain⟨_,h2⟩:=h;have⟨g',w',es,aBk,hl,mj,wy,ur,aoq⟩:=h2 fun p hp=>(I.B5 i hi k lx mo p hp).2;have wD:(D i).st.key=some k:=by rw[mo];rfl
 have hMd:(D i).M=M:=dA;have uK:=hl.keep K;have CZ:c.Sh w':=⟨⟨_,_,I.wg.of_block<|uK _<|.inl rfl⟩,let⟨s,r,tm,h⟩:=I.ch;⟨s,r,tm,(uK _<|.inr<|.inl rfl).trans h⟩,let⟨s,r,tm,h⟩:=I.ov;⟨_,s,r,tm,(uK _<|.inr<|.inr<|.inl rfl).trans h⟩,wy⟩
 have⟨tP,qd⟩:=(Own.mono (K.head _ _ CZ aoq) fun M g w h=>(.inl h:c.Fa M g w)).tree;refine workerStep K I nf hi hg aBk ⟨j3 hl.size.symm,fun b _ hb=>uK b<|hb.elim (fun h=>.inr<|.inr<|.inr<|.inl h) fun h=>.inr<|.inr<|.inr<|.inr h.1,hl.tape,hl.os,hl.out⟩ (uK _<|.inr<|.inl Z) (uK _<|.inr<|.inr<|.inl Z) wy (I.wg.of_block<|uK _<|.inl Z)
  (d':=⟨.take,none_,tP,0⟩) (.take qd) (I.ti.app (g:=i+1) K.nq (.inr ⟨aa,aa⟩) (I.Hd _ hl.size)<|ahb K I hi wD hl.size mj) cV (fun _ h=>by simp[WS.num]at h) (fun b hb=>hb.elim) (fun tag' ht _=>?_) (fun h=>aa) (fun _ _=>trivial) aq
  (fun k' a ha mK=>hl.cells a fun hm=>mK<|by rw[wD,K.nq.mU _ _ _ hm ha]) (fun k' hb=>.inr ?_) (fun k' hb=>by cases hb) (fun k' l' e=>bD) (.inl ⟨by rw[mo];simp[WS.wt],by rw[hd];simp[GD.wd,WS.num,cnt]⟩)
 .have e:(⟨.take,none_,tP,0⟩:GD).wd=(fun a=>(D a).wd) i:=dF;rw[e,E3];exact I.mode.retag<|MT.D3 ht
 rw[wD]at hb;cases hb;exact⟨hMd▸ur,Z⟩
end mg
open Go Go.Conc
open Go.ConcR (stA smA rd wr KK WgAt Bk g_of_ofEvents)
open Go.ConcN (upd upd_same upd_ne sumTo sumTo_upd CTag WD Vc OpenSt AllQuit isOpen isFin isW3 cnt Vc_upd get_map_set get_map_set_same pend bk_cell others_uncounted le_sumTo Vc_le Deaf_still)
namespace mg
variable{c:mg}
variable{w0 w w':lE}{gs gs':sA}{t u:Trace}{j:Nat}{D:Nat->GD}{tag:MT}{M0:lF}{ml:mO}{d0:Nat}{a a':lZ}{st sm st' sm':Int}{H:pH}{sl:tS}{es:Array Event}{i:Nat}{g g':lZ}
structure zc(x:Nat)(w w':lE):Prop where
 size:w'.heap.size=w.heap.size
 keep:∀b,b≠x->w'.heap[b]?=w.heap[b]?
 tape:w'.tape=w.tape
 os:w'.os=w.os
 out:w'.output=w.output
theorem zc.set(x:Nat)(w:lE)(d:Nat)(cl:Bool)(s r:Nat)(tm:Bool):zc x w ((w.at d).setChan x 0 #[] cl s r tm):=⟨by simp[World.setChan,World.at],fun b hb=>by simp only[World.setChan,World.at];rw[dU (fun e=>hb e.symm)],rfl,rfl,rfl⟩
theorem zc.Rk(x:Nat)(w:lE)(cl:Bool)(s r:Nat)(tm:Bool):zc x w (w.setChan x 0 #[] cl s r tm):=⟨by simp[World.setChan],fun b hb=>by simp only[World.setChan];rw[dU (fun e=>hb e.symm)],rfl,rfl,rfl⟩
structure Fo(c:mg)(x:Nat):Prop where
 lt:x<c.A.B0
 wg:c.A.Wg≠x
 rd:¬c.A.R x
 mine:∀k a,c.A.tR k a->a.block≠x
 is:x=c.A.Ch\/x=c.A.Ov
theorem Fo.ch(K:c.Ok):Fo c c.A.Ch:=⟨K.nq.cB,K.nq.wc,fun h=>(K.nq.rW _ h).2.1 rfl,fun k a h=>(K.nq.mB k a h).2.2.1,.inl rfl⟩
theorem Fo.ov(K:c.Ok):Fo c c.A.Ov:=⟨K.nq.oB,K.nq.wo,fun h=>(K.nq.rW _ h).2.2 rfl,fun k a h=>(K.nq.mB k a h).2.2.2,.inr rfl⟩
theorem zc.qD(K:c.Ok){x:Nat}(X:Fo c x)(h:zc x w w')(hc:c.tv w):c.tv w':=K.qD w w' (j3 h.size.symm) (fun b _ _ h1 h2=>h.keep b fun e=>by subst e;exact X.is.elim h1 h2) hc
theorem zc.rel(K:c.Ok){x:Nat}(X:Fo c x)(h:zc x w w')(I:c.nT w0 gs w t j D tag M0 ml d0 a st sm H)(pM:∃s r tm,w'.heap[c.A.Ch]?=some (.chan 0 #[] false s r tm))(sH:∃cl s r tm,w'.heap[c.A.Ov]?=some (.chan 0 #[] cl s r tm))(hM:∀b,M b->c.A.B0<=b/\b<w.heap.size):c.Rel M w w':=by
 have CZ:c.Sh w':=⟨⟨_,_,I.wg.of_block<|h.keep _ X.wg⟩,pM,sH,h.qD K X I.qD⟩
 have uf:c.vV none_ w w':=.low K x X.lt X.rd h.size h.keep h.tape h.os h.out;exact uf.rel K I.hB CZ fun b hb=>⟨(hM b hb).1,(hM b hb).2,fun h=>h⟩
def Ez:Nat->MT
 |0=>.xb|r+1=>.send r
theorem ar7(h:c.Sends r g w):∃τ,c.ql (Ez r) none_ τ 0 g w:=by
 cases r with
 |zero=>obtain⟨τ,h⟩:=Own.tree h;exact⟨τ,.xb h⟩
 |succ r=>obtain⟨τ,h⟩:=Own.tree h;exact⟨τ,.send h⟩
theorem pass(K:c.Ok)(I:c.nT w0 gs w t j D tag M0 ml d0 a st sm H)(hi:i<j)(hz:c.A.z0<=i)(F3:tag=.send r\/tag=.qH r)(mo:(D i).st=.take\/(D i).st=.pz)(xX:d0=0)(wz:(D i).deaf=0)
  (Qa:tag=.send r->(D i).st=.pz)
  (hC:zc c.A.Ch w w') (pM:∃s r tm,w'.heap[c.A.Ch]?=some (.chan 0 #[] false s r tm)) (mR:gs'.size=gs.size) (h0:gs'[0]?=some a') (xj:gs'[i+1]?=some g') (xo:∀b,b≠0->b≠i+1->gs'[b]?=gs[b]?)
  (hm:c.Sends r a' w) (hw:c.WO (c.Dx<|c.m-(r+1)) g' w)
  (hu:∀op∈u,op.g<=j/\op.act.touch?=none/\op.act.low w.heap.size/\(∀m,op.act≠.mark m)):
  ∃qK,zZ c.N qK (c.mu j D tag ml)/\c.zW w0 qK (crowd gs' w' sl) (t++u):=by
 have X:=Fo.ch K;have sH:∃s r tm,w'.heap[c.A.Ov]?=some (.chan 0 #[] (!tag.opn) s r tm):=let⟨s,q,tm,h⟩:=I.ov;⟨s,q,tm,(hC.keep _ fun e=>K.nq.co e.symm).trans h⟩;have Jr:∃cl s r tm,w'.heap[c.A.Ov]?=some (.chan 0 #[] cl s r tm):=let⟨s,q,tm,h⟩:=sH;⟨_,s,q,tm,h⟩;have zB:c.Rel none_ w w':=hC.rel K X I pM Jr fun b hb=>hb.elim;have⟨N5,rm⟩:=ar7<|c.auY hm zB;have⟨Ck,xu⟩:=(hw.rely zB).tree;have hr:r<c.m:=by have:=I.fits;rcases F3 with rfl|rfl<;>exact this
 have py:H.nx=c.m-(r+1):=by rw[I.nx];rcases F3 with rfl|rfl<;>rfl
 have mw:tag.opn:=by rcases F3 with rfl|rfl<;>rfl
 have Au:j=c.N:=by have:=I.jj;rcases F3 with rfl|rfl<;>exact this.symm
 have HH:∀g0,Deaf (t++u) g0=Deaf t g0:=fun g0=>kK t g0 u fun op h=>⟨(hu op h).2.2.2 _,(hu op h).2.2.2 _⟩
 have HQ:(⟨.busy (c.m-(r+1)) none,none_,Ck,0⟩:GD).wd=(D i).wd:=by rcases mo with h|h<;>simp[GD.wd,h,WS.num]
 have acW:(Ez r).opn:=by cases r<;>rfl
 have CL:(Ez r).ct=tag.ct:=by rcases F3 with rfl|rfl<;>cases r<;>rfl
 have e1:sumTo j (fun a=>(upd D i (⟨.busy (c.m-(r+1)) none,none_,Ck,0⟩:GD) a).st.wt)+(D i).st.wt=sumTo j (fun a=>(D a).st.wt)+11:=sumTo_upd D (⟨.busy (c.m-(r+1)) none,none_,Ck,0⟩:GD) (fun d=>d.st.wt) hi
 let H':pH:={H with nx:=H.nx+1,hold:=fun k=>if k<H.nx then H.hold k else i+1}
 have amU:H.Le H':=⟨ku _,fun _ _=>rfl,Nat.le_succ _,fun k hk=>by simp only[H'];rw[lq hk]⟩
 refine⟨c.mu j (upd D i ⟨.busy (c.m-(r+1)) none,none_,Ck,0⟩) (Ez r) N5,?_,gs',w',sl,j,upd D i ⟨.busy (c.m-(r+1)) none,none_,Ck,0⟩,Ez r,none_,N5,0,a',st,sm,H',Z,?_,Z⟩
 .unfold mu;apply Gg;rw[It,HQ,E3 (fun a=>(D a).wd) i];have hp:(Ez r).phi c.N c.m (Vc j fun a=>(D a).wd)<=9*c.N+5*r+9:=by cases r<;>simp only[Ez,MT.phi]<;>omega
  have hpt:tag.phi c.N c.m (Vc j fun a=>(D a).wd)>=9*c.N+5*(r+1)+8:=by rcases F3 with rfl|rfl<;>simp only[MT.phi]<;>omega
  have azQ:tag=.send r->tag.phi c.N c.m (Vc j fun a=>(D a).wd)=9*c.N+5*(r+1)+9:=by rintro rfl;rfl
  rcases mo with h|h<;>rw[h]at e1
  .have h9:WS.take.wt=9:=rfl;rw[h9]at e1;omega
  have h8:WS.pz.wt=8:=rfl;rw[h8]at e1;omega
 refine⟨mR.trans I.size,h0,rm,by rw[Au];cases r<;>rfl,by cases r<;>simp only[Ez,MT.fits]<;>omega,?_,fun i' mr=>?_,fun i' mr=>?_,fun _ i' oM mr=>?_,fun ho i' mr=>?_,pM,?_,I.wg.of_block (hC.keep _ K.nq.wc),?_,hC.qD K X I.qD,?_,I.vD.trans hC.size.symm,by rw[hC.size];exact I.hB,fun i' mr b hb=>?_,fun b hb=>hb.elim,
  by rw[HH,I.deaf0,xX],fun i' mr=>?_,fun g0 vB=>by rw[HH,I.above g0 vB],fun i' oM mr hn=>?_,fun k nC=>?_,fun i' mr k hb=>?_,fun i' mr k l hb p hp=>?_,I.Dl.trans zB,fun e=>?_⟩
 .show H.nx+1=_;rw[py];cases r<;>simp only[Ez,MT.nx]<;>omega
 .by_cases e:i'=i
  .subst e;exact⟨g',xj,by rw[upd_same];exact .busy xu⟩
  have⟨x,hx,pO⟩:=I.wk i' mr;exact⟨x,by rw[xo _ aa aa];exact hx,by rw[lu D _ e];exact pO.rely<|hC.rel K X I pM Jr fun b hb=>⟨(I.mem i' mr b hb).1,(I.mem i' mr b hb).2.1⟩⟩
 .by_cases e:i'=i
  .subst e;omega
  rw[lu D _ e];exact I.old i' mr
 .by_cases e:i'=i
  .subst e;rw[upd_same];trivial
  rw[lu D _ e];exact I.opn mw i' oM mr
 .exfalso;rcases ho with ho|⟨q,ho⟩
  .rw[acW]at ho;cases ho
  cases r<;>cases ho
 .obtain⟨s,q,tm,h⟩:=sH;rw[mw]at h;exact⟨s,q,tm,by rw[acW];exact h⟩
 .rw[It,HQ,E3 (fun a=>(D a).wd) i,CL];exact I.mode
 .exact I.ti.quiet amU fun op mw=>⟨(hu op mw).1,(hu op mw).2.1,by show op.act.low H.size;rw[I.vD];exact(hu op mw).2.2.1,(hu op mw).2.2.2 _⟩
 .by_cases e:i'=i
  .subst e;rw[upd_same]at hb;exact hb.elim
  rw[lu D _ e]at hb;rw[hC.size];exact I.mem i' mr b hb
 .rw[HH,I.deafW i' mr];by_cases e:i'=i
  .subst e;rw[upd_same];exact wz
  rw[lu D _ e]
 .exfalso;by_cases e:i'=i
  .subst e;rw[upd_same]at hn;simp[WS.num]at hn
  rw[lu D _ e]at hn;have:=I.opn mw i' oM mr;cases hs:(D i').st<;>rw[hs]at hn this<;>simp[WS.num,WS.loops]at hn this
 .by_cases ek:k=H.nx
  .refine .inl ⟨i,hi,by rw[upd_same,ek,py];rfl,?_⟩;show(if k<H.nx then H.hold k else i+1)=i+1;rw[lp aa]
  have hk:k<H.nx:=by have:k<H.nx+1:=nC;omega
  rcases I.keys k hk with⟨i0,pE,sj,wC⟩|⟨Dk,ur,zw⟩
  .refine .inl ⟨i0,pE,?_,?_⟩
   .rw[lu D _ (fun e=>by subst e;rcases mo with h|h<;>rw[h]at sj<;>cases sj)];exact sj
   show(if k<H.nx then H.hold k else i+1)=i0+1;rw[lq hk];exact wC
  refine .inr ⟨Dk,K.res k Dk w w' (fun b hb=>hC.keep b fun e=>by have:=(zw b hb).1;have:=K.nq.cB;omega) (fun a ha=>cell_of<|hC.keep _<|X.mine k a ha) ur,fun b hb=>?_⟩;have⟨h1,h2,h3,h4⟩:=zw b hb;refine⟨h1,by rw[hC.size];exact h2,fun h=>h,fun i' mr h=>?_⟩;by_cases e:i'=i
  .subst e;rw[upd_same]at h;exact h
  rw[lu D _ e]at h;exact h4 i' mr h
 .by_cases e:i'=i
  .subst e;rw[upd_same]at hb;cases hb;refine⟨by show _<H.nx+1;omega,?_⟩;show(if _<H.nx then _ else i'+1)=i'+1;rw[lp aa]
  rw[lu D _ e]at hb;have⟨h1,h2⟩:=I.busy i' mr k hb;refine⟨by show _<H.nx+1;omega,?_⟩;show(if k<H.nx then H.hold k else i+1)=i'+1;rw[lq h1];exact h2
 .by_cases e:i'=i
  .subst e;rw[upd_same]at hb;cases hb
  rw[lu D _ e]at hb;have⟨h1,h2⟩:=I.B5 i' mr k l hb p hp;exact⟨h1,(cell_of<|hC.keep _<|X.mine k p.1 h1).trans h2⟩
 cases r<;>cases e
end mg
open Go Go.Conc
open Go.ConcR (stA smA rd wr KK WgAt Bk g_of_ofEvents)
open Go.ConcN (upd upd_same upd_ne sumTo sumTo_upd CTag WD Vc OpenSt AllQuit isOpen isFin isW3 cnt Vc_upd get_map_set get_map_set_same pend bk_cell others_uncounted le_sumTo Vc_le Deaf_still)
namespace mg
variable{c:mg}
variable{w0 w w':lE}{gs gs':sA}{t u:Trace}{j:Nat}{D:Nat->GD}{tag tag':MT}{M0:lF}{ml τ0':mO}{d0:Nat}{a a':lZ}{st sm st' sm':Int}{H:pH}{sl:tS}{es:Array Event}{i:Nat}{g g':lZ}
theorem afV(K:c.Ok)(I:c.nT w0 gs w t j D tag M0 ml d0 a st sm H)(nf:tag≠.done)(hi:i<j)(hz:c.A.z0<=i)(mo:(D i).st=.take)(wz:(D i).deaf=0){d':GD}(Mh:d'.deaf=0)
  (hs:(d'.st=.pz/\tag.opn/\∀r,tag≠.qH r)\/(d'.st=.r0/\tag.opn=false)) (hM:∀b,d'.M b->(D i).M b) (apz:c.WSit d' g' w)
  (mR:gs'.size=gs.size) (xj:gs'[i+1]?=some g') (xo:∀b,b≠i+1->gs'[b]?=gs[b]?)
  (hu:∀op∈u,op.g=i+1/\op.act.touch?=none/\op.act.low w.heap.size/\(∀m,op.act≠.mark m)):
  ∃qK,zZ c.N qK (c.mu j D tag ml)/\c.zW w0 qK (crowd gs' w sl) (t++u):=by
 have HH:∀g0,Deaf (t++u) g0=Deaf t g0:=fun g0=>kK t g0 u fun op h=>⟨(hu op h).2.2.2 _,(hu op h).2.2.2 _⟩
 have HQ:d'.wd=(D i).wd:=by rcases hs with⟨h,_⟩|⟨h,_⟩<;>simp[GD.wd,h,mo,WS.num]
 have e1:sumTo j (fun a=>(upd D i d' a).st.wt)+(D i).st.wt=sumTo j (fun a=>(D a).st.wt)+d'.st.wt:=sumTo_upd D d' (fun d=>d.st.wt) hi;have lX:d'.st.wt<(D i).st.wt:=by rcases hs with⟨h,_⟩|⟨h,_⟩<;>rw[h,mo]<;>simp[WS.wt]
 have Ei:∀k,d'.st.key≠some k:=fun k e=>by rcases hs with⟨h,_⟩|⟨h,_⟩<;>rw[h]at e<;>cases e
 have xm:d'.st.num=7:=by rcases hs with⟨h,_⟩|⟨h,_⟩<;>rw[h]<;>rfl
 refine⟨c.mu j (upd D i d') tag ml,?_,gs',w,sl,j,upd D i d',tag,M0,ml,d0,a,st,sm,H,Z,?_,Z⟩
 .unfold mu;apply Gg;rw[It,HQ,E3 (fun a=>(D a).wd) i];omega
 refine⟨mR.trans I.size,by rw[xo 0 aa];exact I.ha,I.ms,I.jj,I.fits,I.nx,fun i' mr=>?_,fun i' mr=>?_,fun ho i' oM mr=>?_,fun ho i' mr=>?_,I.ch,I.ov,I.wg,?_,I.qD,?_,I.vD,I.hB,fun i' mr b hb=>?_,I.zI,
  by rw[HH,I.deaf0],fun i' mr=>?_,fun g0 vB=>by rw[HH,I.above g0 vB],fun i' oM mr hn=>?_,fun k nC=>?_,fun i' mr k hb=>?_,fun i' mr k l hb p hp=>?_,I.Dl,fun e=>ll e nf⟩
 .by_cases e:i'=i
  .subst e;exact⟨g',xj,by rw[upd_same];exact apz⟩
  have⟨x,hx,pO⟩:=I.wk i' mr;exact⟨x,by rw[xo _ aa];exact hx,by rw[lu D _ e];exact pO⟩
 .by_cases e:i'=i
  .subst e;omega
  rw[lu D _ e];exact I.old i' mr
 .by_cases e:i'=i
  .subst e;rw[upd_same];rcases hs with⟨h,_⟩|⟨_,h⟩
   .rw[h];trivial
   rw[ho]at h;cases h
  rw[lu D _ e];exact I.opn ho i' oM mr
 .by_cases e:i'=i
  .subst e;rw[upd_same];intro hp;rcases hs with⟨_,h1,h2⟩|⟨h,_⟩
   .rcases ho with ho|⟨r,ho⟩
    .rw[ho]at h1;cases h1
    exact h2 r ho
   rw[h]at hp;cases hp
  rw[lu D _ e];exact I.Da ho i' mr
 .rw[It,HQ,E3 (fun a=>(D a).wd) i];exact I.mode
 .exact I.ti.quiet (pH.Le.refl H) fun op mw=>⟨by rw[(hu op mw).1];omega,(hu op mw).2.1,by rw[I.vD];exact(hu op mw).2.2.1,(hu op mw).2.2.2 _⟩
 .by_cases e:i'=i
  .subst e;rw[upd_same]at hb;exact I.mem i' mr b<|hM b hb
  rw[lu D _ e]at hb;exact I.mem i' mr b hb
 .rw[HH,I.deafW i' mr];by_cases e:i'=i
  .subst e;rw[upd_same,wz,Mh]
  rw[lu D _ e]
 .by_cases e:i'=i
  .subst e;rw[upd_same,xm]at hn;omega
  rw[lu D _ e]at hn;have⟨r,hr⟩:=I.rel i' oM mr hn;exact⟨r,hr.other fun op mw=>by rw[(hu op mw).1];omega⟩
 .rcases I.keys k nC with⟨i0,pE,sj,wC⟩|⟨Dk,ur,zw⟩
  .exact .inl ⟨i0,pE,by rw[lu D _ (fun e=>by subst e;rw[mo]at sj;cases sj)];exact sj,wC⟩
  refine .inr ⟨Dk,ur,fun b hb=>?_⟩;have⟨h1,h2,h3,h4⟩:=zw b hb;refine⟨h1,h2,h3,fun i' mr h=>?_⟩;by_cases e:i'=i
  .subst e;rw[upd_same]at h;exact h4 i' mr<|hM b h
  rw[lu D _ e]at h;exact h4 i' mr h
 .by_cases e:i'=i
  .subst e;rw[upd_same]at hb;exact ll hb<|Ei k
  rw[lu D _ e]at hb;exact I.busy i' mr k hb
 by_cases e:i'=i
 .subst e;rw[upd_same]at hb;exact ll (by rw[hb];rfl)<|Ei k
 rw[lu D _ e]at hb;exact I.B5 i' mr k l hb p hp
theorem ajo(h:c.ql .blk M0 ml d0 a w):a.offers=none:=by
 cases h with
 |blk hb=>exact(hb w<|.refl ..).2.1
theorem ae3(h:c.ql (.qH r) M0 ml d0 a w):∃g0 z,a=Go.Conc.parked g0 #[scase c.A.Ch (Y (c.m-(r+1):Nat)) z] .send/\d0=0/\c.AtSend (c.m-(r+1)) (c.Sends r) M0 g0 w:=by
 cases h with
 |qH hb=>exact⟨_,_,rfl,rfl,hb w<|.refl ..⟩
theorem H2{d:GD}(h:c.WSit d g w)(hp:d.st=.pz):∃g0,g=Go.Conc.parked g0 c.cs .select/\d.deaf=0/\c.Cl d.M g0 w:=by
 cases h with
 |pz hb=>exact⟨_,rfl,rfl,hb w<|.refl ..⟩|quit hb=>cases hp
 |_=>cases hp
theorem akq:∀cc∈c.cs,cc.send=none:=fun cc h=>by simp only[mg.cs,iB,jM,iD,ld]at h;rcases h with rfl|rfl<;>rfl
theorem XB(K:c.Ok)(I:c.nT w0 gs w t j D tag M0 ml d0 a st sm H)(nf:tag≠.done)(b:Nat)(x:lZ)(hx:gs[b]?=some x){y:Nat}(hb:b≠0\/(∀r,tag≠.qH r)\/y≠c.A.Ch):offersAt x y true=[]:=by
 rcases gJ b with rfl|uq
 .rw[I.ha]at hx;cases hx;have hp:=hb.resolve_left<|fun h=>h rfl;have uo:=I.ms;rcases uo.status K nf with⟨hs,_⟩|⟨_,uj|⟨r,e⟩⟩
  .exact ff dk _ _
  .subst uj;have:=ajo uo;unfold offersAt;rw[this];cases a.status<;>rfl
  rcases hp with hp|hp
  .exact ll e<|hp r
  subst e;obtain⟨g0,z,rfl,_⟩:=ae3 uo;rw[offersAt_parked_send,lp fun e=>hp e.symm]
 obtain⟨i,rfl⟩:∃i,b=i+1:=⟨b-1,aa⟩
 have lX:i<j:=by have:=(eg.1 hx).1;rw[I.size]at this;omega
 have⟨y,hy,C0⟩:=I.wk i lX;rw[hx]at hy;cases hy;rcases C0.status with⟨hs,_⟩|⟨hs,_⟩|⟨hs,hp⟩
 .exact ff dk _ _
 .exact ff dk _ _
 obtain⟨g0,rfl,_⟩:=H2 C0 hp;exact offersAt_parked_sends akq _
theorem alR{g2:lZ}(h:∀w1,c.Rel M w w1->c.Fa M g w1):∃g2,(g=g2\/∃cs sh,g={Go.Conc.parked g2 cs sh with status:=.running})/\∀w1,c.Rel M w w1->c.Cl M g2 w1:=by
 rcases h w (.refl ..)with h0|⟨g2,cs,sh,h0,rfl⟩
 .refine⟨g,.inl Z,fun w1 hr=>?_⟩;rcases h w1 hr with h1|⟨g3,cs,sh,h1,e⟩
  .exact h1
  have:=h0.2.1;rw[e]at this;cases this
 refine⟨g2,.inr ⟨cs,sh,Z⟩,fun w1 hr=>?_⟩;rcases h w1 hr with h1|⟨g3,cs',YI,h1,e⟩
 .have:=h1.2.1;cases this
 have e3:g3=g2:=by
  obtain⟨f2,c2,s2,d2,o2⟩:=g2;obtain⟨f3,c3,s3,d3,o3⟩:=g3;have a1:=h0.1;have a2:=h0.2.1;have b1:=h1.1;have b2:=h1.2.1;simp only at a1 a2 b1 b2;subst a1;subst a2;subst b1;subst b2;simp only[Go.Conc.parked,Goroutine.mk.injEq]at e;obtain⟨rfl,rfl,_,rfl,_⟩:=e
  rfl
 exact e3▸h1
theorem akp{He:sA}(h:NoWays w1 He (rcase c.A.Ov c.zo)):∀(m:Nat) (c':CommCase),m≠0->c.cs[m]?=some c'->NoWays w1 He c':=fun m c' hm hc=>by
 match m,hm,hc with
 |1,_,hc=>cases hc;exact h
 |m+2,_,hc=>simp[mg.cs]at hc
theorem akr{He:sA}(h:NoWays w1 He (rcase c.A.Ch c.z)):∀(m:Nat) (c':CommCase),m≠1->c.cs[m]?=some c'->NoWays w1 He c':=fun m c' hm hc=>by
 match m,hm,hc with
 |0,_,hc=>cases hc;exact h
 |m+2,_,hc=>simp[mg.cs]at hc
theorem axL(K:c.Ok)(I:c.nT w0 gs w t j D tag M0 ml d0 a st sm H)(nf:tag≠.done)(hi:i<j)(hz:c.A.z0<=i){τ:mO}(hd:D i=⟨.take,M,τ,0⟩)(hg:gs[i+1]?=some g)(h:∀w1,c.Rel M w w1->c.Fa M g w1):c.qw w0 gs w sl t j D tag ml (i+1):=by
 have⟨g2,hgf,h2⟩:=alR (g2:=g) h;have⟨nK,xn,Px,aoE,rU⟩:=h2 w<|.refl ..;have Jj:stepG c.P (i+1==0) g w=.comm g2 c.cs true .select w #[]:=by
  show stepG c.P false g w=_;rcases hgf with rfl|⟨cs,sh,rfl⟩
  .exact Px
  rw[stepG_tries];have:({g2 with status:=.running}:lZ)=g2:=by rw[<-nK]
  rw[this];exact Px
 have mo:(D i).st=.take:=dA;have wz:(D i).deaf=0:=dA;have lX:i+1<gs.size:=cu;have⟨s,r,tm,pM⟩:=I.ch;have⟨so,ro,tmo,sH⟩:=I.ov;have hB:=K.nq.cB;have hBo:=K.nq.oB;have Wo:partners (gs.setIfInBounds (i+1) ph) c.A.Ov true=[]:=partners_nil fun b x hx=>by
  rcases jC gs (i+1) b x hx with⟨_,rfl⟩|⟨_,ru⟩
  .exact offersAt_ph _ _
  exact XB K I nf b x ru<|.inr<|.inr fun e=>K.nq.co e.symm
 have hIB:=I.hB;by_cases CW:∃q,tag=.qH q
 .obtain⟨q,rfl⟩:=CW;obtain⟨g0,z,rfl,xX,hs⟩:=ae3 I.ms;obtain⟨_,_,_,_,sY⟩:=hs;have hp:partners (gs.setIfInBounds (i+1) ph) c.A.Ch true=[(0,0)]:=by
   have h0:(gs.setIfInBounds (i+1) ph)[0]?=some (Go.Conc.parked g0 #[scase c.A.Ch (Y (c.m-(q+1):Nat)) z] .send):=by rw[dU aa];exact I.ha
   rw[partners_one h0 fun b x hb hx=>?_,offersAt_parked_send]
   .simp
   rcases jC gs (i+1) b x hx with⟨_,rfl⟩|⟨_,ru⟩
   .exact offersAt_ph _ _
   exact XB K I nf b x ru<|.inl hb
  have wJ:=crowd_sel_recv_meets (P:=c.P) (sl:=sl) (k:=0) hg Jj rfl (akp<|jE (sH:w.heap[c.A.Ov]?=some (.chan 0 #[] false so ro tmo)) Wo) pM (j:=0) aa I.ha hp;have⟨qK,h1,h3⟩:=pass (sl:=sl) K I hi hz (r:=q) (gs':=(gs.setIfInBounds 0<|g0.finishComm c.P #[scase c.A.Ch (Y (c.m-(q+1):Nat)) z] .send 0 undef false).setIfInBounds (i+1)<|g2.finishComm c.P c.cs .select 0 (Y (c.m-(q+1):Nat)) true)
   (u:=MemOp.ofEvents (i+1) g.frame.fn g.frame.place #[]++ #[{g:=0,fn:=g0.frame.fn,pos:=g0.frame.place,act:=.send c.A.Ch s},{g:=i+1,fn:=g2.frame.fn,pos:=g2.frame.place,act:=.recv c.A.Ch r 0},
    {g:=0,fn:=g0.frame.fn,pos:=g0.frame.place,act:=.sendDone c.A.Ch s},{g:=i+1,fn:=g2.frame.fn,pos:=g2.frame.place,act:=.recvDone c.A.Ch r}]) (.inr rfl) (.inl mo) xX wz (fun e=>bD)
   (zc.Rk c.A.Ch w false (s+1) (r+1) tm) ⟨s+1,r+1,tm,by
    have:c.A.Ch<w.heap.size:=aa;simp[World.setChan,this]⟩ aq (by
    rw[dU aa,dP aa]
    rfl) (by
    rw[dP (by simpa using lX)]) (fun b hb sV=>bx) sY (aoE _ (by have:q<c.m:=I.fits;omega)) (fun op mw=>by
    have CV:op∈ #[{g:=0,fn:=g0.frame.fn,pos:=g0.frame.place,act:=.send c.A.Ch s},{g:=i+1,fn:=g2.frame.fn,pos:=g2.frame.place,act:=.recv c.A.Ch r 0},
     {g:=0,fn:=g0.frame.fn,pos:=g0.frame.place,act:=.sendDone c.A.Ch s},{g:=i+1,fn:=g2.frame.fn,pos:=g2.frame.place,act:=.recvDone c.A.Ch r}]:=dv
    simp only[iB,jM,iD,ld]at CV;have oV:c.A.Ch<w.heap.size:=aa;rcases CV with rfl|rfl|rfl|rfl
    .exact⟨kz _,Z,oV,aq⟩
    .exact⟨dz,Z,oV,aq⟩
    .exact⟨kz _,Z,oV,aq⟩
    exact⟨dz,Z,oV,aq⟩)
  exact⟨_,_,qK,wJ,h1,h3⟩
 have ac1:∀q,tag≠.qH q:=fun q e=>CW ⟨q,e⟩;have hp:partners (gs.setIfInBounds (i+1) ph) c.A.Ch true=[]:=partners_nil fun b x hx=>by
  rcases jC gs (i+1) b x hx with⟨_,rfl⟩|⟨_,ru⟩
  .exact offersAt_ph _ _
  exact XB K I nf b x ru<|.inr<|.inl ac1
 cases ho:tag.opn with
 |true=>
  rw[ho]at sH;have wJ:=crowd_waits (P:=c.P) (sl:=sl) hg Jj fun cc xV=>by
   simp only[mg.cs,iB,jM,iD,ld]at xV;rcases xV with rfl|rfl
   .exact jE pM hp
   exact jE sH Wo
  have⟨qK,h1,h3⟩:=afV (sl:=sl) K I nf hi hz mo wz (d':=⟨.pz,M,.leaf,0⟩) rfl (.inl ⟨rfl,ho,ac1⟩) (fun b hb=>by rw[hd];exact hb) (.pz h2)
   (gs':=gs.setIfInBounds (i+1)<|Go.Conc.parked g2 c.cs .select) aq bY (fun b hb=>by rw[dU aa])
   (u:=MemOp.ofEvents (i+1) g.frame.fn g.frame.place #[]) (fun op mw=>by simp[kD]at mw)
  exact⟨_,_,qK,wJ,h1,h3⟩
 |false=>
  rw[ho]at sH;have wJ:=crowd_sel_recv_closed (P:=c.P) (sl:=sl) (k:=1) hg Jj rfl (akr<|jE pM hp) sH Wo;have⟨tP,qd⟩:=rU.tree;have⟨qK,h1,h3⟩:=afV (sl:=sl) K I nf hi hz mo wz (d':=⟨.r0,none_,tP,0⟩) rfl (.inr ⟨rfl,ho⟩) (fun b hb=>hb.elim) (.r0 qd)
   (gs':=gs.setIfInBounds (i+1)<|g2.finishComm c.P c.cs .select 1 c.zo false) aq bY (fun b hb=>by rw[dU aa])
   (u:=MemOp.ofEvents (i+1) g.frame.fn g.frame.place #[]++ #[{g:=i+1,fn:=g2.frame.fn,pos:=g2.frame.place,act:=.recvClosed c.A.Ov}]) (fun op mw=>by
    have CV:op={g:=i+1,fn:=g2.frame.fn,pos:=g2.frame.place,act:=.recvClosed c.A.Ov}:=dv;subst CV;have oV:c.A.Ov<w.heap.size:=aa
    exact⟨Z,Z,oV,aq⟩)
  exact⟨_,_,qK,wJ,h1,h3⟩
end mg
open Go Go.Conc
open Go.ConcR (stA smA rd wr KK WgAt Bk g_of_ofEvents)
open Go.ConcN (upd upd_same upd_ne sumTo sumTo_upd CTag WD Vc OpenSt AllQuit isOpen isFin isW3 cnt Vc_upd get_map_set get_map_set_same pend bk_cell others_uncounted le_sumTo Vc_le Deaf_still)
namespace mg
variable{c:mg}
variable{w0 w w':lE}{gs gs':sA}{t u:Trace}{j:Nat}{D:Nat->GD}{tag tag':MT}{M0:lF}{ml τ0':mO}{d0:Nat}{a a':lZ}{st sm st' sm':Int}{H:pH}{sl:tS}{es:Array Event}{i q:Nat}{g g':lZ}
theorem asW{x y:lZ}{cs cs':Array CommCase}{sh YI:CommShape}(h:Go.Conc.parked x cs sh=Go.Conc.parked y cs' YI):(∀v,Go.Conc.served x v=Go.Conc.served y v)/\cs=cs'/\sh=YI:=by obtain⟨f2,c2,s2,d2,o2⟩:=x;obtain⟨f3,c3,s3,d3,o3⟩:=y;simp only[Go.Conc.parked,Goroutine.mk.injEq,ia,jP]at h;obtain⟨rfl,rfl,_,rfl,rfl,rfl⟩:=h;exact⟨fun v=>Z,Z,Z⟩
theorem auW{P:lY}{x y:lZ}(h:∀v,Go.Conc.served x v=Go.Conc.served y v)(cs:Array CommCase)(k:Int)(v:lH)(ok:Bool):x.finishComm P cs .select k v ok=y.finishComm P cs .select k v ok:=h _
theorem ako{P:lY}{qJ:lE}{I8:lZ}{shape shj:CommShape}{blocking:Bool}{ch cap s:Nat}{buf:lW}{tm:Bool}{v z zj:lH}{cs:Array CommCase}
  (hi:gs[i]?=some g) (h:stepG P (i==0) g w=.comm I8 #[scase ch v z] blocking shape qJ es) (hc:qJ.heap[ch]?=some (.chan cap buf false s r tm)) (hk:cs[k]?=some (rcase ch zj))
  (mK:partners (gs.setIfInBounds i ph) ch false≠[]) (nG:∀j q,(j,q)∈partners (gs.setIfInBounds i ph) ch false->q=k/\j≠i/\∃gj,gs[j]?=some (Go.Conc.parked gj cs shj)):
  ∃(j:Nat) (gj:lZ) (d:Nat),j≠i/\gs[j]?=some (Go.Conc.parked gj cs shj)/\
   runT P (crowd gs w sl) i=(.next (crowd ((gs.setIfInBounds j (gj.finishComm P cs shj k v true)).setIfInBounds i (I8.finishComm P #[scase ch v z] shape 0 undef false)) ((qJ.at d).setChan ch cap buf false (s+1) (r+1) tm) sl),
    MemOp.ofEvents i g.frame.fn g.frame.place es++ #[{g:=i,fn:=I8.frame.fn,pos:=I8.frame.place,act:=.send ch s},{g:=j,fn:=gj.frame.fn,pos:=gj.frame.place,act:=.recv ch r cap},
     {g:=i,fn:=I8.frame.fn,pos:=I8.frame.place,act:=.sendDone ch s},{g:=j,fn:=gj.frame.fn,pos:=gj.frame.place,act:=.recvDone ch r}]):=by
 generalize CW:partners (gs.setIfInBounds i ph) ch false=ps at mK nG;have aBn:0<ps.length:=List.length_pos_iff.2 mK;obtain⟨b,d,hb,PZ⟩:∃b d,b<ps.length/\(if(Question.extern "which waiting goroutine is the partner" ps.length).forced then(b=0/\d=qJ.drawn)else(b=(Question.extern "which waiting goroutine is the partner" ps.length).cut (qJ.tape qJ.drawn<|.extern "which waiting goroutine is the partner" ps.length)/\d=qJ.drawn+1)):=by
  by_cases hf:(Question.extern "which waiting goroutine is the partner" ps.length).forced
  .exact⟨0,qJ.drawn,aBn,by rw[lq hf];exact⟨rfl,rfl⟩⟩
  refine⟨_,qJ.drawn+1,?_,by rw[lp hf];exact⟨rfl,rfl⟩⟩;simp only[Question.cut];rw[lp aa];exact kL _ aBn
 obtain⟨⟨j,q⟩,qE⟩:∃p,ps[b]?=some p:=⟨ps[b],nM hb⟩
 obtain⟨rfl,sX,gj,hj⟩:=nG j q<|mZ qE;refine⟨j,gj,d,sX,hj,?_⟩;rw[runT_crowd_comm hi h];have xl:=stand_get (i:=i) sX hj;have hfp:=finishPartner_at P (gs.setIfInBounds i ph) xl (cs:=cs) (sh:=shj) rfl q v;have Aq:(gs.setIfInBounds i ph).getD j default=Go.Conc.parked gj cs shj:=by rw[ed,xl];rfl
 have hw:ways qJ (gs.setIfInBounds i ph) {chan:=.chan<|some ch,send:=some v,zero:=z}=ps.map fun(h,k)=>Way.partner h k:=by
  simp only[ways,hc,CW];cases ps with
  |nil=>exact ll rfl mK|cons p ps=>simp
 have adr:(ps.map fun(h,k)=>Way.partner h k).isEmpty=false:=by cases ps with
  |nil=>exact ll rfl mK|cons p ps=>rfl
 have CP:=getD_map_partner ps b (j,q) qE;by_cases hf:(Question.extern "which waiting goroutine is the partner" ps.length).forced
 .rw[lq hf]at PZ;obtain⟨rfl,rfl⟩:=PZ;have BL:ps.length=1:=by simpa[Question.forced]using hf
  have e0:ps[0]'aBn=(j,q):=(oS qE).2;simp[communicate,hw,adr,choose,Sem.run,Question.forced,bind,Sem.bind,pure,BL,CP,qE,e0,xl,scase,hc,World.setChan,crowd,hfp,Aq,set_stand2,finishComm_parked,rcase,Go.Conc.parked,World.at,hk]
  rfl
 rw[lp hf]at PZ;obtain⟨rfl,rfl⟩:=PZ;have BL:¬ps.length=1:=by simpa[Question.forced]using hf
 have hdh:qJ.drew.heap=qJ.heap:=rfl;simp[communicate,hdh,hw,adr,choose,Sem.run,Question.forced,bind,Sem.bind,pure,BL,CP,qE,xl,scase,hc,World.setChan,crowd,hfp,Aq,set_stand2,finishComm_parked,rcase,Go.Conc.parked,World.at,hk]
 rfl
theorem aaN(K:c.Ok):offersAt (Go.Conc.parked g c.cs .select) c.A.Ch false=[0]:=
 offersAt_parked_at (z:=c.z) rfl fun m cc hm hc=>by
  match m,hm,hc with
  |1,_,hc=>cases hc;intro e;injection e with e;injection e with e;exact K.nq.co e.symm
  |m+2,_,hc=>simp[mg.cs]at hc
theorem at7(K:c.Ok)(I:c.nT w0 gs w t j D (.send q) M0 ml d0 a st sm H)(b:Nat)(x:lZ)(hx:gs[b]?=some x):offersAt x c.A.Ch false=[]\/(offersAt x c.A.Ch false=[0]/\∃i,b=i+1/\i<j/\(D i).st=.pz):=by
 rcases gJ b with rfl|uq
 .rw[I.ha]at hx;cases hx;rcases I.ms.status K aq with⟨hs,_⟩|⟨_,h|⟨r,h⟩⟩
  .exact .inl<|ff dk _ _
  .cases h
  cases h
 obtain⟨i,rfl⟩:∃i,b=i+1:=⟨b-1,aa⟩
 have lX:i<j:=by have:=(eg.1 hx).1;rw[I.size]at this;omega
 have⟨y,hy,C0⟩:=I.wk i lX;rw[hx]at hy;cases hy;rcases C0.status with⟨hs,_⟩|⟨hs,_⟩|⟨hs,hp⟩
 .exact .inl<|ff dk _ _
 .exact .inl<|ff dk _ _
 obtain⟨g0,rfl,_⟩:=H2 C0 hp;exact .inr ⟨aaN K,i,Z,lX,hp⟩
theorem ari(K:c.Ok)(I:c.nT w0 gs w t j D (.send q) M0 ml d0 a st sm H)(xX:d0=0)(h:∀w1,c.Rel M0 w w1->c.AtSend (c.m-(q+1)) (c.Sends q) M0 a w1):c.qw w0 gs w sl t j D (.send q) ml 0:=by
 have⟨nK,xn,z,Px,sY⟩:=h w<|.refl ..;have Jj:stepG c.P (0==0) a w=.comm a #[scase c.A.Ch (Y (c.m-(q+1):Nat)) z] true .send w #[]:=Px;have lX:0<gs.size:=cu;have⟨s,r,tm,pM⟩:=I.ch;have hB:=K.nq.cB;have hIB:=I.hB;have hqm:q<c.m:=I.fits;by_cases hp:partners (gs.setIfInBounds 0 ph) c.A.Ch false=[]
 .have wJ:=crowd_waits (P:=c.P) (sl:=sl) I.ha Jj fun cc xV=>by
   simp only[iB,jM,iD,ld]at xV;subst xV;exact ways_send_none pM aq hp
  have Jq:∀i,i<j->(D i).st≠.pz:=fun i hi oX=>by have⟨x,hx,pO⟩:=I.wk i hi;obtain⟨g0,rfl,_⟩:=H2 pO oX;have:(i+1,0)∈partners (gs.setIfInBounds 0 ph) c.A.Ch false:=mem_partners.2 ⟨_,by rw[dU aa];exact hx,by rw[aaN K];simp⟩;rw[hp]at this;cases this
  refine⟨_,_,c.mu j D (.qH q) .leaf,wJ,Gg aT,_,w,sl,j,D,.qH q,M0,.leaf,0,Go.Conc.parked a #[scase c.A.Ch (Y (c.m-(q+1):Nat)) z] .send,st,sm,H,Z,?_,Z⟩;have e:t++MemOp.ofEvents 0 a.frame.fn a.frame.place #[]=t:=by simp[kD]
  rw[e];exact⟨dK,bY,.qH h,I.jj,I.fits,I.nx,fun i hi=>by rw[dU aa];exact I.wk i hi,I.old,fun _=>I.opn rfl,fun _=>Jq,I.ch,I.ov,I.wg,I.mode,I.qD,I.ti,I.vD,I.hB,I.mem,I.zI,by rw[I.deaf0,xX],I.deafW,I.above,I.rel,I.keys,I.busy,I.B5,I.Dl,fun e=>bD⟩
 have⟨b,gj,d,hb,hj,wJ⟩:=ako (P:=c.P) (sl:=sl) (cs:=c.cs) (shj:=.select) (k:=0) I.ha Jj pM rfl hp fun b k uj=>by
  have⟨x,hx,hk⟩:=mem_partners.1 uj;rcases jC gs 0 b x hx with⟨_,rfl⟩|⟨sj,ru⟩
  .rw[offersAt_ph]at hk;cases hk
  rcases at7 K I b x ru with h0|⟨h1,i,rfl,hi,oX⟩
  .rw[h0]at hk;cases hk
  rw[h1]at hk;have⟨y,hy,C0⟩:=I.wk i hi;rw[ru]at hy;cases hy;obtain⟨g0,rfl,_⟩:=H2 C0 oX;exact⟨by simpa using hk,sj,g0,ru⟩
 obtain⟨i,rfl⟩:∃i,b=i+1:=⟨b-1,aa⟩
 have hi:i<j:=by have:=(eg.1 hj).1;rw[I.size]at this;omega
 have⟨y,hy,C0⟩:=I.wk i hi;rw[hj]at hy;cases hy;have oX:(D i).st=.pz:=by
  rcases C0.status with⟨hs,_⟩|⟨hs,_⟩|⟨_,hp⟩
  .cases hs
  .cases hs
  exact hp
 have hz:c.A.z0<=i:=iF fun aoM=>by have:=I.old i aoM;rw[oX]at this;cases this
 have⟨g0,vB,Jk,yG⟩:=H2 C0 oX;have apy:=(asW vB).1;have⟨qK,h1,h3⟩:=pass (sl:=sl) K I hi hz (r:=q) (gs':=(gs.setIfInBounds (i+1)<|gj.finishComm c.P c.cs .select 0 (Y (c.m-(q+1):Nat)) true).setIfInBounds 0<|a.finishComm c.P #[scase c.A.Ch (Y (c.m-(q+1):Nat)) z] .send 0 undef false)
  (u:=MemOp.ofEvents 0 a.frame.fn a.frame.place #[]++ #[{g:=0,fn:=a.frame.fn,pos:=a.frame.place,act:=.send c.A.Ch s},{g:=i+1,fn:=gj.frame.fn,pos:=gj.frame.place,act:=.recv c.A.Ch r 0},
   {g:=0,fn:=a.frame.fn,pos:=a.frame.place,act:=.sendDone c.A.Ch s},{g:=i+1,fn:=gj.frame.fn,pos:=gj.frame.place,act:=.recvDone c.A.Ch r}]) (.inl rfl) (.inr oX) xX Jk (fun _=>oX)
  (zc.set c.A.Ch w d false (s+1) (r+1) tm) ⟨s+1,r+1,tm,by
   have:c.A.Ch<w.heap.size:=aa;simp[World.setChan,World.at,this]⟩ aq (by
   rw[dP (by simpa using lX)]
   rfl) (by
   rw[dU aa,dP cu]) (fun b hb sV=>bx) sY (by
   rw[auW apy];exact yG.2.2.2.1 _ aa) (fun op mw=>by
   have CV:op∈ #[{g:=0,fn:=a.frame.fn,pos:=a.frame.place,act:=.send c.A.Ch s},{g:=i+1,fn:=gj.frame.fn,pos:=gj.frame.place,act:=.recv c.A.Ch r 0},
    {g:=0,fn:=a.frame.fn,pos:=a.frame.place,act:=.sendDone c.A.Ch s},{g:=i+1,fn:=gj.frame.fn,pos:=gj.frame.place,act:=.recvDone c.A.Ch r}]:=dv
   simp only[iB,jM,iD,ld]at CV;have oV:c.A.Ch<w.heap.size:=aa;rcases CV with rfl|rfl|rfl|rfl
   .exact⟨kz _,Z,oV,aq⟩
   .exact⟨dz,Z,oV,aq⟩
   .exact⟨kz _,Z,oV,aq⟩
   exact⟨dz,Z,oV,aq⟩)
 exact⟨_,_,qK,wJ,h1,h3⟩
def AO(d:GD):GD:=match d.st with
 |.pz=>⟨.take,d.M,.leaf,0⟩
 |_=>d
theorem Cd{d:GD}(h:d.st≠.pz):AO d=d:=by
 unfold AO;split
 .exact ll ‹_› h
 rfl
theorem E2{d:GD}(h:d.st=.pz):AO d=⟨.take,d.M,.leaf,0⟩:=by unfold AO;rw[h]
theorem ahz(d:GD):(AO d).wd=d.wd:=by
 by_cases h:d.st=.pz
 .rw[E2 h];simp[GD.wd,h,WS.num]
 rw[Cd h]
theorem ahy(d:GD):(AO d).M=d.M:=by
 by_cases h:d.st=.pz
 .rw[E2 h]
 rw[Cd h]
theorem axg(d:GD):(AO d).st.wt<=d.st.wt+1:=by
 by_cases h:d.st=.pz
 .rw[E2 h,h];simp[WS.wt]
 rw[Cd h];omega
theorem ahf(D:Nat->GD):∀j,sumTo j (fun i=>(AO (D i)).st.wt)<=sumTo j (fun i=>(D i).st.wt)+j
 |0=>by simp[sumTo]
 |j+1=>by have:=ahf D j;have:=axg<|D j;simp only[sumTo];omega
theorem arh(K:c.Ok)(I:c.nT w0 gs w t j D .xb M0 ml d0 a st sm H)(xX:d0=0)(h:c.AtClose M0 a w):c.qw w0 gs w sl t j D .xb ml 0:=by
 obtain⟨nK,Mt,nG⟩:=h;have⟨s,r,tm,sH⟩:=I.ov;have⟨a',HF,aBk,hk⟩:=nG s r tm sH;have⟨tP,qd⟩:=hk.tree;have hB:=K.nq.oB;have X:=Fo.ov K;have hIB:=I.hB;have lX:0<gs.size:=cu;have hC:zc c.A.Ov w (w.setChan c.A.Ov 0 #[] true s r tm):=zc.Rk c.A.Ov w true s r tm;generalize HP:w.setChan c.A.Ov 0 #[] true s r tm=w' at aBk qd hC;have Jr:w'.heap[c.A.Ov]?=some (.chan 0 #[] true s r tm):=by have:c.A.Ov<w.heap.size:=aa;rw[<-HP];simp[World.setChan,this]
 have UZ:∃s r tm,w'.heap[c.A.Ch]?=some (.chan 0 #[] false s r tm):=let⟨s,q,tm,h⟩:=I.ch;⟨s,q,tm,(hC.keep _ fun e=>K.nq.co e).trans h⟩;have acZ:∃cl s r tm,w'.heap[c.A.Ov]?=some (.chan 0 #[] cl s r tm):=⟨_,s,r,tm,Jr⟩
 have Jv:∀i,i<j->c.Rel (D i).M w w':=fun i hi=>hC.rel K X I UZ acZ fun b hb=>⟨(I.mem i hi b hb).1,(I.mem i hi b hb).2.1⟩
 have wJ:=runT_crowd_go (P:=c.P) (sl:=sl) (i:=0) I.ha<|show stepG c.P (0==0) a w=_ from aBk;have Au:j=c.N:=I.jj.symm;refine⟨_,_,c.mu j (fun i=>AO<|D i) .kd tP,wJ,?_,_,w',sl,j,fun i=>AO<|D i,.kd,none_,tP,0,a',st,sm,H,Z,?_,Z⟩
 .unfold mu;apply Gg;have e:(fun a=>(AO<|D a).wd)=fun a=>(D a).wd:=funext fun a=>ahz _;have:=ahf D j;rw[e];simp only[MT.phi];omega
 refine⟨dK,get_map_set_same _ _ _ lX,.kd qd,Au.symm,trivial,I.nx,fun i hi=>?_,fun i hi=>?_,fun e=>by(cases e),fun _ i hi hp=>?_,UZ,⟨s,r,tm,Jr⟩,I.wg.of_block (hC.keep _ K.nq.wo),?_,hC.qD K X I.qD,?_,I.vD.trans hC.size.symm,by rw[hC.size];exact I.hB,fun i hi b hb=>?_,fun b hb=>hb.elim,
  by rw[Deaf_own,I.deaf0,xX];rfl,fun i hi=>?_,fun g0 vB=>bz,fun i hz hi hn=>?_,fun k nC=>?_,fun i hi k hb=>?_,fun i hi k l hb p hp=>?_,I.Dl.trans (hC.rel K X I UZ acZ fun b hb=>hb.elim),fun e=>by(cases e)⟩
 .have⟨x,hx,pO⟩:=I.wk i hi;by_cases hp:(D i).st=.pz
  .rw[E2 hp];have mo:∀w1,c.Rel (D i).M w w1->∃g0,x=Go.Conc.parked g0 c.cs .select/\c.Cl (D i).M g0 w1:=fun w1 hr=>by
    have⟨g0,e,_,h⟩:=H2 (pO.rely hr) hp;exact⟨g0,e,h⟩
   obtain⟨g0,rfl,_⟩:=mo w<|.refl ..;refine⟨{Go.Conc.parked g0 c.cs .select with status:=.running},?_,.take (τ:=.leaf) fun w1 hr=>?_⟩
   .rw[kA _ _ _ _ aa,hx,jk];unfold Go.Conc.woken;rw[lq (by simp[Mt,HF]),again_some_closed (k:=1) (c:=c.A.Ov) (z:=c.zo) rfl Jr]
   have⟨g1,e1,h1⟩:=mo w1<|(Jv i hi).trans hr;refine .inr ⟨g1,c.cs,.select,h1,by rw[e1]⟩
  rw[Cd hp];refine⟨x,?_,pO.rely<|Jv i hi⟩;rw[kA _ _ _ _ aa,hx,jk,pO.woken a a' fun h=>ll h hp]
 .rw[Cd (by rw[I.old i hi];simp)];exact I.old i hi
 .by_cases h:(D i).st=.pz
  .rw[E2 h]at hp;cases hp
  rw[Cd h]at hp;exact h hp
 .have e:(fun a=>(AO<|D a).wd)=fun a=>(D a).wd:=funext fun a=>ahz _;rw[e];exact I.mode
 .refine I.ti.app (g:=0) K.nq (.inl Z) (pH.Le.refl H) fun op mw=>?_;rw[kD]at mw;obtain⟨e,he,rfl⟩:=jF.1 mw;have oV:c.A.Ov<H.size:=by rw[I.vD];omega
  simp only[iB,jM,iD,ld]at he;rcases he with rfl|rfl
  .refine⟨Z,fun x hx=>?_,oV,bN⟩;have:x=⟨.obj c.A.Ov,false,.atomic⟩:=bm;subst this;exact .ch Z aq aq
  exact⟨Z,fun x hx=>bS,oV,bN⟩
 .rw[ahy]at hb;rw[hC.size];exact I.mem i hi b hb
 .rw[Deaf_other t aa _ jQ,I.deafW i hi];by_cases hp:(D i).st=.pz
  .rw[E2 hp];have⟨x,hx,pO⟩:=I.wk i hi;exact(H2 pO hp).choose_spec.2.1
  rw[Cd hp]
 .exfalso;have:=I.opn rfl i hz hi;by_cases hp:(D i).st=.pz
  .rw[E2 hp]at hn;simp[WS.num]at hn
  rw[Cd hp]at hn;cases hs:(D i).st<;>rw[hs]at hn this<;>simp[WS.num,WS.loops]at hn this
 .rcases I.keys k nC with⟨i0,pE,sj,wC⟩|⟨Dk,ur,zw⟩
  .exact .inl ⟨i0,pE,by rw[Cd (by intro e;rw[e]at sj;cases sj)];exact sj,wC⟩
  refine .inr ⟨Dk,K.res k Dk w w' (fun b hb=>hC.keep b fun e=>by have:=(zw b hb).1;omega) (fun a ha=>cell_of<|hC.keep _<|X.mine k a ha) ur,fun b hb=>?_⟩;have⟨h1,h2,h3,h4⟩:=zw b hb;exact⟨h1,by rw[hC.size];exact h2,fun h=>h,fun i hi h=>h4 i hi<|by rwa [ahy]at h⟩
 .apply I.busy i hi k;by_cases hp:(D i).st=.pz
  .rw[E2 hp]at hb;cases hb
  rwa [Cd hp]at hb
 by_cases oX:(D i).st=.pz
 .rw[E2 oX]at hb;cases hb
 rw[Cd oX]at hb;have⟨h1,h2⟩:=I.B5 i hi k l hb p hp;exact⟨h1,(cell_of<|hC.keep _<|X.mine k p.1 h1).trans h2⟩
end mg
open Go Go.Conc
open Go.ConcR (stA smA rd wr KK WgAt Bk g_of_ofEvents ofEvent_mk)
open Go.ConcN (upd upd_same upd_ne sumTo sumTo_upd CTag WD Vc OpenSt AllQuit isOpen isFin isW3 cnt Vc_upd get_map_set get_map_set_same pend bk_cell others_uncounted le_sumTo Vc_le Deaf_still bk_dis bk_en bk_rd bk_rw bk_sem allQuit_of)
theorem arQ{N:Nat}{a b d:Mu}(h:zZ N a b)(hl:b.1<d.1):zZ N a d:=by obtain⟨a1,a2,a3⟩:=a;obtain⟨b1,b2,b3⟩:=b;obtain⟨d1,d2,d3⟩:=d;apply Gg;rcases Prod.lex_def.1 h with h|⟨h,_⟩<;>simp only at h hl<;>omega
namespace mg
variable{c:mg}
variable{w0 w w':lE}{gs gs':sA}{t u:Trace}{j:Nat}{D:Nat->GD}{tag tag':MT}{M0:lF}{ml τ0':mO}{d0:Nat}{a a':lZ}{st sm st' sm':Int}{H:pH}{sl:tS}{es:Array Event}{i q:Nat}{g g':lZ}
theorem yT(K:c.Ok)(I:c.nT w0 gs w t j D tag M0 ml d0 a st sm H)(nf:tag≠.done)(Jq:∀r,tag≠.qH r)(aBk:stepG c.P true a w=.go a' w' es)(mR:nJ M0 w w')(VH:∀e∈es,oc (grown M0 w.heap.size w'.heap.size) c.A.R e\/c.Cv e)
  (uo:c.ql tag (grown M0 w.heap.size w'.heap.size) τ0' d0 a' w') (WY:mO.lt τ0' ml):c.qw w0 gs w sl t j D tag ml 0:=by
 have mj:∀e∈es,oc (grown M0 w.heap.size w'.heap.size) c.A.R e\/(0=0/\c.Cv e):=fun e he=>(VH e he).imp id fun h=>⟨rfl,h⟩
 have oV:∀b,b<c.A.B0->w'.heap[b]?=w.heap[b]?:=fun b hb=>mR.rest b (fun h=>by have:=(I.zI b h).1;omega)<|gK hb I.hB;exact Xp K I aBk (vV.own K mR fun b hb=>(I.zI b hb).1) (let⟨s,r,tm,h⟩:=I.ch;⟨s,r,tm,(oV _ K.nq.cB).trans h⟩) (let⟨s,r,tm,h⟩:=I.ov;⟨s,r,tm,(oV _ K.nq.oB).trans h⟩) (K.qD w w' mR.size (fun b h _ _ _=>oV b h) I.qD) (I.wg.of_block<|oV _ K.nq.wB) (by rw[aha mj];exact uo)
  (TI.own K I.ti (.inl rfl) I.vD mR.size I.hB I.zI mj) (fun b hb=>hb) I.mode I.jj I.nx.symm I.fits rfl Jq (fun k a ha=>cell_of<|oV _ (K.nq.mB k a ha).1) (fun e=>ll e nf) (.inr ⟨rfl,WY⟩)
theorem zH(K:c.Ok)(I:c.nT w0 gs w t j D tag M0 ml d0 a st sm H)(hM:∀b,M b->M0 b)(aBk:stepG c.P true a w=.go a' w' es)(hw:w'=w\/∃p v,p.block=c.A.Wg/\w'=w.setCell p v)(En:WgAt c.ty c.A.Wg w' st' sm')(uj:∀e∈es,Bk c.A.Wg e)
  (uo:c.ql tag' M τ0' (deafBehind d0 es) a' w') (qi:Go.ConcN.Mode j (fun a=>(D a).wd) tag'.ct st' sm') (mo:tag'.started c.N=j) (py:tag'.nx c.m=H.nx) (wA:tag'.fits c.N c.A.z0 c.m) (FZ:tag'.opn=tag.opn) (CW:∀r,tag'≠.qH r) (nf:tag'≠.done)
  (lX:tag'.phi c.N c.m (Vc j fun a=>(D a).wd)<tag.phi c.N c.m (Vc j fun a=>(D a).wd)\/(tag'.phi c.N c.m (Vc j fun a=>(D a).wd)=tag.phi c.N c.m (Vc j fun a=>(D a).wd)/\mO.lt τ0' ml)):c.qw w0 gs w sl t j D tag ml 0:=by
 have oV:∀b,b≠c.A.Wg->w'.heap[b]?=w.heap[b]?:=by
  rcases hw with rfl|⟨p,v,hp,rfl⟩
  .exact fun _ _=>Z
  exact fun b hb=>Nb K.toOk0 w p v hp b hb
 have mR:w'.heap.size=w.heap.size:=by
  rcases hw with rfl|⟨p,v,hp,rfl⟩
  .rfl
  simp[World.setCell]
 have VG:c.vV M0 w w':=by
  rcases hw with rfl|⟨p,v,hp,rfl⟩
  .exact .refl _ _
  exact .setCell K w p v hp
 exact Xp K I aBk VG (let⟨s,r,tm,h⟩:=I.ch;⟨s,r,tm,(oV _ fun e=>K.nq.wc e.symm).trans h⟩) (let⟨s,r,tm,h⟩:=I.ov;⟨s,r,tm,by rw[FZ];exact(oV _ fun e=>K.nq.wo e.symm).trans h⟩) (K.qD w w' (j3 mR.symm) (fun b _ h _ _=>oV b h) I.qD) En uo
  (TI.book K I.ti (.inl rfl) (I.Hd _ mR) (by simp only[pH.grow];rw[mR];exact I.hB) uj) (fun b hb=>.inl<|hM b hb) qi mo py wA FZ CW (fun k a ha=>cell_of<|oV _ (K.nq.mB k a ha).2.1) (fun e=>ll e nf) lX
theorem yV{Stop:qz}{τ:mO}(h:c.rE Stop τ M a w):
  (τ=.leaf/\∀w1,c.Rel M w w1->Stop M a w1)\/(∃f,τ=.node f/\a.status=.running/\∃a' w' es,stepG c.P true a w=.go a' w' es/\nJ M w w'/\(∀e∈es,oc (grown M w.heap.size w'.heap.size) c.A.R e\/c.Cv e)/\c.rE Stop (f w) (grown M w.heap.size w'.heap.size) a' w'):=by
 cases τ with
 |leaf=>exact .inl ⟨rfl,h⟩|node f=>obtain⟨hs,h⟩:=h;exact .inr ⟨f,Z,hs,h w<|.refl ..⟩
theorem B6:∀b,none_ b->M b:=fun _ h=>h.elim
section
variable(K:c.Ok)
include K
theorem ars(I:c.nT w0 gs w t j D (.sp q 5) M0 ml 0 a st sm H)(h:c.rE (c.AtKdS (c.Spawns q)) ml M0 a w):c.qw w0 gs w sl t j D (.sp q 5) ml 0:=by
 rcases yV h with⟨rfl,hs⟩|⟨f,rfl,_,a',w',es,aBk,nP,mj,hk⟩
 .have⟨_,a',aBk,hk⟩:=hs w<|.refl ..;have⟨τ,qd⟩:=hk.tree;exact zH K I B6 aBk (.inl Z) I.wg bk_dis (tag':=.sp q 4) (.sa1 qd) (I.mode.reopen trivial trivial Z cW) I.jj I.nx.symm I.fits Z aq aq (.inl aT)
 exact yT K I aq aq aBk nP mj (.skd hk) ⟨_,w,Z,Z⟩
theorem arq(I:c.nT w0 gs w t j D (.sp q 4) M0 ml 1 a st sm H)(h:c.rE (c.AtA1 (c.Spawns q)) ml M0 a w):c.qw w0 gs w sl t j D (.sp q 4) ml 0:=by
 rcases yV h with⟨rfl,hs⟩|⟨f,rfl,_,a',w',es,aBk,nP,mj,hk⟩
 .have⟨_,nG⟩:=hs w<|.refl ..;obtain⟨ho,rfl,rfl,_⟩:=I.mode.open_inv trivial;have hV:=Vc_le j fun a=>(D a).wd;have Au:=I.jN;have hN:=K.N;have hj:=I.jj;have hf:=I.fits;simp only[MT.started,MT.fits]at hj hf;have⟨a',aBk,hk⟩:=nG (Vc j fun a=>(D a).wd) aa dh;have⟨τ,qd⟩:=hk.tree;refine zH K I B6 aBk (.inr ⟨_,_,Z,Z⟩) (I.wg.setSt _) bk_rw (tag':=.sp q 3) (.ske qd) ?_ I.jj I.nx.symm I.fits Z aq aq (.inl aT);have e:(((Vc j fun a=>(D a).wd:Nat):Int)+1)*KK=(((Vc j fun a=>(D a).wd)+pend (MT.sp q 3).ct:Nat):Int)*KK:=by simp[MT.ct,pend]
  rw[e];exact .opn trivial ho cW
 exact yT K I aq aq aBk nP mj (.sa1 hk) ⟨_,w,Z,Z⟩
theorem arp(I:c.nT w0 gs w t j D (.sp q 3) M0 ml 1 a st sm H)(h:c.rE (c.AtKeS (c.Spawns q)) ml M0 a w):c.qw w0 gs w sl t j D (.sp q 3) ml 0:=by
 rcases yV h with⟨rfl,hs⟩|⟨f,rfl,_,a',w',es,aBk,nP,mj,hk⟩
 .have⟨_,a',aBk,hk⟩:=hs w<|.refl ..;have⟨τ,qd⟩:=hk.tree;exact zH K I B6 aBk (.inl Z) I.wg bk_en (tag':=.sp q 2) (.sgo qd) (I.mode.reopen trivial trivial Z cW) I.jj I.nx.symm I.fits Z aq aq (.inl aT)
 exact yT K I aq aq aBk nP mj (.ske hk) ⟨_,w,Z,Z⟩
theorem arl(I:c.nT w0 gs w t j D .kd M0 ml 0 a st sm H)(h:c.rE c.AtKd ml M0 a w):c.qw w0 gs w sl t j D .kd ml 0:=by
 rcases yV h with⟨rfl,hs⟩|⟨f,rfl,_,a',w',es,aBk,nP,mj,hk⟩
 .have⟨_,a',aBk,hk⟩:=hs w<|.refl ..;have⟨τ,qd⟩:=hk.tree;have hV:=Vc_le j fun a=>(D a).wd;have Au:=I.jN;exact zH K I B6 aBk (.inl Z) I.wg bk_dis (tag':=.anch) (.anch qd) (I.mode.reopen trivial trivial Z cW) I.jj I.nx.symm I.fits Z aq aq (.inl aT)
 exact yT K I aq aq aBk nP mj (.kd hk) ⟨_,w,Z,Z⟩
theorem ad5(I:c.nT w0 gs w t j D .w1 M0 ml 1 a st sm H)(h:c.rE c.AtW1 ml M0 a w):c.qw w0 gs w sl t j D .w1 ml 0:=by
 rcases yV h with⟨rfl,hs⟩|⟨f,rfl,_,a',w',es,aBk,nP,mj,hk⟩
 .have⟨_,nG⟩:=hs w<|.refl ..;obtain⟨f,hf⟩:∃f:Nat->WD,f=fun a=>(D a).wd:=⟨_,rfl⟩
  have qi:=I.mode;rw[<-hf]at qi;obtain⟨ho,rfl,rfl,_⟩:=qi.open_inv trivial;have hV:=Vc_le j f;have Au:=I.jN;have hN:=K.N;have⟨a',aBk,h0,mK⟩:=nG (Vc j f) aa dh;by_cases hv:Vc j f=0
  .have⟨τ,qd⟩:=(h0 hv).tree;refine zH K I B6 aBk (.inl Z) I.wg bk_rd (tag':=.ke) (.ke qd) ?_ I.jj I.nx.symm I.fits Z aq aq (.inl aT);have e:((Vc j f+pend MT.w1.ct:Nat):Int)*KK=0:=by rw[hv];simp[MT.ct,pend]
   rw[e,<-hf];exact .fin trivial (allQuit_of ho hv)
  have⟨τ,qd⟩:=(mK hv).tree;refine zH K I B6 aBk (.inl Z) I.wg bk_rd (tag':=.w2<|Vc j f) (.w2 qd) ?_ I.jj I.nx.symm I.fits Z aq aq (.inl<|by rw[<-hf];simp only[MT.phi];omega);rw[<-hf];exact qi.reopen trivial trivial Z (fun vs e=>by cases e;omega)
 exact yT K I aq aq aBk nP mj (.w1 hk) ⟨_,w,Z,Z⟩
theorem ark(I:c.nT w0 gs w t j D .anch M0 ml 1 a st sm H)(h:c.rE (fun _=>c.AS) ml M0 a w):c.qw w0 gs w sl t j D .anch ml 0:=by
 rcases yV h with⟨rfl,hs⟩|⟨f,rfl,_,a',w',es,aBk,nP,mj,hk⟩
 .have⟨τ,qd⟩:=(K.anch a w<|hs w<|.refl ..).tree
  have I':c.nT w0 gs w t j D .w1 none_ τ 1 a st sm H:=⟨I.size,I.ha,.w1 qd,I.jj,I.fits,I.nx,I.wk,I.old,fun e=>by(cases e),fun _=>I.Da (.inl rfl),I.ch,I.ov,I.wg,I.mode.reopen trivial trivial rfl cW,I.qD,I.ti,I.vD,I.hB,I.mem,fun b hb=>hb.elim,I.deaf0,I.deafW,I.above,I.rel,
   fun k hk=>(I.keys k hk).imp id fun⟨Dk,h1,h2⟩=>⟨Dk,h1,fun b hb=>⟨(h2 b hb).1,(h2 b hb).2.1,fun h=>h,(h2 b hb).2.2.2⟩⟩,I.busy,I.B5,I.Dl,fun e=>by(cases e)⟩
  have⟨m1,aBi,qK,h1,h2,h3⟩:=ad5 (sl:=sl) K I' qd;exact⟨m1,aBi,qK,h1,arQ h2 (by simp only[mu,MT.phi];omega),h3⟩
 exact yT K I aq aq aBk nP mj (.anch hk) ⟨_,w,Z,Z⟩
theorem art{vs:Nat}(I:c.nT w0 gs w t j D (.w2 vs) M0 ml 1 a st sm H)(h:c.rE (c.AtW2 vs) ml M0 a w):c.qw w0 gs w sl t j D (.w2 vs) ml 0:=by
 rcases yV h with⟨rfl,hs⟩|⟨f,rfl,_,a',w',es,aBk,nP,mj,hk⟩
 .have⟨_,nG⟩:=hs w<|.refl ..;obtain⟨f,hf⟩:∃f:Nat->WD,f=fun a=>(D a).wd:=⟨_,rfl⟩
  have qi:=I.mode;rw[<-hf]at qi;obtain⟨ho,rfl,rfl,xu⟩:=qi.open_inv trivial;have⟨aBm,h1⟩:=xu vs rfl;have hV:=Vc_le j f;have Au:=I.jN;have hN:=K.N;have⟨aor,aoP⟩:=nG (Vc j f) aa dh;by_cases e:Vc j f=vs
  .have⟨a',aBk,hk⟩:=aor e;have⟨τ,qd⟩:=hk.tree;refine zH K I B6 aBk (.inr ⟨_,_,Z,Z⟩) (I.wg.setSt _) bk_rw (tag':=.w3) (.w3 qd) ?_ I.jj I.nx.symm I.fits Z aq aq (.inl aT);rw[<-hf];exact .reg trivial ho aa
  have⟨a',aBk,hk⟩:=aoP e;have⟨τ,qd⟩:=hk.tree;refine zH K I B6 aBk (.inl Z) I.wg bk_rd (tag':=.anch) (.anch qd) ?_ I.jj I.nx.symm I.fits Z aq aq (.inl<|by rw[<-hf];simp only[MT.phi];omega);rw[<-hf];exact qi.reopen trivial trivial Z cW
 exact yT K I aq aq aBk nP mj (.w2 hk) ⟨_,w,Z,Z⟩
theorem aru{τ:mO}(I:c.nT w0 gs w t j D .w3 M0 τ.wrap 1 a st sm H)(h:c.rE c.AtW3 τ M0 a w):c.qw w0 gs w sl t j D .w3 τ.wrap 0:=by
 rcases yV h with⟨rfl,hs⟩|⟨f,rfl,_,a',w',es,aBk,nP,mj,hk⟩
 .have⟨_,xn,aca,uv⟩:=hs w<|.refl ..;obtain⟨f,hf⟩:∃f:Nat->WD,f=fun a=>(D a).wd:=⟨_,rfl⟩
  have qi:=I.mode;rw[<-hf]at qi;have rq:=I.wg;cases qi with
  |opn h1 _ _=>exact h1.elim|reg h1 h2 h3=>refine zH K I (M:=M0) (fun b hb=>hb) (aca ⟨_,rq⟩) (.inl Z) rq aq (tag':=.blk) (.blk hs) ?_ I.jj I.nx.symm I.fits Z aq aq (.inr ⟨Z,⟨_,w,Z,Z⟩⟩);rw[<-hf];exact .reg trivial h2 h3|last L h1 h2 h3 h4=>refine zH K I (M:=M0) (fun b hb=>hb) (aca ⟨_,rq⟩) (.inl Z) rq aq (tag':=.blk) (.blk hs) ?_ I.jj I.nx.symm I.fits Z aq aq (.inr ⟨Z,⟨_,w,Z,Z⟩⟩);rw[<-hf];exact .last L trivial h2 h3 h4|sema h2=>have⟨a',aBk,hk⟩:=uv rq;have⟨τ,qd⟩:=hk.tree;refine zH K I B6 aBk (.inr ⟨_,_,Z,Z⟩) (rq.setSm 0) bk_sem (tag':=.w4) (.w4 qd) ?_ I.jj I.nx.symm I.fits Z aq aq (.inl aT);rw[<-hf];exact .fin trivial h2
  |fin h1 _=>exact h1.elim
 exact yT K I aq aq aBk nP mj (.w3 hk) ⟨_,w,Z,Z⟩
theorem arv(I:c.nT w0 gs w t j D .w4 M0 ml 1 a st sm H)(h:c.rE c.AtW4 ml M0 a w):c.qw w0 gs w sl t j D .w4 ml 0:=by
 rcases yV h with⟨rfl,hs⟩|⟨f,rfl,_,a',w',es,aBk,nP,mj,hk⟩
 .have⟨_,hx⟩:=hs w<|.refl ..;obtain⟨hq,rfl,rfl⟩:=I.mode.fin_inv trivial;have⟨a',aBk,hk⟩:=hx I.wg;have⟨τ,qd⟩:=hk.tree;exact zH K I B6 aBk (.inl Z) I.wg bk_rd (tag':=.ke) (.ke qd) (.fin trivial hq) I.jj I.nx.symm I.fits Z aq aq (.inl aT)
 exact yT K I aq aq aBk nP mj (.w4 hk) ⟨_,w,Z,Z⟩
theorem arn(I:c.nT w0 gs w t j D .ke M0 ml 1 a st sm H)(h:c.rE c.AtKe ml M0 a w):c.qw w0 gs w sl t j D .ke ml 0:=by
 rcases yV h with⟨rfl,hs⟩|⟨f,rfl,_,a',w',es,aBk,nP,mj,hk⟩
 .have⟨_,a',aBk,hk⟩:=hs w<|.refl ..;obtain⟨hq,rfl,rfl⟩:=I.mode.fin_inv trivial;have⟨τ,qd⟩:=hk.tree;exact zH K I B6 aBk (.inl Z) I.wg bk_en (tag':=.acq) (.acq qd) (.fin trivial hq) I.jj I.nx.symm I.fits Z aq aq (.inl aT)
 exact yT K I aq aq aBk nP mj (.ke hk) ⟨_,w,Z,Z⟩
theorem arj(I:c.nT w0 gs w t j D .acq M0 ml 0 a st sm H)(h:c.rE c.AtAcq ml M0 a w):c.qw w0 gs w sl t j D .acq ml 0:=by
 rcases yV h with⟨rfl,hs⟩|⟨f,rfl,_,a',w',es,aBk,nP,mj,hk⟩
 .have⟨_,a',aBk,hk⟩:=hs w<|.refl ..;obtain⟨hq,rfl,rfl⟩:=I.mode.fin_inv trivial;have e1:MemOp.ofEvents 0 a.frame.fn a.frame.place #[Go.ConcR.mk (.acquire<|stA c.A.Wg)]= #[{g:=0,fn:=a.frame.fn,pos:=a.frame.place,act:=.mark<|.acquire<|stA c.A.Wg}]:=by rw[kD];simp[ofEvent_mk]
  have hy:(t++ #[({g:=0,fn:=a.frame.fn,pos:=a.frame.place,act:=.mark<|.acquire<|stA c.A.Wg}:MemOp)])[t.size]?=some {g:=0,fn:=a.frame.fn,pos:=a.frame.place,act:=.mark<|.acquire<|stA c.A.Wg}:=aq;refine Xp K I aBk (.refl _ _) I.ch I.ov I.qD I.wg (tag':=.done) (M0':=none_) (τ0':=.leaf) (.done hk) ?_ (fun b hb=>hb.elim) (.fin trivial hq) I.jj I.nx.symm I.fits Z aq (fun _ _ _=>Z) (fun _=>?_) (.inl aT)
  .refine I.ti.app (g:=0) K.nq (.inl Z) (I.Hd _ Z) fun op mw=>?_;rw[e1]at mw;have:op={g:=0,fn:=a.frame.fn,pos:=a.frame.place,act:=.mark<|.acquire<|stA c.A.Wg}:=by simpa using mw
   subst this;have oV:c.A.Wg<w.heap.size:=gK K.nq.wB I.hB;exact⟨Z,fun x hx=>by(cases hx),oV,aq⟩
  refine⟨t.size,by rw[e1,act?_of hy],by rw[e1];simp[Trace.g?],by rw[e1];exact⟨0,by simp[Trace.g?],by rw[deaf_old (ku _)];exact I.deaf0⟩,fun g hg hgj=>?_⟩;obtain⟨i,rfl⟩:∃i,g=i+1:=⟨g-1,aa⟩
  have⟨r,hr⟩:=I.rel i aa aa (by have:(D i).st.num=1:=hq i aa;omega);exact⟨r,hr.other fun op mw=>df,lt_of_act? hr.rel.act⟩
 exact yT K I aq aq aBk nP mj (.acq hk) ⟨_,w,Z,Z⟩
end
end mg
open Go Go.Conc
open Go.ConcR (stA smA rd wr KK WgAt Bk g_of_ofEvents ofEvent_mk)
open Go.ConcN (upd upd_same upd_ne sumTo sumTo_upd sumTo_upd_out CTag WD Vc OpenSt AllQuit isOpen isFin isW3 cnt Vc_upd get_map_set get_map_set_same pend bk_cell others_uncounted le_sumTo Vc_le Deaf_still allQuit_of exists_counted)
namespace mg
variable{c:mg}
variable{w0 w w':lE}{gs gs':sA}{t u:Trace}{j:Nat}{D:Nat->GD}{tag tag':MT}{M0:lF}{ml τ0':mO}{d0:Nat}{a a':lZ}{st sm st' sm':Int}{H:pH}{sl:tS}{es:Array Event}{i q:Nat}{g g':lZ}
def vk(m:Nat):Nat->MT
 |0=>match m with
  |0=>.xb|m+1=>.send m
 |q+1=>.sp q 5
theorem avb(h:c.Spawns q g w):∃τ,c.ql (vk c.m q) none_ τ 0 g w:=by
 cases q with
 |zero=>
  unfold vk;have h:c.Sends c.m g w:=h;generalize c.m=m at h;cases m with
  |zero=>obtain⟨τ,h⟩:=Own.tree h;exact⟨τ,.xb h⟩
  |succ m=>obtain⟨τ,h⟩:=Own.tree h;exact⟨τ,.send h⟩
 |succ q=>obtain⟨τ,h⟩:=Own.tree h;exact⟨τ,.skd h⟩
theorem aip(K:c.Ok)(I:c.nT w0 gs w t j D (.sp q 2) M0 ml 0 a st sm H)(h:c.AtGoS (c.Spawns q) M0 a w):c.qw w0 gs w sl t j D (.sp q 2) ml 0:=by
 obtain⟨_,a',child,nP,Ed,anS,sY⟩:=h;have⟨N5,rm⟩:=avb sY;have⟨Ck,xu⟩:=(Own.mono anS fun M g w h=>(.inl h:c.Fa M g w)).tree;have HF:=runT_crowd_spawn (P:=c.P) (sl:=sl) (i:=0) I.ha<|show stepG c.P (0==0) a w=_ from nP;have hj:=I.jj;have hf:=I.fits;simp only[MT.started,MT.fits]at hj hf;have hNq:j+1=c.N-q:=aa;rw[I.size]at HF;have e0:MemOp.ofEvents 0 a.frame.fn a.frame.place #[]= #[]:=by simp[kD]
 have e1:((MemOp.ofEvents 0 a.frame.fn a.frame.place #[]).push {g:=0,fn:=a.frame.fn,pos:=a.frame.place,act:=.go<|j+1} |>.push {g:=j+1,fn:=child.frame.fn,pos:=a.frame.place,act:=.start})=
   #[{g:=0,fn:=a.frame.fn,pos:=a.frame.place,act:=.go<|j+1},{g:=j+1,fn:=child.frame.fn,pos:=a.frame.place,act:=.start}]:=by rw[e0];rfl
 rw[e1]at HF;have mo:∀op∈(#[{g:=0,fn:=a.frame.fn,pos:=a.frame.place,act:=.go<|j+1},{g:=j+1,fn:=child.frame.fn,pos:=a.frame.place,act:=.start}]:Trace),op.act≠.mark .disable/\op.act≠.mark .enable:=by intro op mw;simp only[iB,jM,iD,ld]at mw;rcases mw with rfl|rfl<;>exact⟨aq,aq⟩
 have HJ:=I.ti.fork (x:={g:=0,fn:=a.frame.fn,pos:=a.frame.place,act:=.go<|j+1}) (y:={g:=j+1,fn:=child.frame.fn,pos:=a.frame.place,act:=.start}) ⟨rfl,rfl⟩ ⟨rfl,rfl⟩ I.deaf0<|I.above _<|iH j;have⟨ho,MR,apA,_⟩:=I.mode.open_inv trivial;have HQ:(fun a=>(upd D j (⟨.take,none_,Ck,0⟩:GD) a).wd)=upd (fun a=>(D a).wd) j ⟨7,0,0⟩:=It D j _;have eV:Vc (j+1) (upd (fun a=>(D a).wd) j ⟨7,0,0⟩)=Vc j (fun a=>(D a).wd)+1:=by simp only[Vc,sumTo,upd_same];rw[sumTo_upd_out (fun a=>(D a).wd) _ cnt (ku _)];rfl
 have eS:sumTo (j+1) (fun i=>(upd D j (⟨.take,none_,Ck,0⟩:GD) i).st.wt)=sumTo j (fun i=>(D i).st.wt)+9:=by
  simp only[sumTo,upd_same];have:=sumTo_upd_out D (⟨.take,none_,Ck,0⟩:GD) (fun d=>d.st.wt)<|ku j;rw[this]
  rfl
 have mK:∀i,i<j->i≠j:=fun i hi=>aa;have HB:(vk c.m q).opn:=by cases q with
  |zero=>unfold vk;generalize c.m=m;cases m<;>rfl
  |succ q=>rfl
 have ao0:∀r,vk c.m q≠.qH r:=fun r e=>by cases q with
  |zero=>unfold vk at e;generalize c.m=m at e;cases m<;>cases e
  |succ q=>cases e
 have VL:isOpen (vk c.m q).ct/\pend (vk c.m q).ct=0/\(∀vs,(vk c.m q).ct≠.w2 vs):=by cases q with
  |zero=>unfold vk;generalize c.m=m;cases m<;>exact⟨trivial,rfl,cW⟩
  |succ q=>exact⟨trivial,rfl,by simp[vk,MT.ct]⟩
 refine⟨_,_,c.mu (j+1) (upd D j ⟨.take,none_,Ck,0⟩) (vk c.m q) N5,HF,?_,_,w,sl,j+1,upd D j ⟨.take,none_,Ck,0⟩,vk c.m q,none_,N5,0,a',st,sm,H,Z,?_,Z⟩
 .unfold mu;apply Gg;rw[eS];cases q with
  |zero=>unfold vk;generalize c.m=m;cases m<;>simp only[MT.phi]<;>omega
  |succ q=>simp only[vk,MT.phi];omega
 have h0:∀b,b<j+1->((gs.setIfInBounds 0 a').push child)[b]?=(gs.setIfInBounds 0 a')[b]?:=fun b hb=>by rw[fi (by simp[I.size];omega),<-eB]
 refine⟨dK,by rw[h0 0 aa,dP cu],rm,?_,?_,?_,fun i hi=>?_,fun i hi=>by rw[lu D _ aa];exact I.old i hi,fun _ i hz hi=>?_,fun MC i hi=>?_,I.ch,by rw[HB];exact I.ov,I.wg,?_,I.qD,HJ,I.vD,I.hB,fun i hi b hb=>?_,fun b hb=>hb.elim,
  by rw[kK t 0 _ mo,I.deaf0],fun i hi=>?_,fun g0 vB=>by rw[kK t _ _ mo,I.above g0 aa],fun i hz hi hn=>?_,fun k hk=>?_,fun i hi k hb=>?_,fun i hi k l hb p hp=>?_,I.Dl,fun e=>?_⟩
 .cases q with
  |zero=>unfold vk;generalize c.m=m;cases m<;>simp only[MT.started]<;>omega
  |succ q=>simp only[vk,MT.started];omega
 .cases q with
  |zero=>
   unfold vk;generalize c.m=m;cases m with
   |zero=>trivial|succ m=>exact iH m
  |succ q=>show q+c.A.z0<c.N;omega
 .rw[I.nx];cases q with
  |zero=>unfold vk;generalize c.m=m;cases m<;>simp only[MT.nx]<;>omega
  |succ q=>rfl
 .rcases j6 i j with lX|oh
  .have⟨x,hx,pO⟩:=I.wk i lX;exact⟨x,by rw[h0 (i+1) aa,dU aa];exact hx,by rw[lu D _ aa];exact pO⟩
  obtain rfl:i=j:=aa;refine⟨child,?_,by rw[upd_same];exact .take xu⟩;rw[show i+1=(gs.setIfInBounds 0 a').size by simp[I.size],eK]
 .rcases j6 i j with lX|oh
  .rw[lu D _ aa];exact I.opn rfl i hz lX
  obtain rfl:i=j:=aa;rw[upd_same];trivial
 .exfalso;rcases MC with h|⟨r,h⟩
  .rw[HB]at h;cases h
  exact ao0 r h
 .rw[HQ,MR,apA]
  have:=Go.ConcN.Mode.opn (j:=j+1) (D:=upd (fun a=>(D a).wd) j ⟨7,0,0⟩) VL.1 (fun i hi=>by
   by_cases e:i=j
   .subst e;rw[upd_same];simp
   rw[lu _ _ e];exact ho i aa) (fun vs e=>ll e (VL.2.2 vs))
  rw[eV,VL.2.1]at this;simpa[MT.ct,pend]using this
 .rcases j6 i j with lX|oh
  .rw[lu D _ aa]at hb;exact I.mem i lX b hb
  obtain rfl:i=j:=aa;rw[upd_same]at hb;exact hb.elim
 .rw[kK t _ _ mo];rcases j6 i j with lX|oh
  .rw[lu D _ aa];exact I.deafW i lX
  obtain rfl:i=j:=aa;rw[upd_same];exact I.above _<|iH i
 .exfalso;rcases j6 i j with lX|oh
  .rw[lu D _ aa]at hn;have:=I.opn rfl i hz lX;cases hs:(D i).st<;>rw[hs]at hn this<;>simp[WS.num,WS.loops]at hn this
  obtain rfl:i=j:=aa;rw[upd_same]at hn;simp[WS.num]at hn
 .rw[I.nx]at hk;simp[MT.nx]at hk
 .rcases j6 i j with lX|oh
  .rw[lu D _ aa]at hb;exact I.busy i lX k hb
  obtain rfl:i=j:=aa;rw[upd_same]at hb;cases hb
 .rcases j6 i j with lX|oh
  .rw[lu D _ aa]at hb;exact I.B5 i lX k l hb p hp
  obtain rfl:i=j:=aa;rw[upd_same]at hb;cases hb
 have:=HB;rw[e]at this;cases this
theorem aro(K:c.Ok)(I:c.nT w0 gs w t j D (.sp q 2) M0 ml 0 a st sm H)(h:c.rE (c.AtGoS (c.Spawns q)) ml M0 a w):c.qw w0 gs w sl t j D (.sp q 2) ml 0:=by
 rcases yV h with⟨rfl,hs⟩|⟨f,rfl,_,a',w',es,aBk,nP,mj,hk⟩
 .exact aip K I<|hs w<|.refl ..
 exact yT K I aq aq aBk nP mj (.sgo hk) ⟨_,w,Z,Z⟩
theorem awL(K:c.Ok)(I:c.nT w0 gs w t j D tag M0 ml d0 a st sm H)(nf:tag≠.done)(nK:a.status=.running):c.qw w0 gs w sl t j D tag ml 0:=by
 have uo:=I.ms;cases uo with
 |skd h=>exact ars K I h|sa1 h=>exact arq K I h|ske h=>exact arp K I h|sgo h=>exact aro K I h|send h=>
  rcases yV h with⟨rfl,hs⟩|⟨f,rfl,_,a',w',es,aBk,nP,mj,hk⟩
  .exact ari K I Z hs
  exact yT K I aq aq aBk nP mj (.send hk) ⟨_,w,Z,Z⟩
 |qH h=>cases nK
 |xb h=>
  rcases yV h with⟨rfl,hs⟩|⟨f,rfl,_,a',w',es,aBk,nP,mj,hk⟩
  .exact arh K I Z<|hs w<|.refl ..
  exact yT K I aq aq aBk nP mj (.xb hk) ⟨_,w,Z,Z⟩
 |kd h=>exact arl K I h|anch h=>exact ark K I h|w1 h=>exact ad5 K I h|w2 h=>exact art K I h|w3 h=>exact aru K I h|blk h=>cases nK
 |w4 h=>exact arv K I h|ke h=>exact arn K I h|acq h=>exact arj K I h|done h=>exact ll rfl nf
theorem RQ{Stop:qz}{τ:mO}(h:c.IS Stop τ M g w):
  (τ=.leaf/\∀w1,c.Rel M w w1->Stop M g w1)\/(∃f,τ=.node f/\∃g' w' es,stepG c.P false g w=.go g' w' es/\nJ M w w'/\(∀e∈es,oc (grown M w.heap.size w'.heap.size) c.A.R e\/False)/\c.IS Stop (f w) (grown M w.heap.size w'.heap.size) g' w'):=by
 cases τ with
 |leaf=>exact .inl ⟨rfl,h⟩|node f=>exact .inr ⟨f,rfl,h.2 w<|.refl ..⟩
theorem awM(K:c.Ok)(I:c.nT w0 gs w t j D tag M0 ml d0 a st sm H)(nf:tag≠.done)(hi:i<j)(hg:gs[i+1]?=some g)(nK:g.status=.running):c.qw w0 gs w sl t j D tag ml (i+1):=by
 have⟨x,hx,pO⟩:=I.wk i hi;rw[hg]at hx;cases hx;have hz:(D i).st≠.quit->c.A.z0<=i:=fun h=>iF fun lX=>h<|I.old i lX;generalize hd:D i=d at pO hz;cases pO with
 |take h=>
  rcases RQ h with⟨rfl,hs⟩|⟨f,rfl,g',w',es,aBk,nP,mj,hk⟩
  .exact axL K I nf hi (hz aq) hd hg hs
  exact RS K I nf hi (hz aq) hd Z aq hg aBk nP mj (.take hk) ⟨_,w,Z,Z⟩
 |pz h=>cases nK
 |busy h=>
  rcases RQ h with⟨rfl,hs⟩|⟨f,rfl,g',w',es,aBk,nP,mj,hk⟩
  .exact axJ K I nf hi (hz aq) hd hg<|hs w<|.refl ..
  exact RS K I nf hi (hz aq) hd Z aq hg aBk nP mj (.busy hk) ⟨_,w,Z,Z⟩
 |IW h=>
  rcases RQ h with⟨rfl,hs⟩|⟨f,rfl,g',w',es,aBk,nP,mj,hk⟩
  .exact axK K I nf hi (hz aq) hd hg<|hs w<|.refl ..
  exact RS K I nf hi (hz aq) hd Z aq hg aBk nP mj (.IW hk) ⟨_,w,Z,Z⟩
 |r0 h=>
  rcases RQ h with⟨rfl,hs⟩|⟨f,rfl,g',w',es,aBk,nP,mj,hk⟩
  .exact axI K I nf hi (hz aq) hd hg<|hs w<|.refl ..
  exact RS K I nf hi (hz aq) hd Z aq hg aBk nP mj (.r0 hk) ⟨_,w,Z,Z⟩
 |k1 h=>exact axG K I nf hi (hz aq) hd hg h|d1 h=>exact axC K I nf hi (hz aq) hd hg h|d2 h=>exact axD K I nf hi (hz aq) hd hg h|d3 h=>exact axE K I nf hi (hz aq) hd hg h|d4 h=>exact axF K I nf hi (hz aq) hd hg h|quit h=>exact axH K I nf hi hd hg nK h
theorem au9(K:c.Ok)(I:c.nT w0 gs w t j D tag M0 ml d0 a st sm H)(nf:tag≠.done):∃(b:Nat) (g:lZ),gs[b]?=some g/\g.status=.running:=by
 have runs:∀i,i<j->(D i).st≠.pz->(D i).st≠.quit->∃(b:Nat) (g:lZ),gs[b]?=some g/\g.status=.running:=fun i hi h1 h2=>by have⟨x,hx,pO⟩:=I.wk i hi;exact⟨i+1,x,hx,pO.running h1 h2⟩
 rcases I.ms.status K nf with⟨hs,_⟩|⟨_,rfl|⟨r,rfl⟩⟩
 .exact⟨0,a,I.ha,hs⟩
 .obtain⟨f,hf⟩:∃f:Nat->WD,f=fun a=>(D a).wd:=⟨_,rfl⟩
  have qi:=I.mode;rw[<-hf]at qi;have adb:∀i,(f i).stage=(D i).st.num:=fun i=>by rw[hf];rfl
  have hq:∀i,(D i).st.num≠1->(D i).st≠.quit:=fun i h e=>h (by rw[e];rfl);cases qi with
  |opn h1 _ _=>exact h1.elim|reg _ _ h3=>have⟨i,hi,h5⟩:=exists_counted h3;exact runs i hi (I.Da (.inl Z) i hi) (hq i<|by rw[<-adb];omega)
  |last L _ h2 h3 _=>exact runs L h2 (I.Da (.inl rfl) L h2) (hq L<|by rw[<-adb];omega)|fin h1 _=>exact h1.elim
 have hz:=K.z0;have hj:c.A.z0<j:=by rw[<-I.jj];exact hz
 exact runs c.A.z0 hj (I.Da (.inr ⟨r,Z⟩) _ hj) fun e=>by have:=I.opn rfl c.A.z0 (ku _) hj;rw[e]at this;exact this
theorem all_awake(K:c.Ok)(I:c.nT w0 gs w t j D tag M0 ml d0 a st sm H)(nf:tag≠.done):∀g∈gs,awake g:=by
 intro g hg;have⟨b,hb⟩:=fj.1 hg;cases b with
 |zero=>
  rw[I.ha]at hb;cases hb;rcases I.ms.status K nf with⟨hs,_⟩|⟨hs,_⟩
  .exact awake_of<|.inl hs
  exact awake_of<|.inr<|.inl hs
 |succ i=>
  have lX:i<j:=by have:=(eg.1 hb).1;rw[I.size]at this;omega
  have⟨x,hx,pO⟩:=I.wk i lX;rw[hb]at hx;cases hx;rcases pO.status with⟨h,_⟩|⟨h,_⟩|⟨h,_⟩
  .exact awake_of<|.inl h
  .exact awake_of<|.inr<|.inr h
  exact awake_of<|.inr<|.inl h
theorem nT.at(K:c.Ok)(I:c.nT w0 gs w t j D tag M0 ml d0 a st sm H)(d:Nat):c.nT w0 gs (w.at d) t j D tag M0 ml d0 a st sm H:=by
 have hr:∀M,c.Rel M w (w.at d):=fun M=>⟨ku _,fun _ _=>rfl,rfl,rfl,rfl,fun h=>⟨h.1,h.2.1,h.2.2.1,K.qD w (w.at d) (ku _) (fun _ _ _ _ _=>rfl) h.2.2.2⟩⟩
 exact⟨I.size,I.ha,I.ms.rely (hr _),I.jj,I.fits,I.nx,fun i hi=>let⟨x,hx,pO⟩:=I.wk i hi;⟨x,hx,pO.rely (hr _)⟩,I.old,I.opn,I.Da,I.ch,I.ov,I.wg,I.mode,K.qD w (w.at d) (ku _) (fun _ _ _ _ _=>Z) I.qD,I.ti,I.vD,I.hB,I.mem,I.zI,I.deaf0,I.deafW,I.above,I.rel,
  fun k hk=>(I.keys k hk).imp id fun⟨Dk,h1,h2⟩=>⟨Dk,K.res k Dk w (w.at d) (fun _ _=>rfl) (fun _ _=>rfl) h1,h2⟩,I.busy,I.B5,I.Dl.trans (hr _),I.acq⟩
variable(c) in
def Oi(w0:lE)(m:Machine)(t:Trace):Prop:=
 ∃(gs:sA) (w:lE) (sl:tS) (a:lZ) (q:Nat->Nat),m=crowd gs w sl/\gs.size=c.N+1/\gs[0]?=some a/\c.GS a/\Leavers c.P t gs q/\
  Past (fun l=>c.A.Bb l\/∃ad,l=.cell ad/\ad.block=c.A.Wg) w.heap.size t/\(∀k,k<c.m->∃Dk:lF,c.DG k Dk w/\∀b,Dk b->c.A.B0<=b/\b<w.heap.size)/\c.tv w/\c.Rel none_ w0 w
theorem asE(K:c.Ok)(I:c.nT w0 gs w t j D .done M0 ml d0 a st sm H):c.Oi w0 (crowd gs w sl) t:=by
 obtain⟨hq,rfl,rfl⟩:=I.mode.fin_inv trivial;have Au:j=c.N:=I.jj.symm;have ac4:∀i,i<j->(D i).st=.quit:=fun i hi=>by have:(D i).st.num=1:=hq i hi;cases hs:(D i).st<;>rw[hs]at this<;>simp[WS.num]at this
 have Hl:c.GS a/\d0=0:=by
  have uo:=I.ms;cases uo with
  |done h=>exact⟨h,rfl⟩
 have hL:∀i,i<j->∃g n,gs[i+1]?=some g/\QuitsD c.P n (Deaf t<|i+1) g:=fun i hi=>by
  have⟨x,hx,pO⟩:=I.wk i hi;have Jk:=I.deafW i hi;have yN:=ac4 i hi;generalize D i=d at pO Jk yN;cases pO with
  |quit h=>exact⟨x,_,hx,by rw[Jk];exact h⟩|_=>cases yN
 have FP:∀i,∃n,∀g,i<j->gs[i+1]?=some g->QuitsD c.P n (Deaf t<|i+1) g:=fun i=>by
  by_cases hi:i<j
  .have⟨g,n,h1,h2⟩:=hL i hi;exact⟨n,fun g' _ h=>by rw[h1]at h;cases h;exact h2⟩
  exact⟨0,fun g' h=>ll h hi⟩
 have⟨q,h1,h2,h3,h4⟩:=I.acq rfl;refine⟨gs,w,sl,a,fun i=>Classical.choose<|FP<|i-1,Z,by rw[I.size,Au],I.ha,Hl.1,⟨fun i g hi hg=>?_,fun b hb=>I.above b<|by rw[I.size]at hb;omega⟩,?_,fun k hk=>?_,I.qD,I.Dl⟩
 .obtain⟨i',rfl⟩:∃i',i=i'+1:=⟨i-1,aa⟩
  have lX:i'<j:=by have:=(eg.1 hg).1;rw[I.size]at this;omega
  exact fA (FP i') g lX hg
 .have:=I.ti.past h1 h2 h3 (by rw[I.deaf0];exact Hl.2) h4
  rwa [I.vD]at this
 have nY:k<H.nx:=by rw[I.nx];exact hk
 rcases I.keys k nY with⟨i,hi,hb,_⟩|⟨Dk,h,hD⟩
 .rw[ac4 i hi]at hb;cases hb
 exact⟨Dk,h,fun b hb=>⟨(hD b hb).1,(hD b hb).2.1⟩⟩
theorem as2(K:c.Ok)(μ:Mu)(m:Machine)(t:Trace)(h:c.zW w0 μ m t):c.Oi w0 m t\/∃m' aBi qK,stepT c.P m=(.next m',aBi)/\zZ c.N qK μ/\c.zW w0 qK m' (t++aBi):=by
 obtain⟨gs,w,sl,j,D,tag,M0,ml,d0,a,st,sm,H,rfl,I,rfl⟩:=h;by_cases nf:tag=.done
 .subst nf;exact .inl<|asE K I
 have⟨b,g,d,rO,hg,nK,uM⟩:=crowd_pick (P:=c.P) (w:=w) (sl:=sl) (all_awake K I nf)<|au9 K I nf;rw[uM];have I':=I.at K d;cases b with
 |zero=>rw[I.ha]at hg;cases hg;exact .inr<|awL K I' nf nK
 |succ i=>
  have hi:i<j:=by have:=(eg.1 hg).1;rw[I.size]at this;omega
  exact .inr<|awM K I' nf hi hg nK
theorem phase(K:c.Ok){q:Nat->Nat}{B:Nat}(mR:gs.size=c.A.z0+1)(h0:gs[0]?=some a)(hL:Leavers c.P t gs q)(hP:Past c.A.Bb B t)(hT:c.A.T0=t.size)(hBW:B<=c.A.Wg)(hB0:c.A.B0<=w.heap.size)
  (rq:WgAt c.ty c.A.Wg w 0 0) (pM:∃s r tm,w.heap[c.A.Ch]?=some (.chan 0 #[] false s r tm)) (sH:∃s r tm,w.heap[c.A.Ov]?=some (.chan 0 #[] false s r tm)) (wy:c.tv w) (hs:c.Spawns (c.N-c.A.z0) a w):∃n m' t',runNT c.P n (crowd gs w sl) t=(.next m',t')/\c.Oi w m' t':=by
 obtain⟨r,hr⟩:∃r,c.N-c.A.z0=r+1:=⟨c.N-c.A.z0-1,by have:=K.z0;omega⟩
 rw[hr]at hs;have⟨τ,qd⟩:=Own.tree hs;have anj:c.A.Wg<w.heap.size:=gK K.nq.wB hB0;have hV:Vc c.A.z0 (fun _=>(⟨1,0,0⟩:WD))=0:=by
  have:∀n,sumTo n (fun _=>cnt (⟨1,0,0⟩:WD))=0:=fun n=>by
   induction n with
   |zero=>rfl|succ n ih=>simp only[sumTo,ih];rfl
  exact this _
 have I:c.nT w gs w t c.A.z0 (fun i=>⟨.quit,none_,.chain<|q<|i+1,Deaf t<|i+1⟩) (.sp r 5) none_ τ 0 a 0 0 ⟨w.heap.size,fun _=>0,0,fun _=>0⟩:=by
  refine⟨mR,h0,.skd qd,by simp only[MT.started];omega,by simp only[MT.fits];omega,rfl,fun i hi=>?_,fun _ _=>rfl,fun _ i hz hi=>aa,fun _ i _ h=>(by cases h),pM,sH,rq,?_,wy,TI.begin hP hT rfl hBW anj,rfl,hB0,fun i hi b hb=>hb.elim,fun b hb=>hb.elim,hP.hears,fun _ _=>rfl,fun g hg=>hL.above g aa,fun i hz hi=>aa,fun k hk=>(by simp at hk),fun i hi k hb=>(by cases hb),fun i hi k l hb=>(by cases hb),.refl ..,fun e=>bD⟩
  .have lX:i+1<gs.size:=aa;exact⟨gs[i+1],eB lX,.quit<|hL.old (i+1) _ aa<|eB lX⟩
  have:=Go.ConcN.Mode.opn (j:=c.A.z0) (D:=fun _=>(⟨1,0,0⟩:WD)) (tag:=(MT.sp r 5).ct) trivial (fun i hi=>aq) (fun vs e=>bD);rw[hV]at this;have h2:Go.ConcN.Mode c.A.z0 (fun _=>(⟨1,0,0⟩:WD)) (MT.sp r 5).ct 0 0:=by simpa[MT.ct,pend]using this
  exact h2
 exact at3 (arT c.N) (c.zW w) (c.Oi w) (as2 K) _ _ _ ⟨gs,w,sl,_,_,_,_,_,_,_,_,_,_,Z,I,Z⟩
end mg
end Go.Proofs.YtfjcghhjlmfggaaGreatDoor
