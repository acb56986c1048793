/- FarmMany: lemmas. -/
import Derived.Test.YtfjcghhjlmfggaaGreatDoorPMwI
import Derived.Conc.TokenWalk
import Derived.Conc.AppendWalk
import Derived.Test.YtfjcghhjlmfggaaGreatDoorPLaidM
import Derived.Conc.LeavingOf
import Derived.Handed
import Derived.SevenTiedAt
set_option linter.defProp false
set_option linter.unusedSectionVars false
set_option linter.unusedVariables false
set_option linter.unusedSimpArgs false
set_option maxRecDepth 100000
set_option maxHeartbeats 8000000
namespace Go.Proofs.YtfjcghhjlmfggaaGreatDoor
noncomputable section
theorem aL{p:Prop}(h:p:=by rw[Array.getD_eq_getD_getElem?,Array.getElem?_eq_getElem hi];rfl):p:=h
theorem aE{p:Prop}(h:p:=by simp only[JZ,J0,xA,yc,JU,JV,JW,JX,yU,JY,vH,vI,B3,B4,yb,Eu,yS,yR,uc,xy,wM,tV,Tryz.f5,Option.getD_some]):p:=h
theorem af{p:Prop}(h:p:=by simp only[JZ,J0,xA,yc,JU,JV,JW,JX,yU,JY,vH,vI,B3,B4,yb,Eu,yS,yR,uc,xy,wM,tV,Tryz.f5,Option.getD_some];rfl):p:=h
theorem dI{p:Prop}(h:p:=by rw[I.cl.n];exact hi):p:=h
theorem cM{p:Prop}(h:p:=by unfold Region.wanted;rw[hT.gd i hi]):p:=h
theorem cd{p:Prop}(h:p:=by simp only[qQ,tG,wO,C7,xy,wM,tV,Tryz.f5,Option.getD_some]):p:=h
theorem bq{p:Prop}(h:p:=by exact List.contains_iff_mem.1 (by kernel_rfl)):p:=h
theorem au{p:Prop}(h:p:=by simp only[qQ,tG,wO,C7,xy,wM,tV,Tryz.f5,Option.getD_some];rfl):p:=h
def jm:=@Go.Sem.events_bind
section
open Go.Proofs.Tryz
open Go Go.Conc
variable{a:Act}{aBi:nI}{R:Ending->World->Prop}{ρ:lB}{fn:Func}{f:FuncId}{d i n:Nat}{D M:lF}{y:mN}{P:lY}{e t:lT}{v:lH}{w w1:lE}
def Np(P:lY)(fn:Func)(R:Ending->World->Prop)(KO:lB->World->Prop):pg
 |.normal,ρ,w=>KO ρ w|.ret,ρ,w=>sL P fn R .ret ρ w|_,_,_=>False
theorem afX(h:sL P fn R .ret ρ w):∀a,Fit fn.ntmps ρ a->∃v,(results fn a.tmps).run P w=.ok v w/\R (.returned v) w:=by unfold sL at h;exact h
theorem auo(h:sL P fn R .normal ρ w):∀a,Fit fn.ntmps ρ a->∃v,(results fn a.tmps).run P w=.ok v w/\R (.returned v) w:=by unfold sL at h;exact h
theorem Ys{e:Exit}(h:sL P fn R e ρ w):e=.normal\/e=.ret:=by unfold sL at h;cases e<;>first|exact .inl rfl|exact .inr rfl|exact h.elim
theorem XP{KO:lB->World->Prop}{e:Exit}(h:Np P fn R KO e ρ w):e=.normal\/e=.ret:=by cases e<;>first|exact .inl rfl|exact .inr rfl|exact h.elim
section
variable{P:lY}
theorem I3{N:Nat}{T:lW}(hT:T.size=N):Fit N (fun i=>T.getD i undef) ⟨T,[]⟩:=⟨hT,fun i=>rfl,rfl⟩
theorem Uz{c:Code}{T:lW}{v:lE}{KO:lB->World->Prop}(hf:P.funcs[f]?=some fn)(hT:T.size=fn.ntmps)
  (h:∀t,W P fn.ntmps c (Np P fn R KO) (fun i=>T.getD i undef)<|v.tp t):
  vW P (fun f' T' w=>f'=f/\IB P (fun u w=>R (.returned u) w) f' T' w) (fun f' T' w=>f'=f/\T'.size=fn.ntmps/\KO (fun i=>T'.getD i undef) w) ⟨fm f T<|[.code c]++[pX],[],v⟩:=by
 intro t _;have h1:=h t;unfold W at h1;have⟨e,a',w',hq,Mf⟩:=h1 ⟨T,[]⟩ (I3 hT) (base f) [pX] [oN];have e0:(⟨fm f T<|[.code c]++[pX],[],v⟩:LC).m t=lone ((base f).at ⟨T,[]⟩ (.code c::[pX])) [oN] (v.tp t):=rfl;rw[e0];cases e with
 |normal=>obtain⟨ρ,wA,hK⟩:=hq;obtain⟨n,hn⟩:=Mf;refine⟨n,_,w',hn,.inr ⟨Z,Z,Z,wA.size,?_⟩⟩;have:(fun i=>a'.tmps.getD i undef)=ρ:=wA.env;show KO (fun i=>a'.tmps.getD i undef) w';rw[this];exact hK
 |ret=>obtain⟨ρ,wA,hK⟩:=hq;obtain⟨todo,n,hn⟩:=Mf;have⟨u,hr,hR⟩:=afX hK a' wA;exact⟨n,_,w',hn,.inl ⟨Z,Z,fn,u,hf,hr,hR⟩⟩
 |panic c=>exact ll (XP hq.2) aq|exit id=>obtain⟨_,_,h⟩:=hq;exact ll (XP h) aq
 |goto l=>obtain⟨_,_,h⟩:=hq;exact ll (XP h) aq
 |outgrown=>exact hq.elim
theorem amk{c:Code}{T:lW}{v:lE}(hf:P.funcs[f]?=some fn)(hT:T.size=fn.ntmps)
  (h:∀t,W P fn.ntmps c (sL P fn R) (fun i=>T.getD i undef)<|v.tp t):Good P (fun u w=>R (.returned u) w) ⟨fm f T [.code c],[],v⟩:=by
 intro t _;have h1:=h t;unfold W at h1;have⟨e,a',w',hq,Mf⟩:=h1 ⟨T,[]⟩ (I3 hT) (base f) [] [oN];have e0:(⟨fm f T [.code c],[],v⟩:LC).m t=lone ((base f).at ⟨T,[]⟩ [.code c]) [oN] (v.tp t):=rfl;rw[e0];cases e with
 |normal=>obtain⟨ρ,wA,hK⟩:=hq;have⟨u,hr,hR⟩:=auo hK a' wA;obtain⟨n,hn⟩:Steps P _ _:=Steps.trans Mf<|.one step_end;exact⟨n,_,w',hn,.inl ⟨Z,fn,u,hf,hr,hR⟩⟩
 |ret=>obtain⟨ρ,wA,hK⟩:=hq;obtain⟨todo,n,hn⟩:=Mf;have⟨u,hr,hR⟩:=afX hK a' wA;exact⟨n,_,w',hn,.inl ⟨Z,fn,u,hf,hr,hR⟩⟩
 |panic c=>exact ll (Ys hq.2) aq|exit id=>obtain⟨_,_,h⟩:=hq;exact ll (Ys h) aq
 |goto l=>obtain⟨_,_,h⟩:=hq;exact ll (Ys h) aq
 |outgrown=>exact hq.elim
end
open Go Go.Conc Go.Conc.Lib Go.ConcR.Gen Go.RowKit
def tV:Code:=Tryz.f5.body.getD .skip
def wM:Code:=match tV with|.seq _ (.seq _ (.seq _ c))=>c|_=>.skip
def xy:Code:=match wM with|.seq _ c=>c|_=>.skip
def uc:Code:=match xy with|.seq _ c=>c|_=>.skip
def yR:Code:=match uc with|.seq _ c=>c|_=>.skip
def yS:Code:=match yR with|.seq _ c=>c|_=>.skip
def Eu:Code:=match yS with|.seq _ c=>c|_=>.skip
def yb:Code:=match Eu with|.seq _ c=>c|_=>.skip
def vI:Array Oper:=match Eu with|.seq (.region _ o _) _=>o|_=> #[]
theorem XD:Tryz.f5.ntmps=70:=ai
structure TM(l:LM)(T:lW):Prop where
 size:T.size=70
 t8:T[8]?=some (.pointer<|some ⟨l.Br,0,none⟩)
 t9:T[9]?=some (.pointer<|some ⟨l.Be,0,none⟩)
structure IC(B0 m:Nat)(x:Nat->mA)(tape:Nat->Value)(D:lF)(w:lE):Prop where
 row:∀b,D b->∃cs e f,w.heap[b]?=some (.cells cs e f)
 BA:prog.globals.size<=w.heap.size
 b0:B0<=w.heap.size
 fa:yo D w
 gen:∀k,k<m->(x k).gen.length<=1000000000
 tape:∀k,k<m->∃A n cc,tape k=.slice A n cc/\(∀a,A=some a->cc≠0->D a.block/\a.spot=none)/\pL w D (.slice A n cc) (x k).nums
theorem Zc{name:String}{g:Nat}(hg:prog.globalNamed name=some g)(h:w1.heap[g]?=w.heap[g]?):w1.var? prog name=w.var? prog name:=by unfold World.var?;rw[hg,iI,iI,h]
theorem yx{a:Addr}(h:w1.heap[a.block]?=w.heap[a.block]?):w1.cell? a=w.cell? a:=by unfold World.cell?;rw[h]
theorem yo.keep(h:yo D w)(hw:∀b,D b->w1.heap[b]?=w.heap[b]?):yo D w1:=by
 have gl:∀{g:Nat},g<10+1->w1.heap[g]?=w.heap[g]?:=fun hg=>hw _<|h.xQ _ hg;have s1:=Zc LQ (gl<|show(5:Nat)<10+1 by decide);have s2:=Zc LP (gl<|show(6:Nat)<10+1 by decide);refine⟨⟨⟨?_,?_,?_⟩,?_,fun i hi=>?_⟩,h.xQ,?_,?_⟩
 .rw[s1];exact h.fa.num.EY
 .rw[s2];exact h.fa.num.EN
 .exact(Zc Pc<|gl<|show(7:Nat)<10+1 by decide).trans h.fa.num.tab
 .exact(yx<|gl<|show(0:Nat)<10+1 by decide).trans h.fa.err
 .exact(yx<|gl<|show(2:Nat)<10+1 by decide).trans<|h.fa.kn i hi
 .rw[s1];exact h.EY
 rw[s2];exact h.EN
theorem adJ{l:mq}(h:pL w D v l)(hD:∀b,D b->w1.heap[b]?=w.heap[b]?):pL w1 D v l:=by obtain⟨A',c',h1,h2,h3,h4,h5⟩:=h;refine⟨A',c',h1,h2,h3,h4,fun hn=>?_⟩;have⟨b,o,e,hb,hc⟩:=h5 hn;exact⟨b,o,e,hb,fun j u hu=>(yx<|hD b hb).trans<|hc j u hu⟩
theorem IC.keep{B0 m:Nat}{x:Nat->mA}{tape:Nat->Value}(h:IC B0 m x tape D w)(hs:w.heap.size<=w1.heap.size)(hw:∀b,D b->w1.heap[b]?=w.heap[b]?):IC B0 m x tape D w1:=
 ⟨fun b hb=>by rw[hw b hb];exact h.row b hb,j5 h.BA hs,j5 h.b0 hs,h.fa.keep hw,h.gen,fun k hk=>by
  have⟨A,n,cc,h1,h2,h3⟩:=h.tape k hk
  exact⟨A,n,cc,h1,h2,adJ h3 hw⟩⟩
def aim(l:LM)(x:Nat->mA)(k:Nat)(M:lF)(w:lE):Prop:=k<l.m->∃rv ev o,rR (x k) o/\uC M w (x k).title rv ev o/\(∀(i:Nat) u,rv[i]?=some u->w.cell? ⟨l.Cr,5*k+i,none⟩=some u)/\w.cell? ⟨l.Ce,k,none⟩=some ev
def Ss(l:LM)(B0 z0 T0:Nat)(SB:lF):wV where
 Wg:=l.Wg
 Ch:=l.Ch
 Ov:=l.Ov
 B0:=B0
 z0:=z0
 T0:=T0
 R b:=b<B0/\b≠l.Wg/\b≠l.Ch/\b≠l.Ov/\b≠l.Cr/\b≠l.Ce/\¬SB b
 tR k a:=k<l.m/\((∃i,i<5/\a=⟨l.Cr,5*k+i,none⟩)\/a=⟨l.Ce,k,none⟩)
 Bb l:=∃a,l=.cell a/\SB a.block
structure GH(l:LM)(B0:Nat)(SB D:lF):Prop where
 wg:l.Wg<B0
 ch:l.Ch<B0
 ov:l.Ov<B0
 cr:l.Cr<B0
 ce:l.Ce<B0
 wc:l.Wg≠l.Ch
 wo:l.Wg≠l.Ov
 co:l.Ch≠l.Ov
 rw:l.Cr≠l.Wg/\l.Cr≠l.Ch/\l.Cr≠l.Ov/\l.Cr≠l.Ce
 ew:l.Ce≠l.Wg/\l.Ce≠l.Ch/\l.Ce≠l.Ov
 sb:∀b,SB b->b<B0/\b≠l.Wg/\b≠l.Ch/\b≠l.Ov/\b≠l.Cr/\b≠l.Ce
 rd:∀b,b=l.Bj\/b=l.Bo\/b=l.Bp\/b=l.Bt\/b=l.Br\/b=l.Be\/(0<l.m/\(b=l.Ap\/b=l.At))\/D b->b<B0/\b≠l.Wg/\b≠l.Ch/\b≠l.Ov/\b≠l.Cr/\b≠l.Ce/\¬SB b
theorem aiY{l:LM}{B0 z0 T0:Nat}{SB:lF}(h:GH l B0 SB D):(Ss l B0 z0 T0 SB).Ok where
 rB b h:=h.1
 rW b h:=⟨h.2.1,h.2.2.1,h.2.2.2.1⟩
 rM k a h hr:=by
  obtain⟨_,⟨i,_,rfl⟩|rfl⟩:=h
  .exact hr.2.2.2.2.1 Z
  exact hr.2.2.2.2.2.1 Z
 mB k a hm:=by
  obtain⟨_,⟨i,_,rfl⟩|rfl⟩:=hm
  .exact⟨h.cr,h.rw.1,h.rw.2.1,h.rw.2.2.1⟩
  exact⟨h.ce,h.ew.1,h.ew.2.1,h.ew.2.2⟩
 mU k k' a h1 h2:=by
  obtain⟨_,⟨i,hi,rfl⟩|rfl⟩:=h1
  .obtain⟨_,⟨i',mr,e⟩|e⟩:=h2
   .injection e with e1 e2;omega
   injection e with e1 e2;exact ll e1 h.rw.2.2.2
  obtain⟨_,⟨i',mr,e⟩|e⟩:=h2
  .injection e with e1 e2;exact ll e1.symm h.rw.2.2.2
  injection e with e1 e2
 wB:=h.wg
 cB:=h.ch
 oB:=h.ov
 wc:=h.wc
 wo:=h.wo
 co:=h.co
 agw l' hs:=by
  obtain⟨a,e,hs⟩:=hs;have⟨h1,h2,h3,h4,h5,h6⟩:=h.sb _ hs;refine⟨a,e,h1,h2,fun hr=>hr.2.2.2.2.2.2 hs,fun k hk=>?_⟩;obtain⟨_,⟨i,_,rfl⟩|rfl⟩:=hk
  .exact h5 Z
  exact h6 Z
def Kc(l:LM)(x:Nat->mA)(B0 z0 N T0:Nat)(SB:lF):mg where
 P:=prog
 ty:=link.tWg
 A:=Ss l B0 z0 T0 SB
 m:=l.m
 N:=N
 tv w:=(∃cs e,w.heap[l.Cr]?=some (.cells cs e (0,0))/\cs.size=5*l.m)/\(∃cs e,w.heap[l.Ce]?=some (.cells cs e (0,0))/\cs.size=l.m)/\oF l w/\∃A cc,w.cell? ⟨l.Bp,0,none⟩=some (.slice A l.m cc)
 DG:=aim l x
 Head _ _:=True
 AS _ _:=True
 GS _:=True
 z:=.int .i64 0
 zo:=KM
def bM:Frame:=base 5
abbrev FM(T:lW):Frame:=bM.at ⟨T,[]⟩ (.inRegion vI [0]::[.code yb])
def GM(T:lW)(cs:nX):Goroutine:=G (bM.at ((⟨T,[]⟩:Act).put ((vI[0]?).bind (·.dst)) (.tuple #[])) (.inRegion vI []::[.code yb])) cs
def zm(l:LM)(x:Nat->mA)(B0 z0 N T0:Nat)(SB:lF)(cs:nX):mg:=
 {Kc l x B0 z0 N T0 SB with
  Head:=fun g w=>(Kc l x B0 z0 N T0 SB).WO (GL (Kc l x B0 z0 N T0 SB) l) g w
  AS:=fun g w=>∃T,TM l T/\Ld (Kc l x B0 z0 N T0 SB) link (FM T) cs g w
  GS:=fun g=>∃T,TM l T/\Sk prog (GM T cs) g}
section
variable{l:LM}{x:Nat->mA}{B0 z0 N T0:Nat}{SB D:lF}{cs:nX}
structure IG(l:LM)(x:Nat->mA)(B0:Nat)(D:lF):Prop where
 p:∀k,l.AI k=(x k).AJ
 kn:l.Kn=IC B0 l.m x l.tape D
theorem Na(h:GH l B0 SB D)(hd:IG l x B0 D):oP (Kc l x B0 z0 N T0 SB) l where
 wg:=rfl
 ch:=rfl
 ov:=rfl
 rj:=h.rd _ aq
 ro:=h.rd _ aq
 rp:=h.rd _ aq
 rt:=h.rd _ aq
 rr:=h.rd _ aq
 re:=h.rd _ aq
 ra hm:=h.rd _ (by simp[hm])
 rb hm:=h.rd _ (by simp[hm])
 p8 k:=by rw[hd.p];rfl
 kn w w1 hs hb hk:=by rw[hd.kn]at hk|-;exact hk.keep hs fun b sV=>hb b (h.rd b<|by simp[sV])
theorem aqR(h:GH l B0 SB D)(hd:IG l x B0 D):oP (zm l x B0 z0 N T0 SB cs) l:=by have⟨a1,a2,a3,a4,a5,a6,a7,a8,a9,Sm,Sn,a12,a13⟩:=Na (x:=x) (z0:=z0) (N:=N) (T0:=T0) h hd;exact⟨a1,a2,a3,a4,a5,a6,a7,a8,a9,Sm,Sn,a12,a13⟩
theorem hkM(h:GH l B0 SB D)(hd:IG l x B0 D):K2 (zm l x B0 z0 N T0 SB cs) l x where
 QD j hj i hi:=⟨hj,.inl ⟨i,hi,rfl⟩⟩
 Xs j hj:=⟨hj,.inr rfl⟩
 ne:=h.rw.2.2.2
 aao w hc:=by obtain⟨⟨c0,e,h1,h2⟩,_⟩:=hc;exact⟨c0,e,h1,aa⟩
 aan w hc:=by obtain⟨_,⟨c0,e,h1,h2⟩,_⟩:=hc;exact⟨c0,e,h1,aa⟩
 aaP w j vs hj hl h1 hc:=by obtain⟨⟨c0,e,hC,hs⟩,⟨c1,e1,hE,nZ⟩,hK,A,cc,hB⟩:=hc;have⟨q1,q2,_⟩:=Qm l.Cr vs (5*j) w;have⟨cs',k1,k2,_⟩:=Ql l.Cr vs (5*j) w hC aa h1;exact⟨⟨cs',e,k1,aa⟩,⟨c1,e1,(q2 _<|lg h.rw.2.2.2).trans hE,nZ⟩,hK.keep (Na (x:=x) (z0:=z0) (N:=N) (T0:=T0) h hd) (j3 q1.symm) fun b hb=>q2 b hb.2.2.2.2.1,A,cc,(yx (a:=⟨l.Bp,0,none⟩)<|q2 l.Bp (h.rd l.Bp aq).2.2.2.2.1).trans hB⟩
 aaO w j v hj h1 hc:=by obtain⟨⟨c0,e,hC,hs⟩,⟨c1,e1,hE,nZ⟩,hK,A,cc,hB⟩:=hc;have⟨q1,q2,_⟩:=Qm l.Ce [v] j w;have⟨cs',k1,k2,_⟩:=Ql l.Ce [v] j w hE (by simp only[ix,iZ];omega) (by simp[h1]);exact⟨⟨c0,e,(q2 _ h.rw.2.2.2).trans hC,hs⟩,⟨cs',e1,k1,aa⟩,hK.keep (Na (x:=x) (z0:=z0) (N:=N) (T0:=T0) h hd) (j3 q1.symm) fun b hb=>q2 b hb.2.2.2.2.2.1,A,cc,(yx (a:=⟨l.Bp,0,none⟩)<|q2 l.Bp (h.rd l.Bp aq).2.2.2.2.2.1).trans hB⟩
 res j M w rv ev o hj h1 h2 h3 h4:=fun _=>⟨rv,ev,o,h1,h2,h3,h4⟩
 head g w hg:=hg
theorem aqF(h:GH l B0 SB D)(hd:IG l x B0 D):∀w,l.Kn w->K5 (zm l x B0 z0 N T0 SB cs) l x D w:=fun w hk=>by rw[hd.kn]at hk;obtain⟨h1,h2,h3,h4,h5,h6⟩:=hk;exact⟨fun b hb=>h.rd b (by simp[hb]),h1,h2,h3,h4,fun k hk=>⟨hd.p k,h5 k hk⟩,h6⟩
theorem aaA(h:GH l B0 SB D)(hd:IG l x B0 D)(hN:N<2147483648)(hz:z0<N):(zm l x B0 z0 N T0 SB cs).Ok:=by
 have amK:=aiY (z0:=z0) (T0:=T0) h;have kP:=Na (x:=x) (z0:=z0) (N:=N) (T0:=T0) h hd;have k:oP (zm l x B0 z0 N T0 SB cs) l:=aqR h hd
 have K0:(zm l x B0 z0 N T0 SB cs).Ok0:=⟨amK,fun w w' mR hh hc=>by
  obtain⟨⟨c0,e,hC,hs⟩,⟨c1,e1,hE,nZ⟩,hK,A,cc,hB⟩:=hc
  exact⟨⟨c0,e,(hh l.Cr h.cr h.rw.1 h.rw.2.1 h.rw.2.2.1).trans hC,hs⟩,⟨c1,e1,(hh l.Ce h.ce h.ew.1 h.ew.2.1 h.ew.2.2).trans hE,nZ⟩,hK.keep kP mR fun b hb=>hh b hb.1 hb.2.1 hb.2.2.1 hb.2.2.2.1,A,cc,(yx (a:=⟨l.Bp,0,none⟩) (hh l.Bp (h.rd l.Bp aq).1 (h.rd l.Bp aq).2.1 (h.rd l.Bp aq).2.2.1 (h.rd l.Bp aq).2.2.2.1)).trans hB⟩⟩
 refine {toOk0:=K0,res:=?_,head:=?_,anch:=?_,Z4:=?_,N:=hN,z0:=hz}
 .intro k D w w' h1 h2 hr hk;have⟨rv,ev,o,g1,g2,g3,g4⟩:=hr hk;have h5:∀i,i<5->w'.cell? ⟨l.Cr,5*k+i,none⟩=w.cell? ⟨l.Cr,5*k+i,none⟩:=fun i hi=>h2 _ ⟨hk,.inl ⟨i,hi,rfl⟩⟩;refine⟨rv,ev,o,g1,g2.keep (fun _ h=>h) h1,fun i u hu=>(h5 i ?_).trans<|g3 i u hu,(h2 _ ⟨hk,.inr Z⟩).trans g4⟩;have:=(eg.1 hu).1;rw[g2.size.1]at this;exact this
 .intro g w hS hg;have hg:Own prog false (Ss l B0 z0 T0 SB).R (zm l x B0 z0 N T0 SB cs).Sh (fun _=>False) (GL (zm l x B0 z0 N T0 SB cs) l) none_ g w:=hg;refine hg.bind fun M g w hh=>?_;obtain⟨rfl,hh,hS⟩:=hh;exact ahM Z<|awV K0 Z Z Z Z k (fun j g w hj hK UL hk=>aoD K0 k (aqF h hd) (hkM h hd) Z j g w hj hK UL hk) g w hh hS
 .rintro g w ⟨T,hT,hw⟩;exact mg.yd<|mg.axu (L:=link) K0 Iv Z (fun g w hh=>⟨T,hT,hh⟩) (fun g hh=>⟨T,hT,hh⟩) g w hw
 rintro g w ⟨T,hT,T',rfl,_⟩
 rfl
end
theorem tf:bM.kind≠.early:=by simp[bM,base]
theorem Ox{N:Nat}(h:Fit N ρ a):a=⟨a.tmps,[]⟩:=by
 have h:=h.defers;cases a
 simp_all
section
variable{c:mg}{MK:oQ}{cs:nX}{Stop:qz}{ρ:lB}
def MW(c:mg)(MK:oQ)(cs:nX)(Stop:qz)(items:nA)(ρ:lB):Prop:=∀a w,Fit 70 ρ a->MK w->c.MO Stop (G (bM.at a items) cs) w
theorem nL(LZ:∀w w1,MK w->c.Rel none_ w w1->MK w1){items adL:nA}(h:∀a w,stepG c.P true (G (bM.at a items) cs) w=.go (G (bM.at a adL) cs) w)(hn:MW c MK cs Stop adL ρ):MW c MK cs Stop items ρ:=fun a w hf hK=>Own.move rfl (fun w1=>h a w1) fun w1 hr=>hn a w1 hf<|LZ w w1 hK hr
theorem Oh(LZ:∀w w1,MK w->c.Rel none_ w w1->MK w1){x:mN}{y z:Code}{k:nA}(t:Bool)(hc:ev ρ x=.bool t)(hn:MW c MK cs Stop (.code (if t then y else z)::k) ρ):MW c MK cs Stop (.code (.cond x y z)::k) ρ:=fun a w hf hK=>Own.move rfl (fun w1=>stepG_cond<|by rw[hf.eval];exact hc) fun w1 hr=>hn a w1 hf<|LZ w w1 hK hr
theorem vr(LZ:∀w w1,MK w->c.Rel none_ w w1->MK w1){rest:nN}{k:nA}(hi:i<aBi.size)(hg:(aBi.getD i default).guard=none)(hd:(aBi.getD i default).dst=some d)(hN:d<70)
  (hr:∀w,MK w->(execOp (ev ρ)<|aBi.getD i default).run c.P w=.ok (.value v) w/\∀e∈(execOp (ev ρ)<|aBi.getD i default).events c.P w #[],oc none_ c.A.R e) (hn:MW c MK cs Stop (.inRegion aBi rest::k) (upd ρ d v)):MW c MK cs Stop (.inRegion aBi (i::rest)::k) ρ:=fun a w hf hK=>by
 have ho:aBi[i]?=some (aBi.getD i default):=aL;refine AH (v:=v) ho (by unfold Region.wanted;rw[hg]) tf (fun w1 r=>?_) ?_
 .rw[hf.eval];exact hr w1<|LZ w w1 hK r
 rw[hd];exact hn _ w (hf.put hN v) hK
end
section
variable{P:lY}{ρ:lB}{o:Oper}{w:lE}{R:lF}
abbrev Fp(P:Program)(R:Nat->Prop)(ρ:lB)(o:Oper)(w:World)(v:Value):Prop:=(execOp (ev ρ) o).run P w=.ok (.value v) w/\∀e∈(execOp (ev ρ) o).events P w #[],oc none_ R e
theorem B8{x:mN}(ho:o.op=.move x)(hx:ev ρ x=v):Fp P R ρ o w v:=by
 constructor
 .simp[execOp,ho,hx]
 intro e he;simp[execOp,ho]at he
theorem XI{x:mN}(ho:o.op=.assign x)(hx:ev ρ x=v):Fp P R ρ o w v:=by
 constructor
 .simp[execOp,ho,hx]
 intro e he;simp[execOp,ho]at he
theorem QO{x:mN}{t':lT}{a b:Int}(ho:o.op=.binOp .lss t x y t')(hx:ev ρ x=Y a)(hy:ev ρ y=Y b):Fp P R ρ o w (.bool (decide (a<b))):=by
 constructor
 .simp[execOp,ho,hx,hy,binOp,eqGuard,Op.intCmp]
 intro e he;simp[execOp,ho,hx,hy,binOp,eqGuard,Op.intCmp]at he
theorem aey{x:mN}{t':lT}{a b:Int}(ho:o.op=.binOp .add t x y t')(hx:ev ρ x=Y a)(hy:ev ρ y=Y b)(h0:0<=a+b)(h1:a+b<9223372036854775807):Fp P R ρ o w (Y (a+b)):=by
 have hw:IntKind.i64.wrap (a+b)=a+b:=by rw[il];omega
 constructor
 .simp[execOp,ho,hx,hy,binOp,eqGuard,Op.intArith,hw]
 intro e he;simp[execOp,ho,hx,hy,binOp,eqGuard,Op.intArith]at he
theorem QN{x:mN}{a:Addr}(ho:o.op=.load t x)(ht:yW P t)(hx:ev ρ x=.pointer (some a))(hc:w.cell? a=some v)(hR:R a.block):Fp P R ρ o w v:=by
 constructor
 .exact EK ho ht hx hc
 intro e he;have h1:=run_isAgg_plain (P:=P) (w:=w) ht;have h2:∀es,(isAgg t).events P w es=es:=fun es=>by
  unfold isAgg underlying;simp;split
  .rename_i d _;cases d<;>simp
  simp
 simp[execOp,ho,hx,Instr.loadAt,Instr.sureAddr,loadVar,h1,h2,jm,events_load,hc]at he;subst he;exact .inr ⟨hR,Z⟩
theorem aeA{x:mN}{ts:Array TypeId}{A:lO}{c:Nat}(ho:o.op=.call {callee:=.builtin .len,args:= #[x],argTypes:= #[t]})(ht:P.underlying t=some (.slice e))(hx:ev ρ x=.slice A n c):Fp P R ρ o w (.int .i64 (n:Int)):=by
 constructor
 .exact X3 ho ht hx
 intro e he;simp[go_sem,execOp,ho,hx,resolve,invoke,builtin,Builtin.len_,Builtin.lenOf,ht,jD ht]at he
theorem ast{xs:Array Operand}{vs:lW}(ho:o.op=.makeFunc (.func f) #[] xs)(hv:xs.map (ev ρ)=vs):Fp P R ρ o w (.func (.func f) #[] vs):=by
 constructor
 .simp[execOp,ho,hv,Instr.makeFunc]
 intro e he;simp[execOp,ho,Instr.makeFunc]at he
theorem TG{xs:List Operand}{ts:Array TypeId}(ho:o.op=.call {callee:=.value (.func f),args:=xs.toArray,argTypes:=ts})(hf:P.funcs[f]?=some fn)(hn:(fn.name== "runtime.NumGoroutine")=false)(hb:fn.body.isNone=false):(execOp (ev ρ) o).events P w #[]= #[]:=by simp[execOp,ho,resolve,ev,Deferred.ofValue,invoke,callFunc,hf,hn,hb, -Option.isNone_eq_false_iff, -Option.isNone_iff_eq_none, -beq_iff_eq]
theorem asu{x:Nat}{vs:lW}(ho:o.op=.go {callee:=.value (.tmp x),args:= #[],argTypes:= #[]})(hx:ρ x=.func (.func f) #[] vs):
  (execOp (ev ρ) o).run P w=.ok (.spawn {target:=.fn (.func f) vs,args:= #[]}) w/\(execOp (ev ρ) o).events P w #[]= #[]:=by
 have ru:ev ρ (.tmp x)=.func (.func f) #[] vs:=hx;constructor
 .simp[execOp,ho,resolve,Deferred.ofValue,ru]
 simp[execOp,ho,resolve,Deferred.ofValue,ru]
theorem asw{x y:Nat}{r:Nat}(ho:o.op=.send (.tmp x) (.tmp y))(hx:ρ x=.chan (some r))(hy:ρ y=v):
  (execOp (ev ρ) o).run P w=.ok (.comm #[scase r v (.tuple #[])] true .send) w/\(execOp (ev ρ) o).events P w #[]= #[]:=by
 have ru:ev ρ (.tmp x)=.chan (some r):=hx;have W9:ev ρ (.tmp y)=v:=hy;constructor
 .simp[execOp,ho,ru,W9,scase]
 simp[execOp,ho]
end
def B3:Code:=match uc with|.seq (.seq _ (.block _ (.loop c))) _=>c|_=>.skip
def B4:Code:=match yR with|.seq (.seq _ (.block _ (.loop c))) _=>c|_=>.skip
def JZ:Array Oper:=match uc with|.seq (.seq (.region _ o _) _) _=>o|_=> #[]
def J0:Array Oper:=match B3 with|.seq (.region _ o _) _=>o|_=> #[]
def xA:Array Oper:=match B3 with|.seq _ (.seq _ (.seq (.block _ (.seq (.region _ o _) _)) _))=>o|_=> #[]
def yc:Array Oper:=match B3 with|.seq _ (.seq _ (.seq (.block _ (.seq _ (.region _ o _))) _))=>o|_=> #[]
def JU:Array Oper:=match B3 with|.seq _ (.seq _ (.seq _ (.region _ o _)))=>o|_=> #[]
def JV:Array Oper:=match yR with|.seq (.seq (.region _ o _) _) _=>o|_=> #[]
def JW:Array Oper:=match B4 with|.seq (.region _ o _) _=>o|_=> #[]
def JX:Array Oper:=match B4 with|.seq _ (.seq _ (.seq (.block _ (.seq (.region _ o _) _)) _))=>o|_=> #[]
def yU:Array Oper:=match B4 with|.seq _ (.seq _ (.seq (.block _ (.seq _ (.region _ o _))) _))=>o|_=> #[]
def JY:Array Oper:=match B4 with|.seq _ (.seq _ (.seq _ (.region _ o _)))=>o|_=> #[]
def vH:Array Oper:=match yS with|.seq (.region _ o _) _=>o|_=> #[]
abbrev Of:Code:=.seq (.region 7 J0 false) (.seq (.cond (.tmp 45) .skip (.exit 0)) (.seq (.block 1 (.seq (.region 8 xA false) (.region 9 yc false))) (.region 10 JU false)))
abbrev Og:Code:=.seq (.region 12 JW false) (.seq (.cond (.tmp 52) .skip (.exit 2)) (.seq (.block 3 (.seq (.region 13 JX false) (.region 14 yU false))) (.region 15 JY false)))
theorem arb:uc=.seq (.seq (.region 6 JZ false) (.block 0 (.loop B3))) yR:=aE
theorem aq1:B3=Of:=by unfold Of;simp only[JZ,J0,xA,yc,JU,JV,JW,JX,yU,JY,vH,vI,B3,B4,yb,Eu,yS,yR,uc,xy,wM,tV,Tryz.f5,iK]
theorem aq5:yR=.seq (.seq (.region 11 JV false) (.block 2 (.loop B4))) yS:=aE
theorem aq2:B4=Og:=by unfold Og;simp only[JZ,J0,xA,yc,JU,JV,JW,JX,yU,JY,vH,vI,B3,B4,yb,Eu,yS,yR,uc,xy,wM,tV,Tryz.f5,iK]
theorem aq6:yS=.seq (.region 16 vH false) (.seq (.region 17 vI false) yb):=aE
theorem mT{c:mg}:∀w w1,c.Sh w->c.Rel none_ w w1->c.Sh w1:=fun w w1 h r=>r.sh h
namespace mg
def Ol(c:mg):Nat->(Nat->Prop)->Goroutine->World->Prop
 |0=>c.AtClose|q+1=>c.AtSend (c.m-(q+1))<|c.Sends q
def K6(c:mg):Nat->(Nat->Prop)->Goroutine->World->Prop
 |0=>c.Ol c.m|q+1=>c.AtKdS<|c.Spawns q
theorem ags{c:mg}(q:Nat)(g:lZ)(w:lE):c.Sends q g w=c.MO (c.Ol q) g w:=by cases q<;>rfl
theorem agC{c:mg}(q:Nat)(g:lZ)(w:lE):c.Spawns q g w=c.MO (c.K6 q) g w:=by
 cases q with
 |zero=>exact ags c.m g w|succ q=>rfl
end mg
theorem aw7(p q:lH)(k:Nat):(#[p,q]++Array.replicate k undef:lW)=(p::q::List.replicate k undef).toArray:=by apply kH;simp
theorem aw6(p:lH)(k:Nat):(#[p]++Array.replicate k undef:lW)=(p::List.replicate k undef).toArray:=by apply kH;simp
section
variable{c:mg}{l:LM}{cs:nX}{wk:Nat}
abbrev Fs(l:LM)(wk:Nat):List (Nat×Value):=[(2,.int .i64 (wk:Int)),(3,.pointer (some ⟨l.Bp,0,none⟩)),(4,.pointer (some ⟨l.Bt,0,none⟩)),(8,.pointer (some ⟨l.Br,0,none⟩)),(9,.pointer (some ⟨l.Be,0,none⟩)),(10,.pointer (some ⟨l.Bj,0,none⟩)),(11,.pointer (some ⟨l.Bo,0,none⟩)),(12,.pointer (some ⟨l.Wg,0,none⟩))]
theorem aiR(hP:c.P=prog){wg:Nat}(Hg:ev ρ (.tmp 12)=lJ wg 0):(execOp (ev ρ) (xA.getD 0 default)).run c.P w=.ok (.enter 11 #[lJ wg 0,Y 1]) w/\∀e∈(execOp (ev ρ) (xA.getD 0 default)).events c.P w #[],oc none_ c.A.R e:=by
 have ho:(xA.getD 0 default).op=.call {callee:=.value<|.func 11,args:=[.tmp 12,.const<|Y 1].toArray,argTypes:=(match (xA.getD 0 default).op with|.call c=>c.argTypes|_=> #[])}:=af;have hf:c.P.funcs[(11:Nat)]?=some Tryz.f11:=by rw[hP];exact func11
 refine⟨Q1 ho hf ai ai (by show[ev ρ (.tmp 12),Y 1]=_;rw[Hg]),fun e he=>?_⟩;rw[TG ho hf ai ai]at he;simp at he
theorem ave(K:c.Ok0)(hP:c.P=prog)(oE:c.ty=link.tWg)(hWg:c.A.Wg=l.Wg){Next:vo}{k₀:nA}(Hg:ev ρ (.tmp 12)=lJ l.Wg 0)
  (hn:MW c c.Sh cs (c.AtGoS Next) (.inRegion xA []::k₀) (upd ρ 46<|.tuple #[])):MW c c.Sh cs (c.AtKdS Next) (.inRegion xA [0]::k₀) ρ:=by
 intro a w hf hS;have hd:(xA[0]?).bind (·.dst)=some 46:=af
 have ab5:=mg.add_one (c:=c) (L:=link) (Next:=Next) K (by rw[hP];exact Iv) oE (b₀:=bM) (a₀:=a) (ops₀:=xA) (i₀:=0) (rest₀:=[]) (k₀:=k₀) (cs:=cs) (fun w hS=>by
  rw[hd]
  exact hn _ w (hf.put aa _) hS)
 rw[hWg]at ab5;refine QR (aBi:=xA) (i:=0) (o:=xA.getD 0 default) (f:=link.add) (fn:=addFn link) (c:=body_add link) af af tf (by rw[hP];exact Iv.f_add) Z (args:= #[lJ l.Wg 0,Y 1]) (fun w1 r=>?_) fun w1 r=>?_
 .rw[hf.eval];exact aiR hP Hg
 rw[aw7];exact mg.yd<|ab5 w1<|r.sh hS
structure Cw(c:mg)(l:LM)(cs:nX):Prop where
 K:c.Ok0
 P:c.P=prog
 ty:c.ty=link.tWg
 wg:c.A.Wg=l.Wg
 ch:c.A.Ch=l.Ch
 ov:c.A.Ov=l.Ov
 m:l.m=c.m
 m63:c.m<9223372036854775807
 rp:c.A.R l.Bp
 rj:c.A.R l.Bj
 ro:c.A.R l.Bo
 kn:∀w,c.tv w->oF l w
 bp:∀w,c.tv w->∃A cc,w.cell? ⟨l.Bp,0,none⟩=some (.slice A l.m cc)
 born:∀w,c.Sh w->c.WO c.Cl (born prog l.call) w
 anch:∀T g w,TM l T->Ld c link (FM T) cs g w->c.AS g w
theorem aib(H:Cw c l cs){r:Nat}{k₀:nA}
  (h67:ρ 47=.func (.func 12) #[] l.Ab.toArray)
  (hn:MW c c.Sh cs (c.K6 r) (.inRegion yc []::k₀) ρ):MW c c.Sh cs (c.AtGoS<|c.Spawns r) (.inRegion yc [1]::k₀) ρ:=by
 intro a w hf hS;have hd:(yc.getD 1 default).dst=none:=af;have ho:(yc.getD 1 default).op=.go {callee:=.value<|.tmp 47,args:= #[],argTypes:= #[]}:=af;have nK:∀w1,(execOp a.eval<|yc.getD 1 default).run c.P w1=.ok (.spawn l.call) w1/\(execOp a.eval<|yc.getD 1 default).events c.P w1 #[]= #[]:=by intro w1;rw[hf.eval];exact asu ho h67
 refine .stop fun w1 hr=>⟨Z,G (bM.at a (.inRegion yc []::k₀)) cs,born c.P l.call,?_,Z,?_,?_⟩
 .have:=stepG_spawn (P:=c.P) (w:=w1) (main:=true) (b:=bM) (a:=a) (ops:=yc) (i:=1) (rest:=[]) (k:=k₀) (cs:=cs) (o:=yc.getD 1 default) (d:=l.call) (f:=.func 12) (c:=l.Ab.toArray) af af tf (nK w1).1 rfl;rw[listed_none (nK w1).2,hd]at this;exact this
 .rw[H.P];exact H.born w1<|hr.sh hS
 rw[mg.agC];exact hn a w1 hf<|hr.sh hS
theorem avg(H:Cw c l cs)(BU:wk<=64)(An:∀ρ,lA ρ (Fs l wk)->MW c c.Sh cs (c.K6 0) [.code yR] ρ):
  ∀(r n:Nat) (ρ:lB),n+r=wk->lA ρ ((43,lI wk)::(44,lI n)::Fs l wk)->MW c c.Sh cs (c.K6 r) [.code Of,.inLoop Of,.inBlock 0,.code yR] ρ:=by
 intro r
 induction r with
 |zero=>intro n ρ hn hH;obtain⟨σ,rfl⟩:=hH.open;obtain rfl:n=wk:=aa;refine nL mT (fun a w=>kW)<|nL mT (fun a w=>ko)<|vr mT (by(refine ib ?_;kernel_rfl)) ai af aa (fun w hS=>(QO af Z Z)) ?_;rw[show decide ((n:Int)<(n:Int))=false by simp];exact nL mT (fun a w=>iM)<|nL mT (fun a w=>kW)<|Oh mT false Z<|nL mT (fun a w=>stepG_exit Z)<|An _ yE
 |succ r ih=>
  intro n ρ hn hH;obtain⟨σ,rfl⟩:=hH.open;have lX:(n:Int)<(wk:Int):=aa;refine nL mT (fun a w=>kW)<|nL mT (fun a w=>ko)<|vr mT (by(refine ib ?_;kernel_rfl)) ai af aa (fun w hS=>(QO af Z Z)) ?_;rw[show decide ((n:Int)<(wk:Int))=true by simpa using lX];refine nL mT (fun a w=>iM)<|nL mT (fun a w=>kW)<|Oh mT true Z<|nL mT (fun a w=>kT)<|nL mT (fun a w=>kW)<|nL mT (fun a w=>kE)<|nL mT (fun a w=>kW)<|nL mT (fun a w=>ko)<|ave H.K H.P H.ty H.wg Z<|nL mT (fun a w=>iM)<|nL mT (fun a w=>ko)<|vr mT (by(refine ib ?_;kernel_rfl)) ai af aa (fun w hS=>(ast (vs:=l.Ab.toArray) af<|by simp only[List.map_toArray,jL,jX];rfl)) ?_
  exact aib H Z (by
   refine nL mT (fun a w=>iM)<|nL mT (fun a w=>jS)<|nL mT (fun a w=>ko)<|vr mT (by(refine ib ?_;kernel_rfl)) ai af aa (fun w hS=>(aey af Z Z aa aa)) ?_;refine vr mT (by(refine ib ?_;kernel_rfl)) ai af aa (fun w hS=>(B8 af Z)) ?_;refine nL mT (fun a w=>iM)<|nL mT (fun a w=>kj) ?_
   exact ih (n+1) _ aa Ha)
theorem aic(H:Cw c l cs){r:Nat}(Mz:n+(r+1)=c.m){k₀:nA}(h74:ρ 54=.chan (some l.Ch))(h75:ρ 55=lI n)
  (hn:MW c c.Sh cs (c.Ol r) (.inRegion yU []::k₀) ρ):MW c c.Sh cs (c.AtSend (c.m-(r+1))<|c.Sends r) (.inRegion yU [2]::k₀) ρ:=by
 intro a w hf hS;have hd:(yU[2]?).bind (·.dst)=none:=af;have ho:(yU.getD 2 default).op=.send (.tmp 54) (.tmp 55):=af;have nK:∀w1,(execOp a.eval<|yU.getD 2 default).run c.P w1=.ok (.comm #[scase l.Ch (lI n) (.tuple #[])] true .send) w1/\(execOp a.eval<|yU.getD 2 default).events c.P w1 #[]= #[]:=by intro w1;rw[hf.eval];exact asw ho h74 h75
 have en:c.m-(r+1)=n:=aa;refine .stop fun w1 hr=>⟨Z,Z,.tuple #[],?_,?_⟩
 .have:=stepG_comm (P:=c.P) (w:=w1) (main:=true) (b:=bM) (a:=a) (ops:=yU) (i:=2) (rest:=[]) (k:=k₀) (cs:=cs) (o:=yU.getD 2 default) af af tf (nK w1).1;rw[listed_none (nK w1).2]at this;rw[H.ch,en];exact this
 rw[served_G,hd,mg.ags];exact hn a w1 hf<|hr.sh hS
theorem auX(H:Cw c l cs)(An:∀ρ,lA ρ (Fs l wk)->MW c c.Sh cs c.AtClose [.code yS] ρ):
  ∀(r n:Nat) (ρ:lB),n+r=c.m->lA ρ ((50,lI c.m)::(51,lI n)::Fs l wk)->MW c c.Sh cs (c.Ol r) [.code Og,.inLoop Og,.inBlock 2,.code yS] ρ:=by
 intro r
 induction r with
 |zero=>intro n ρ hn hH;obtain⟨σ,rfl⟩:=hH.open;obtain rfl:n=c.m:=aa;refine nL mT (fun a w=>kW)<|nL mT (fun a w=>ko)<|vr mT (by(refine ib ?_;kernel_rfl)) ai af aa (fun w hS=>(QO af Z Z)) ?_;rw[show decide ((c.m:Int)<(c.m:Int))=false by simp];exact nL mT (fun a w=>iM)<|nL mT (fun a w=>kW)<|Oh mT false Z<|nL mT (fun a w=>stepG_exit Z)<|An _ yE
 |succ r ih=>intro n ρ hn hH;obtain⟨σ,rfl⟩:=hH.open;have lX:(n:Int)<(c.m:Int):=aa;have sS:=H.m63;refine nL mT (fun a w=>kW)<|nL mT (fun a w=>ko)<|vr mT (by(refine ib ?_;kernel_rfl)) ai af aa (fun w hS=>(QO af Z Z)) ?_;rw[show decide ((n:Int)<(c.m:Int))=true by simpa using lX];refine nL mT (fun a w=>iM)<|nL mT (fun a w=>kW)<|Oh mT true Z<|nL mT (fun a w=>kT)<|nL mT (fun a w=>kW)<|nL mT (fun a w=>kE)<|nL mT (fun a w=>kW)<|nL mT (fun a w=>ko)<|vr mT (by(refine ib ?_;kernel_rfl)) ai af aa (fun w hS=>(B8 af Z)) ?_;refine vr mT (by(refine ib ?_;kernel_rfl)) ai af aa (fun w hS=>(XI af Z)) ?_;refine nL mT (fun a w=>iM)<|nL mT (fun a w=>ko)<|vr mT (by(refine ib ?_;kernel_rfl)) af af aa (fun w hS=>QN (a:=⟨l.Bj,0,none⟩) af (by rw[H.P];kernel_rfl) Z (H.kn w hS.2.2.2).Xj H.rj) ?_;refine vr mT (by(refine ib ?_;kernel_rfl)) ai af aa (fun w hS=>(B8 af Z)) ?_;refine aic H hn Z Z<|nL mT (fun a w=>iM)<|nL mT (fun a w=>jS)<|nL mT (fun a w=>ko)<|vr mT (by(refine ib ?_;kernel_rfl)) ai af aa (fun w hS=>(aey af Z Z aa aa)) ?_;refine vr mT (by(refine ib ?_;kernel_rfl)) ai af aa (fun w hS=>(B8 af Z)) ?_;exact nL mT (fun a w=>iM)<|nL mT (fun a w=>kj)<|ih (n+1) _ aa Ha
end
section
variable{c:mg}{l:LM}{cs:nX}{wk:Nat}
theorem axt(hP:c.P=prog){wg:Nat}(Hg:ev ρ (.tmp 12)=lJ wg 0):(execOp (ev ρ) (vI.getD 0 default)).run c.P w=.ok (.enter 14 #[lJ wg 0]) w/\∀e∈(execOp (ev ρ) (vI.getD 0 default)).events c.P w #[],oc none_ c.A.R e:=by
 have ho:(vI.getD 0 default).op=.call {callee:=.value<|.func 14,args:=[.tmp 12].toArray,argTypes:=(match (vI.getD 0 default).op with|.call c=>c.argTypes|_=> #[])}:=af;have hf:c.P.funcs[(14:Nat)]?=some Tryz.f14:=by rw[hP];exact func14
 refine⟨Q1 ho hf ai ai (by show[ev ρ (.tmp 12)]=_;rw[Hg]),fun e he=>?_⟩;rw[TG ho hf ai ai]at he;simp at he
theorem aie(H:Cw c l cs)(hH:lA ρ (Fs l wk)):MW c c.Sh cs c.AtKd [.inRegion vI [0],.code yb] ρ:=by
 intro a w hf hS;obtain⟨σ,rfl⟩:=hH.open;have hT:TM l a.tmps:=by
  have hg:∀i,i<70->a.tmps[i]?=some (NV σ (Fs l wk) i):=fun i hi=>by
   have h1:=hf.get i;have h2:i<a.tmps.size:=by rw[hf.size];exact hi
   rw[ed,eB h2]at h1;rw[eB h2];exact kY some h1
  exact⟨hf.size,hg 8 aa,hg 9 aa⟩
 have ha:=Ox hf;have mo:=mg.axv (c:=c) (L:=link) (by rw[H.P];exact Iv) (b₀:=bM) (a₀:=a) (ops₀:=vI) (i₀:=0) (rest₀:=[]) (k₀:=[.code yb]) (cs:=cs) (fun g w hh=>H.anch a.tmps g w hT<|by rw[ha]at hh;exact hh);rw[H.wg]at mo;refine QR (aBi:=vI) (i:=0) (o:=vI.getD 0 default) (f:=link.wait) (fn:=waitFn link) (c:=body_wait link) af af tf (by rw[H.P];exact Iv.f_wait) Z (args:= #[lJ l.Wg 0]) (fun w1 r=>?_) fun w1 r=>?_
 .rw[hf.eval];exact axt H.P Z
 rw[aw6];exact mg.yd<|mo w1<|r.sh hS
theorem aia(H:Cw c l cs){k₀:nA}(h77:ρ 57=.chan (some l.Ov))(hn:MW c c.Sh cs c.AtKd (.inRegion vH []::k₀) ρ):MW c c.Sh cs c.AtClose (.inRegion vH [1]::k₀) ρ:=by
 intro a w hf hS;have hd:(vH.getD 1 default).dst=none:=af;have Aw:vH[1]?=some (vH.getD 1 default):=af;obtain⟨Sv,Ej⟩:∃Sv,(vH.getD 1 default).op=.call {callee:=.builtin .close,args:= #[.tmp 57],argTypes:=Sv}:=⟨(match (vH.getD 1 default).op with|.call c=>c.argTypes|_=> #[]),af⟩
 have Mt:∀oo:Oper,vH[1]?=some oo->oo.op=.call {callee:=.builtin .close,args:= #[.tmp 57],argTypes:=Sv}->mayWake c.P (G (bM.at a (.inRegion vH [1]::k₀)) cs):=by intro oo h1 h2;simp[mayWake,G,Frame.at,h1,h2]
 refine .stop fun w1 hr=>⟨Z,Mt _ Aw Ej,fun s r tm pM=>⟨G (bM.at a (.inRegion vH []::k₀)) cs,Z,?_,hn a _ hf ?_⟩⟩
 .have:=stepG_close (P:=c.P) (w:=w1) (main:=true) (b:=bM) (a:=a) (ops:=vH) (i:=1) (rest:=[]) (kk:=k₀) (cs:=cs) (o:=vH.getD 1 default) (x:=.tmp 57) Aw af tf Ej (by rw[hf.eval];exact h77) (by rw[<-H.ov];exact pM) (by rw[H.P];kernel_rfl);rw[hd]at this;rw[H.ov];exact this
 have L6:=hr.sh hS;obtain⟨h1,h2,vv,h3⟩:=L6;have lX:c.A.Ov<w1.heap.size:=iG fun hh=>by rw[fg hh]at pM;cases pM
 have HG:∀b,b≠c.A.Ov->(w1.setChan c.A.Ov 0 #[] true s r tm).heap[b]?=w1.heap[b]?:=fun b hb=>by simp only[World.setChan];rw[dU (lg hb)]
 refine⟨?_,?_,⟨true,s,r,tm,?_⟩,?_⟩
 .exact Ze h1<|HG _ H.K.nq.wo
 .rw[HG _ H.K.nq.co];exact h2
 .simp only[World.setChan];simp[lX]
 exact H.K.qD w1 _ (by simp[World.setChan]) (fun b _ _ _ hb=>HG b hb) h3
theorem alq(H:Cw c l cs)(hH:lA ρ (Fs l wk)):MW c c.Sh cs c.AtClose [.code yS] ρ:=by obtain⟨σ,rfl⟩:=hH.open;rw[aq6];refine nL mT (fun a w=>kW)<|nL mT (fun a w=>ko)<|vr mT (by(refine ib ?_;kernel_rfl)) af af aa (fun w hS=>QN (a:=⟨l.Bo,0,none⟩) af (by rw[H.P];kernel_rfl) Z (H.kn w hS.2.2.2).over H.ro) ?_;exact aia H Z<|nL mT (fun a w=>iM)<|nL mT (fun a w=>kW)<|nL mT (fun a w=>ko)<|aie (wk:=wk) H yE
theorem aid(H:Cw c l cs){Stop:qz}{rest:nN}{k:nA}(hi:i<aBi.size)(hg:(aBi.getD i default).guard=none)(hd:(aBi.getD i default).dst=some d)(hN:d<70)
  (ho:∃t,(aBi.getD i default).op=.load t (.tmp 3)/\yW prog t) (h3:ρ 3=lJ l.Bp 0) (hn:∀A cc,MW c c.Sh cs Stop (.inRegion aBi rest::k)<|upd ρ d<|.slice A l.m cc):MW c c.Sh cs Stop (.inRegion aBi (i::rest)::k) ρ:=fun a w hf hS=>by
 have CU:aBi[i]?=some (aBi.getD i default):=aL;obtain⟨t,ho,hp⟩:=ho;have⟨A,cc,hb⟩:=H.bp w hS.2.2.2;refine AH (v:=.slice A l.m cc) CU (by unfold Region.wanted;rw[hg]) tf (fun w1 r=>?_) ?_
 .rw[hf.eval];have yH:w1.cell? ⟨l.Bp,0,none⟩=some (.slice A l.m cc):=(mg.cell_of<|r.mine l.Bp<|.inr H.rp).trans hb;exact QN (a:=⟨l.Bp,0,none⟩) ho (by rw[H.P];exact hp) h3 yH H.rp
 rw[hd];exact hn A cc _ w (hf.put hN _) hS
theorem awG(H:Cw c l cs)(BU:wk<=64)(hH:lA ρ (Fs l wk)):MW c c.Sh cs (c.K6 wk) [.code uc] ρ:=by obtain⟨σ,rfl⟩:=hH.open;rw[arb];refine nL mT (fun a w=>kW)<|nL mT (fun a w=>kW)<|nL mT (fun a w=>ko)<|vr mT (by(refine ib ?_;kernel_rfl)) ai af aa (fun w hS=>(B8 af Z)) ?_;refine vr mT (by(refine ib ?_;kernel_rfl)) ai af aa (fun w hS=>(B8 af Z)) ?_;refine nL mT (fun a w=>iM)<|nL mT (fun a w=>kE)<|nL mT (fun a w=>kR) ?_;rw[aq1];refine avg (wk:=wk) H BU (fun ρ hH=>?_) wk 0 _ aa Ha;obtain⟨σ,rfl⟩:=hH.open;rw[aq5];refine nL mT (fun a w=>kW)<|nL mT (fun a w=>kW)<|nL mT (fun a w=>ko)<|aid (d:=49) H (by(refine ib ?_;kernel_rfl)) af af aa ⟨_,af,ai⟩ rfl fun A cc=>?_;refine vr mT (by(refine ib ?_;kernel_rfl)) af af aa (fun w hS=>aeA (ts:= #[]) af (by rw[H.P];exact rC) Z) ?_;rw[H.m];refine vr mT (by(refine ib ?_;kernel_rfl)) ai af aa (fun w hS=>(B8 af Z)) ?_;refine nL mT (fun a w=>iM)<|nL mT (fun a w=>kE)<|nL mT (fun a w=>kR) ?_;rw[aq2];exact auX (wk:=wk) H (fun ρ hH=>alq H hH) c.m 0 _ aa Ha
end
open Go Go.Conc Go.RowKit
theorem aeL{main:Bool}{R:lF}{Sh:oQ}{X:Event->Prop}{Stop:qz}{b:Frame}{k:nA}{cs:nX}{rest:nN}{o:Oper}
  (ho:aBi[i]?=some o) (hw:Region.wanted o (yielded aBi a.tmps)) (hk:b.kind≠.early)
  (hr:∀w1,oe M R Sh w w1->∃v w2,((execOp a.eval o).run P w1=.ok (.value v) w2\/((execOp a.eval o).run P w1=.ok .skip w2/\v=undef))/\(∀e∈(execOp a.eval o).events P w1 #[],oc M R e)/\nJ M w1 w2/\
   Own P main R Sh X Stop (grown M w1.heap.size w2.heap.size) (G (b.at (a.put o.dst v) (.inRegion aBi rest::k)) cs) w2):Own P main R Sh X Stop M (G (b.at a (.inRegion aBi (i::rest)::k)) cs) w:=by
 refine Own.mk Z fun w1 r=>?_;have⟨v,w2,h1,h2,h3,h4⟩:=hr w1 r;rcases h1 with h1|⟨h1,rfl⟩
 .refine⟨_,w2,_,stepG_value ho hw hk h1,h3,fun e he=>.inl ?_,h4⟩;have:=h2 e<|kO he;unfold oc at this|-;cases hl:e.loc with
  |cell a=>rw[hl]at this;exact this.imp .inl id|obj a=>rw[hl]at this;exact .inl this|mark a=>rw[hl]at this;exact this|_=>rw[hl]at this;exact this
 refine⟨_,w2,_,stepG_none ho hw hk h1,h3,fun e he=>.inl ?_,h4⟩;have:=h2 e<|kO he;unfold oc at this|-;cases hl:e.loc with
 |cell a=>rw[hl]at this;exact this.imp .inl id|obj a=>rw[hl]at this;exact .inl this|mark a=>rw[hl]at this;exact this|_=>rw[hl]at this;exact this
structure lD(SB:lF)(w0 w:lE):Prop where
 size:w0.heap.size<=w.heap.size
 blk:∀b,b<w0.heap.size->¬SB b->w.heap[b]?=w0.heap[b]?
 tape:w.tape=w0.tape
 os:w.os=w0.os
 out:w.output=w0.output
abbrev RK(SB:Nat->Prop)(w0:World)(b:Nat):Prop:=b<w0.heap.size/\¬SB b
section
variable{SB M:lF}{w0 w w1:lE}{Sh:oQ}
theorem lD.refl(SB:lF)(w:lE):lD SB w w:=⟨ku _,fun _ _ _=>rfl,rfl,rfl,rfl⟩
theorem lD.rely(h:lD SB w0 w)(r:oe M (RK SB w0) Sh w w1):lD SB w0 w1:=⟨j5 h.size r.size,fun b hb hs=>(r.mine b<|.inr ⟨hb,hs⟩).trans<|h.blk b hb hs,r.tape.trans h.tape,r.os.trans h.os,r.out.trans h.out⟩
theorem lD.Ij(h:lD SB w0 w)(hM:∀b,M b->w0.heap.size<=b)(s:nJ M w w1):lD SB w0 w1:=⟨j5 h.size s.size,fun b hb hs=>(s.rest b (fun hm=>by have:=hM b hm;omega)<|gK hb h.size).trans<|h.blk b hb hs,s.tape.trans h.tape,s.os.trans h.os,s.out.trans h.out⟩
theorem lD.trans{SB':lF}{w2:lE}(h:lD SB w0 w1)(k:lD SB' w1 w2)(hs:∀b,b<w0.heap.size->SB' b->SB b):lD SB w0 w2:=⟨j5 h.size k.size,fun b hb hn=>(k.blk b (gK hb h.size)<|fun h'=>hn<|hs b hb h').trans<|h.blk b hb hn,k.tape.trans h.tape,k.os.trans h.os,k.out.trans h.out⟩
theorem Ku(M:lF)(w:lE)(o:Obj):nJ M w (w.alloc o):=⟨by show w.heap.size<=(w.heap.push o).size;rw[Array.size_push];omega,fun k _ hk=>by show(w.heap.push o)[k]?=_;rw[fi hk,eB hk],rfl,rfl,rfl⟩
theorem Z2(w:lE)(o:Obj):(w.alloc o).heap[w.heap.size]?=some o:=by show(w.heap.push o)[w.heap.size]?=_;exact eK
theorem Z3(w:lE)(o:Obj):(w.alloc o).heap.size=w.heap.size+1:=by show(w.heap.push o).size=_;exact Array.size_push ..
end
section
variable{P:lY}{ρ:lB}{o:Oper}{w:lE}
theorem age{dir:ChanDir}{i:TypeInfo}(ho:o.op=.makeChan t (.const (Y 0)))(ht:P.underlying t=some (.chan dir e))(hi:P.info? e=some i):
  (execOp (ev ρ) o).run P w=.ok (.value<|.chan<|some w.heap.size) (w.alloc<|.chan 0 #[] false 0 0 false)/\(execOp (ev ρ) o).events P w #[]= #[]:=by
 have h1:=run_makeChan (P:=P) (w:=w) ht hi .i64 0 aa aq;have h2:=events_makeChan (P:=P) (w:=w) ht hi .i64 0 aa aq #[];simp only[Int.natCast_zero]at h1 h2;constructor
 .simp[execOp,ho,ev,h1]
 simp[execOp,ho,ev,h1,h2]
theorem abo(ho:o.op=.alloc t):(execOp (ev ρ) o).events P w #[]= #[]:=by simp only[execOp,ho];simp[Instr.alloc,newVar,newRow,jm];cases(zeroValue t).run P w<;>simp[Result.evThen_ok]
end
section
variable{w w1:lE}
theorem avc{M':lF}(h:nJ M w w1)(hM:∀b,M b->M' b):nJ M' w w1:=⟨h.size,fun k hk hl=>h.rest k (fun hm=>hk (hM k hm)) hl,h.tape,h.os,h.out⟩
theorem avd{g k:Nat}{cs:lW}{f:Nat×Nat}(hg:w.heap[g]?=some (.cells cs e f)):nJ (fun b=>b=g) w (w.setCell ⟨g,k,none⟩ v):=by rw[ic w g k cs e f v hg];refine⟨j3 (setRow_size ..).symm,fun b hb _=>setRow_other _ _ _ _ hb,Z,Z,Z⟩
end
theorem aqB{SB:lF}{w0:lE}(h:lD SB w0 w):lD SB w0 w.drew:=⟨h.size,h.blk,h.tape,h.os,h.out⟩
structure uV where
 d:Nat->Nat
 val:Nat->(Nat->Nat)->Value
 vj:pw
 st:pw
 tL:Nat->Nat
 tg:Nat->Nat
 o0:Nat->Obj
 o1:Nat->(Nat->Nat)->Obj
open Classical in
def uV.ob(T:uV)(i:Nat)(L:pe)(b:Nat->Nat):Obj:=if On L (T.tL i)then T.o1 i b else T.o0 i
structure zY(N:Nat)(ops:nI)(T:uV)(H0:vq):Prop where
 dN:∀i,i<ops.size->T.st i=false->T.d i<N/\(ops.getD i default).dst=some (T.d i)
 dS:∀i,i<ops.size->T.st i->(ops.getD i default).dst=none
 gd:∀i,i<ops.size->(ops.getD i default).guard=none
 inj:∀i j,i<ops.size->j<ops.size->T.st i=false->T.st j=false->T.d i=T.d j->i=j
 h0:∀i,i<ops.size->T.st i=false->∀p∈H0,p.1≠T.d i
 vd:∀i b b',i<ops.size->(∀j,j=i\/j∈oR ops i->b j=b' j)->T.val i b=T.val i b'
 od:∀i b b',i<ops.size->T.vj i->(∀j∈oR ops (T.tL i),b j=b' j)->T.o1 i b=T.o1 i b'
 mS:∀i,i<ops.size->T.vj i->T.st i=false
 so:∀i,i<ops.size->T.vj i->∀s,s<ops.size->T.tL i=s->T.st s/\T.tg s=i
 tgs:∀s,s<ops.size->T.st s->T.tg s<ops.size/\T.vj (T.tg s)/\T.tL (T.tg s)=s/\T.tg s∈oR ops s
def Xt(N:Nat)(aBi:nI)(d:Nat->Nat)(vj st:pw)(tL tg:Nat->Nat)(H0:nN):Bool:=
 (List.range aBi.size).all fun i=>(aBi.getD i default).guard.isNone&&(match (aBi.getD i default).dst with|some x=>Nat.beq x (d i)&&Nat.blt x N&& !(st i)|none=>st i)&&
  (st i||H0.all fun p=> !(Nat.beq p<|d i))&&(!(vj i)|| !(st i))&&(!(st i)||(Nat.blt (tg i) aBi.size&&vj (tg i)&&Nat.beq (tL<|tg i) i&&(oR aBi i).contains (tg i)))&&
  (List.range aBi.size).all fun j=>(st i||st j|| !(Nat.beq (d i)<|d j)||Nat.beq i j)&&(!(vj i)|| !(Nat.beq (tL i) j)||(st j&&Nat.beq (tg j) i))
theorem zY.of{N:Nat}{T:uV}{H0:vq}(h:Xt N aBi T.d T.vj T.st T.tL T.tg (H0.map (·.1)))
  (vd:∀i b b',i<aBi.size->(∀j,j=i\/j∈oR aBi i->b j=b' j)->T.val i b=T.val i b') (od:∀i b b',i<aBi.size->T.vj i->(∀j∈oR aBi (T.tL i),b j=b' j)->T.o1 i b=T.o1 i b'):zY N aBi T H0:=by
 have key:=fun i (hi:i<aBi.size)=>iq.1 h i<|jy.2 hi;simp only[ij]at key;have dst:=fun i hi=>(key i hi).1.1.1.1.2;have pair:=fun i j hi hj=>iq.1 (key i hi).2 j<|jy.2 hj;simp only[ij]at pair;refine⟨fun i hi hs=>?_,fun i hi hs=>?_,fun i hi=>?_,fun i j hi hj h1 h2 e=>?_,fun i hi hs p hp e=>?_,vd,od,fun i hi hm=>?_,fun i hi hm s hs e=>?_,fun s hs mo=>?_⟩
 .have h1:=dst i hi;cases hd:(aBi.getD i default).dst with
  |none=>rw[hd]at h1;dsimp only at h1;rw[hs]at h1;cases h1
  |some x=>rw[hd]at h1;simp only[ij]at h1;have e:=fM h1.1.1;subst e;exact⟨by simpa using h1.1.2,Z⟩
 .have h1:=dst i hi;cases hd:(aBi.getD i default).dst with
  |none=>rfl|some x=>rw[hd]at h1;simp only[ij,hs]at h1;exact ll h1.2 aq
 .simpa using(key i hi).1.1.1.1.1
 .have h3:=(pair i j hi hj).1;rw[h1,h2,e,j2]at h3;simpa using h3
 .have h3:=(key i hi).1.1.1.2;rw[hs,jG]at h3;have h4:=iq.1 h3 p.1<|jZ.2 ⟨p,hp,rfl⟩;rw[e,j2]at h4;cases h4
 .have h3:=(key i hi).1.1.2;rw[hm]at h3;simpa using h3
 .have h3:=(pair i s hi hs).2;rw[hm,e,j2]at h3;simp only[jH,jG,ij]at h3;exact⟨h3.1,fM h3.2⟩
 have h3:=(key s hs).1.2;rw[mo]at h3;simp only[jH,jG,ij]at h3;exact⟨by simpa using h3.1.1.1,h3.1.1.2,fM h3.1.2,by simpa using h3.2⟩
structure JM(SB:lF)(w0:lE)(n0:Nat)(H:List (Nat×Obj))(M:lF)(w:lE):Prop where
 own:∀p∈H,M p.1/\p.1<n0/\w.heap[p.1]?=some p.2
 n0:n0<=w.heap.size
 low:∀b,M b->w0.heap.size<=b
 kept:lD SB w0 w
section
variable{SB M:lF}{w0 w w1:lE}{n0:Nat}{H:List (Nat×Obj)}{Sh:oQ}
theorem JM.rely(h:JM SB w0 n0 H M w)(r:oe M (RK SB w0) Sh w w1):JM SB w0 n0 H M w1:=⟨fun p hp=>⟨(h.own p hp).1,(h.own p hp).2.1,(r.mine _<|.inl (h.own p hp).1).trans (h.own p hp).2.2⟩,j5 h.n0 r.size,h.low,h.kept.rely r⟩
theorem JM.alloc(h:JM SB w0 n0 H M w)(ob:Obj):JM SB w0 n0 H (grown M w.heap.size (w.alloc ob).heap.size) (w.alloc ob):=
 ⟨fun p hp=>⟨.inl (h.own p hp).1,(h.own p hp).2.1,((Ku (fun _=>False) w ob).rest _ id (gK (h.own p hp).2.1 h.n0)).trans (h.own p hp).2.2⟩,j5 h.n0 (Ku (fun _=>False) w ob).size,
 fun b hb=>hb.elim (h.low b) fun hh=>j5 h.kept.size hh.1,h.kept.Ij (M:=fun _=>False) (fun _ h=>h.elim) (Ku _ _ _)⟩
theorem JM.set(h:JM SB w0 n0 H M w){g:Nat}(hg:n0<=g)(hM:M g)(s:nJ (fun b=>b=g) w w1):JM SB w0 n0 H M w1:=
 ⟨fun p hp=>⟨(h.own p hp).1,(h.own p hp).2.1,(s.rest _ (fun e=>by have:=(h.own p hp).2.1;omega) (gK (h.own p hp).2.1 h.n0)).trans (h.own p hp).2.2⟩,j5 h.n0 s.size,h.low,
 h.kept.Ij (fun b e=>by rw[e];exact h.low g hM) s⟩
end
structure Dy(ops:nI)(T:uV)(H0:vq)(L:pe)(b:Nat->Nat)(ρ:lB)(n0:Nat)(M:lF)(w:lE):Prop where
 has:lA ρ H0
 val:∀i,i<ops.size->On L i->T.st i=false->ρ (T.d i)=T.val i b
 blk:∀i,i<ops.size->On L i->T.vj i->n0<=b i/\M (b i)/\w.heap[b i]?=some (T.ob i L b)
 inj:∀i j,i<ops.size->j<ops.size->On L i->On L j->T.vj i->T.vj j->b i=b j->i=j
structure IM(N:Nat)(ops:nI)(T:uV)(H0:vq)(SB:lF)(w0:lE)(n0:Nat)(H:List (Nat×Obj))(L:pe)(a:Act)(M:lF)(w:lE):Prop where
 cl:zd ops L
 j:JM SB w0 n0 H M w
 ex:∃b ρ,Fit N ρ a/\Dy ops T H0 L b ρ n0 M w
theorem Af:∀{K:vq} {ρ:lB} {d:Nat} {v:lH},(∀p∈K,p.1≠d)->lA ρ K->lA (upd ρ d v) K
 |[],_,_,_,_,_=>trivial|p::K,ρ,d,v,hd,h=>by
  refine⟨?_,Af (fun q hq=>hd q<|fT _ hq) h.2⟩;have h1:=hd p<|gE ..;unfold upd;have hb:Nat.beq p.1 d=false:=by
   cases hh:Nat.beq p.1 d with
   |false=>rfl|true=>exact ll (fM hh) h1
  rw[hb];exact h.1
theorem upd_same:upd ρ d v d=v:=by unfold upd;rw[j2];rfl
theorem zS{x:Nat}(h:x≠d):upd ρ d v x=ρ x:=by
 unfold upd;have hb:Nat.beq x d=false:=by
  cases hh:Nat.beq x d with
  |false=>rfl|true=>exact ll (fM hh) h
 rw[hb];rfl
section
variable{N:Nat}{aBi:nI}{T:uV}{H0:vq}{SB M:lF}{w0 w w1:lE}{n0:Nat}{H:List (Nat×Obj)}{L:pe}{a:Act}{b:Nat->Nat}{ρ:lB}{i:Nat}{Sh:oQ}
theorem Dy.rely{R:lF}(h:Dy aBi T H0 L b ρ n0 M w)(r:oe M R Sh w w1):Dy aBi T H0 L b ρ n0 M w1:=⟨h.has,h.val,fun i hi ho hm=>⟨(h.blk i hi ho hm).1,(h.blk i hi ho hm).2.1,(r.mine _<|.inl (h.blk i hi ho hm).2.1).trans (h.blk i hi ho hm).2.2⟩,h.inj⟩
theorem aes(hT:zY N aBi T H0)(hc:zd aBi L){k:Nat}(hk:k<aBi.size)(mo:T.st k=false)(hi:i<aBi.size)(hm:T.vj i){b':Nat->Nat}(hb:∀j,On L j->b' j=b j):T.ob i (L.setIfInBounds k true) b'=T.ob i L b:=by
 unfold uV.ob;have mK:T.tL i≠k:=fun e=>by have:=(hT.so i hi hm k hk e).1;rw[mo]at this;cases this
 have e:On (L.setIfInBounds k true) (T.tL i)↔On L (T.tL i):=by rw[EC (by rw[hc.n];exact hk)];exact⟨fun h=>h.resolve_left mK,.inr⟩
 by_cases ho:On L (T.tL i)
 .rw[lq (e.2 ho),lq ho];exact hT.od i b' b hi hm fun j hj=>hb j<|hc.cl _ ho j hj
 rw[lp (fun h=>ho<|e.1 h),lp ho]
variable{P:lY}{X:Event->Prop}{Stop:qz}{fr:Frame}{k:nA}{cs:nX}{rest:nN}
theorem Qh(hT:zY N aBi T H0)(rZ:fr.kind≠.early)(I:IM N aBi T H0 SB w0 n0 H L a M w)(hi:i<aBi.size)(mI:¬On L i)(hd:∀d∈oR aBi i,On L d)(hm:T.vj i=false)(hs:T.st i=false)
  (hr:∀b ρ w1,Dy aBi T H0 L b ρ n0 M w1->JM SB w0 n0 H M w1->(execOp (ev ρ)<|aBi.getD i default).run P w1=.ok (.value<|T.val i b) w1/\∀e∈(execOp (ev ρ)<|aBi.getD i default).events P w1 #[],oc M (RK SB w0) e)
  (next:∀a',IM N aBi T H0 SB w0 n0 H (L.setIfInBounds i true) a' M w->Own P true (RK SB w0) Sh X Stop M (G (fr.at a' (.inRegion aBi rest::k)) cs) w):Own P true (RK SB w0) Sh X Stop M (G (fr.at a (.inRegion aBi (i::rest)::k)) cs) w:=by
 have⟨b,ρ,hf,hx⟩:=I.ex;have ho:aBi[i]?=some (aBi.getD i default):=aL;have⟨hN,Mj⟩:=hT.dN i hi hs;refine AH (v:=T.val i b) ho cM rZ (fun w1 r=>?_) ?_
 .rw[hf.eval];exact hr b ρ w1 (hx.rely r)<|I.j.rely r
 rw[Mj];have oset:∀{q},On (L.setIfInBounds i true) q↔q=i\/On L q:=EC dI;refine next _ ⟨I.cl.step hi hd,I.j,b,_,hf.put hN _,⟨Af (hT.h0 i hi hs) hx.has,fun q hq r7 BT=>?_,fun q hq r7 wE=>?_,fun q q' hq wH Aw Ej rm rK=>?_⟩⟩
 .rcases oset.1 r7 with rfl|r7
  .exact upd_same
  rw[zS fun e=>mI<|(hT.inj q i hq hi BT hs e)▸r7];exact hx.val q hq r7 BT
 .have mK:q≠i:=fun e=>by rw[e,hm]at wE;cases wE
  have⟨g1,g2,g3⟩:=hx.blk q hq ((oset.1 r7).resolve_left mK) wE;exact⟨g1,g2,by rw[aes hT I.cl hi hs hq wE (fun _ _=>rfl)];exact g3⟩
 exact hx.inj q q' hq wH ((oset.1 Aw).resolve_left fun e=>by rw[e,hm]at rm;cases rm) ((oset.1 Ej).resolve_left fun e=>by rw[e,hm]at rK;cases rK) rm rK
theorem F9(hT:zY N aBi T H0)(rZ:fr.kind≠.early)(I:IM N aBi T H0 SB w0 n0 H L a M w)(hi:i<aBi.size)(mI:¬On L i)(hd:∀d∈oR aBi i,On L d)(hm:T.vj i)
  (hr:∀b ρ w1,Dy aBi T H0 L b ρ n0 M w1->JM SB w0 n0 H M w1->b i=w1.heap.size->(execOp (ev ρ)<|aBi.getD i default).run P w1=.ok (.value<|T.val i b) (w1.alloc<|T.o0 i)/\(execOp (ev ρ)<|aBi.getD i default).events P w1 #[]= #[])
  (next:∀a' M' w',IM N aBi T H0 SB w0 n0 H (L.setIfInBounds i true) a' M' w'->Own P true (RK SB w0) Sh X Stop M' (G (fr.at a' (.inRegion aBi rest::k)) cs) w'):Own P true (RK SB w0) Sh X Stop M (G (fr.at a (.inRegion aBi (i::rest)::k)) cs) w:=by
 have⟨b,ρ,hf,hx⟩:=I.ex;have ho:aBi[i]?=some (aBi.getD i default):=aL;have hs:=hT.mS i hi hm;have⟨hN,Mj⟩:=hT.dN i hi hs;refine aeL ho cM rZ fun w1 r=>?_;have sI:=hx.rely r;have sT:=I.j.rely r;obtain⟨b',sV⟩:∃b':Nat->Nat,b'=fun j=>if j=i then w1.heap.size else b j:=⟨_,rfl⟩
 have bi:b' i=w1.heap.size:=by rw[sV];simp
 have bo:∀j,j≠i->b' j=b j:=fun j hj=>by rw[sV];simp[hj]
 have bL:∀j,On L j->b' j=b j:=fun j hj=>bo j fun e=>mI<|e▸hj
 have axk:∀q,q<aBi.size->On L q->T.val q b'=T.val q b:=fun q hq r7=>hT.vd q b' b hq fun j hj=>bL j (by
  rcases hj with rfl|hj
  .exact r7
  exact I.cl.cl q r7 j hj)
 have xv:Dy aBi T H0 L b' ρ n0 M w1:=⟨sI.has,fun q hq r7 BT=>(sI.val q hq r7 BT).trans (axk q hq r7).symm,fun q hq r7 wE=>by
  have⟨g1,g2,g3⟩:=sI.blk q hq r7 wE;rw[bL q r7];refine⟨g1,g2,g3.trans ?_⟩;congr 1;unfold uV.ob;by_cases HC:On L (T.tL q)
  .rw[lq HC,lq HC];exact(hT.od q b' b hq wE fun j hj=>bL j<|I.cl.cl _ HC j hj).symm
  rw[lp HC,lp HC],fun q q' hq wH h1 h2 h3 h4=>by rw[bL q h1,bL q' h2];exact sI.inj q q' hq wH h1 h2 h3 h4⟩
 have⟨h1,h2⟩:=hr b' ρ w1 xv sT bi;refine⟨_,_,.inl (by rw[hf.eval];exact h1),fun e he=>?_,Ku ..,?_⟩
 .rw[hf.eval,h2]at he;simp at he
 rw[Mj];have oset:∀{q},On (L.setIfInBounds i true) q↔q=i\/On L q:=EC dI;have lX:∀q,q<aBi.size->On L q->T.vj q->b' q<w1.heap.size:=fun q hq h1 h2=>(eg.1 (xv.blk q hq h1 h2).2.2).1;refine next _ _ _ ⟨I.cl.step hi hd,sT.alloc _,b',_,hf.put hN _,⟨Af (hT.h0 i hi hs) xv.has,fun q hq r7 BT=>?_,fun q hq r7 wE=>?_,fun q q' hq wH Aw Ej rm rK e=>?_⟩⟩
 .rcases oset.1 r7 with rfl|r7
  .exact upd_same
  rw[zS fun e=>mI<|(hT.inj q i hq hi BT hs e)▸r7];exact xv.val q hq r7 BT
 .rw[aes hT I.cl hi hs hq wE (b:=b') (fun _ _=>rfl)];by_cases yN:q=i
  .subst yN;rw[bi];refine⟨sT.n0,.inr ⟨ku _,by rw[Z3];omega⟩,(Z2 w1 _).trans ?_⟩;congr 1;unfold uV.ob;rw[lp fun hh=>mI ?_];have mR:T.tL q<aBi.size:=by
    apply eD;intro oh;unfold On at hh;rw[ed,fg<|by rw[I.cl.n];omega]at hh;cases hh
   have h3:=hT.so q hq wE _ mR rfl;have h4:=(hT.tgs _ mR h3.1).2.2.2;rw[h3.2]at h4;exact I.cl.cl _ hh _ h4
  have⟨g1,g2,g3⟩:=xv.blk q hq ((oset.1 r7).resolve_left yN) wE;exact⟨g1,.inl g2,((Ku (fun _=>False) w1 _).rest _ id<|lX q hq ((oset.1 r7).resolve_left yN) wE).trans g3⟩
 rcases oset.1 Aw with e1|uG
 .rcases oset.1 Ej with e2|vv
  .rw[e1,e2]
  have:=lX q' wH vv rK;rw[e1,bi]at e;omega
 rcases oset.1 Ej with e2|vv
 .have:=lX q hq uG rm;rw[e2,bi]at e;omega
 exact xv.inj q q' hq wH uG vv rm rK e
theorem Qg(hT:zY N aBi T H0)(rZ:fr.kind≠.early)(I:IM N aBi T H0 SB w0 n0 H L a M w)(hi:i<aBi.size)(mI:¬On L i)(hd:∀d∈oR aBi i,On L d)(hs:T.st i)
  (hr:∀b ρ w1,Dy aBi T H0 L b ρ n0 M w1->JM SB w0 n0 H M w1->∃x y t,T.o0 (T.tg i)=.cells #[x] t (0,0)/\T.o1 (T.tg i) b=.cells #[y] t (0,0)/\y.oneCell'/\(execOp (ev ρ)<|aBi.getD i default).run P w1=.ok .skip (w1.setCell ⟨b<|T.tg i,0,none⟩ y)/\∀e∈(execOp (ev ρ)<|aBi.getD i default).events P w1 #[],e.loc=.cell ⟨b<|T.tg i,0,none⟩)
  (next:∀a' M' w',IM N aBi T H0 SB w0 n0 H (L.setIfInBounds i true) a' M' w'->Own P true (RK SB w0) Sh X Stop M' (G (fr.at a' (.inRegion aBi rest::k)) cs) w'):Own P true (RK SB w0) Sh X Stop M (G (fr.at a (.inRegion aBi (i::rest)::k)) cs) w:=by
 have⟨b,ρ,hf,hx⟩:=I.ex;have ho:aBi[i]?=some (aBi.getD i default):=aL;have Mj:=hT.dS i hi hs;have⟨C3,ht2,ht3,ht4⟩:=hT.tgs i hi hs;refine aeL ho cM rZ fun w1 r=>?_;have sI:=hx.rely r;have sT:=I.j.rely r;have⟨x,y,t,e0,e1,hy,h1,h2⟩:=hr b ρ w1 sI sT;have MG:=hd _ ht4;have⟨g1,g2,g3⟩:=sI.blk _ C3 MG ht2;have ob1:T.ob (T.tg i) L b=.cells #[x] t (0,0):=by unfold uV.ob;rw[lp (by rw[ht3];exact mI),e0]
 rw[ob1]at g3;have⟨s1,s2,s3⟩:=EX (P:=P) (v:=y) g3 (show 0<(#[x]:lW).size by simp) hy;have sp:=avd (k:=0) (v:=y) g3;have mR:(w1.setCell ⟨b<|T.tg i,0,none⟩ y).heap.size=w1.heap.size:=by rw[ic w1 (b<|T.tg i) 0 _ _ _ _ g3];exact setRow_size ..
 refine⟨undef,_,.inr ⟨by rw[hf.eval];exact h1,Z⟩,fun e he=>?_,avc sp (fun q hq=>by rw[hq];exact g2),?_⟩
 .rw[hf.eval]at he;unfold oc;rw[h2 e he];exact .inl g2
 rw[Mj,mR,Bz];have oset:∀{q},On (L.setIfInBounds i true) q↔q=i\/On L q:=EC dI;refine next _ _ _ ⟨I.cl.step hi hd,sT.set g1 g2 sp,b,ρ,hf,⟨sI.has,fun q hq r7 BT=>sI.val q hq ((oset.1 r7).resolve_left fun e=>by rw[e,hs]at BT;cases BT) BT,fun q hq r7 wE=>?_,fun q q' hq wH Aw Ej rm rK=>?_⟩⟩
 .have mK:q≠i:=fun e=>by have:=hT.mS q hq wE;rw[e,hs]at this;cases this
  have acX:=(oset.1 r7).resolve_left mK;have⟨k1,k2,k3⟩:=sI.blk q hq acX wE;by_cases WB:q=T.tg i
  .subst WB;refine⟨k1,k2,?_⟩;have:T.ob (T.tg i) (L.setIfInBounds i true) b=.cells #[y] t (0,0):=by
    unfold uV.ob;rw[lq (oset.2<|.inl ht3),e1]
   rw[this];exact s3
  refine⟨k1,k2,?_⟩;have anF:b q≠b (T.tg i):=fun e=>WB<|sI.inj _ _ hq C3 acX MG wE ht2 e;rw[sp.rest _ anF (eg.1 k3).1,k3];congr 1;unfold uV.ob;have MN:T.tL q≠i:=fun e=>by have:=(hT.so q hq wE i hi e).2;exact WB this.symm
  have e:On (L.setIfInBounds i true) (T.tL q)↔On L (T.tL q):=by rw[oset];exact⟨fun h=>h.resolve_left MN,.inr⟩
  by_cases ho:On L (T.tL q)
  .rw[lq ho,lq<|e.2 ho]
  rw[lp ho,lp<|fun h=>ho<|e.1 h]
 exact sI.inj q q' hq wH ((oset.1 Aw).resolve_left fun e=>by have:=hT.mS q hq rm;rw[e,hs]at this;cases this) ((oset.1 Ej).resolve_left fun e=>by have:=hT.mS q' wH rK;rw[e,hs]at this;cases this) rm rK
theorem adC(VY:P.follows .mixedOrders)(Hm:((List.range aBi.size).all fun i=>(oR aBi i).all fun d=>Nat.blt d i)){id:Nat}(hf:Fit N ρ a)(hH:lA ρ H0)(hJ:JM SB w0 n0 H M w)
  (uM:∀L a M w i rest,i<aBi.size->¬On L i->(∀d∈oR aBi i,On L d)->IM N aBi T H0 SB w0 n0 H L a M w->(∀a' M' w',IM N aBi T H0 SB w0 n0 H (L.setIfInBounds i true) a' M' w'->Own P true (RK SB w0) Sh X Stop M' (G (fr.at a' (.inRegion aBi rest::k)) cs) w')->Own P true (RK SB w0) Sh X Stop M (G (fr.at a (.inRegion aBi (i::rest)::k)) cs) w)
  (An:∀L a M w,(∀i,i<aBi.size->On L i)->IM N aBi T H0 SB w0 n0 H L a M w->Own P true (RK SB w0) Sh X Stop M (G (fr.at a (.inRegion aBi []::k)) cs) w):
  Own P true (RK SB w0) Sh X Stop M (G (fr.at a (.code (.region id aBi true)::k)) cs) w:=by
 refine aeK VY fun w1 r t w2 xu=>?_;have uH:JM SB w0 n0 H M w2:=by
  have h1:=hJ.rely r;rcases xu with rfl|rfl
  .exact h1
  exact⟨h1.own,h1.n0,h1.low,aqB h1.kept⟩
 refine ago (aBi:=aBi) (fun L a M w=>IM N aBi T H0 SB w0 n0 H L a M w) (fun L rest a M w=>Own P true (RK SB w0) Sh X Stop M (G (fr.at a (.inRegion aBi rest::k)) cs) w) (fun L a M w hr I=>?_) (fun L a M w i rest hi I next=>?_) aBi.size t _ a M w2 (by simp[zR]) ⟨zd.none _,uH,fun _=>0,ρ,hf,⟨hH,fun i _ h=>ll h<|HY _ _,fun i _ h=>ll h<|HY _ _,fun i j _ _ h=>ll h<|HY _ _⟩⟩
 .exact An L a M w (fun i hi=>eD fun mI=>afR I.cl.n Hm hi mI hr) I
 have⟨h1,h2,h3⟩:=afQ hi;exact uM L a M w i rest h1 h2 h3 I next
end
open Go.RowKit
def Kb:Code:=match tV with|.seq a (.seq b _)=>.seq a (.seq b .skip)|_=>.skip
def C7:Code:=match tV with|.seq _ (.seq _ c)=>c|_=>.skip
theorem gr5:Gr prog nE C7 Kb tV:=by unfold C7 Kb tV;rw[Tryz.f5];dsimp only[Option.getD_some];exact .seq ai<|.seq ai .fin
section
variable{w0:lE}{A B':lO}{m pc tc:Nat}{wk:Int}
theorem atc(hm:m<=50)(AD:1<=wk)(xr:wk<=16):
  W prog Tryz.f5.ntmps Kb (Np prog Tryz.f5 (fun _ _=>False)<|fun ρ w'=>∃b3 b4,lA ρ [(2,Y wk),(3,lJ b3 0),(4,lJ b4 0)]/\ly NF w0 w' [B b4 23 #[.slice B' m tc],B b3 22 #[.slice A m pc]])
   (entry #[.slice A m pc,.slice B' m tc,Y wk]) w0:=by
 have hI:=ly.start (fun _=>False) w0;unfold Kb tV;rw[Tryz.f5];dsimp only[Option.getD_some];refine Wq<|Tg (.slice _ _ _) #[_] hI Z ?_;rintro b3 w- -hI;refine Tg (.slice _ _ _) #[_] hI Z ?_;rintro b4 w- -hI;exact Vm Z<|Vh Z<|Wn<|Ws<|Wq<|V4 (.slice _ _ _) Z (hI.c1 Z)<|Vp Z rC Z<|V4 (.slice _ _ _) Z (hI.c0 Z)<|Vp Z E5 Z<|U3 Z<|V3 Z<|V4 (.slice _ _ _) Z (hI.c1 Z)<|Vp Z rC Z<|Ti Z<|Va Z<|V3 Z<|V0 Z<|Vq Z<|Va Z<|V3 Z<|V0 Z<|Ti Z<|Va Z<|Yf Z<|Wk<|Wk ⟨_,_,sf,hI⟩
end
def Zx(v:lH):Prop:=v=.nilIface\/∃T u,v=.iface T u
def Om(Cr m:Nat)(E:Nat->Value)(en:Ending):Prop:=(∃k,k<m/\E k≠.nilIface/\(∀j,j<k->E j=.nilIface)/\en=.returned (.tuple #[.slice none 0 0,E k]))\/((∀k,k<m->E k=.nilIface)/\en=.returned (.tuple #[.slice (some ⟨Cr,0,none⟩) m m,.nilIface]))
section
variable{w0:lE}{ρ:lB}{Cr Ce Br Be m:Nat}{E:Nat->Value}
theorem awT(hm:m<=50)(hr:w0.cell? ⟨Br,0,none⟩=some (me Cr 0 m m))(he:w0.cell? ⟨Be,0,none⟩=some (me Ce 0 m m))(hE:∀k,k<m->w0.cell? ⟨Ce,k,none⟩=some (E k)/\Zx (E k))
  (hH:lA ρ [(8,lJ Br 0),(9,lJ Be 0)]):W prog Tryz.f5.ntmps yb (sL prog Tryz.f5<|fun en w'=>Om Cr m E en/\Pure w0 w') ρ w0:=by
 obtain⟨σ,rfl⟩:=hH.open;have hI:=ly.start (fun _=>False) w0;unfold yb Eu yS yR uc xy wM tV;rw[Tryz.f5];dsimp only[Option.getD_some];refine Ws<|Wq<|V4 (.slice _ _ _) Z (hI.my he)<|Vp Z underlying49 Z<|V0 Z<|Wn<|Wb ?_;refine Wl (fun mu ρ w=>∃k:Nat,mu=m-k/\k<=m/\(∀j,j<k->E j=.nilIface)/\lA ρ [(59,me Ce 0 m m),(60,lI m),(61,lI k),(8,lJ Br 0),(9,lJ Be 0)]/\ly NF w0 w []) m
  ⟨0,rfl,aa,fun j hj=>aa,⟨rfl,rfl,rfl,rfl,rfl,trivial⟩,hI⟩ ?_
 clear hI;rintro mu ρ w ⟨k,rfl,hk,BF,hH,hI⟩;obtain⟨σ,rfl⟩:=hH.open;by_cases ow:k<m;rotate_left
 .obtain rfl:k=m:=aa;exact Wq<|Vq Z<|Yg Z<|WE<|Wq<|V4 (.slice _ _ _) Z (hI.my hr)<|Vm Z<|Vh Z<|Wn<|WR<|nD 6 7 Z ⟨.inr ⟨BF,Z⟩,hI.pu⟩
 have⟨hc,hv⟩:=hE k ow;have hb:=BF;generalize hz:E k=z at hc hv;rcases hv with rfl|⟨T,u,rfl⟩
 .refine Wq<|Vt Z<|Yu Z<|Wk<|Ws<|Wb<|Wq<|Tx Z underlying49 Z<|Wv Z (EK Z ai Z<|by exact hI.my hc)<|Vh Z<|Wn<|Wq<|Tb Z<|Tn Z mY Z<|Yf Z<|Wk<|Wr<|Vx Z<|V0 Z<|Wn ?_
  exact⟨m-(k+1),aa,k+1,rfl,aa,fun j hj=>(by
   rcases j6 j k with h|h
   .exact BF j h
   obtain rfl:j=k:=aa
   exact hz),ug,hI⟩
 exact Wq<|Vt Z<|Yu Z<|Wk<|Ws<|Wb<|Wq<|Tx Z underlying49 Z<|Wv Z (EK Z ai Z<|by exact hI.my hc)<|Vn Z<|Wn<|Wq<|Vs Z<|Tp Z mY Z<|Yt Z<|Wq<|Vs Z<|Vm Z<|Vn Z<|Wn<|WR<|nD 6 7 Z ⟨.inl ⟨k,ow,by rw[hz];simp,BF,by rw[hz];rfl⟩,hI.pu⟩
end
end
section
open Go.Proofs.Tryz
open Go Go.Conc Go.RowKit
variable{a:Act}{aBi:nI}{R:Ending->World->Prop}{ρ:lB}{fn:Func}{f:FuncId}{d i n:Nat}{D M:lF}{y:mN}{P:lY}{e t:lT}{v:lH}{w w1:lE}
def qQ:Array Oper:=match C7 with|.seq (.region _ o _) _=>o|_=> #[]
def tG:Array Oper:=match wM with|.seq (.region _ o _) _=>o|_=> #[]
def wO:Array Oper:=match xy with|.seq (.region _ o _) _=>o|_=> #[]
theorem aq8:C7=.seq (.region 3 qQ true) wM:=cd
theorem aq9:wM=.seq (.region 4 tG true) xy:=cd
theorem ara:xy=.seq (.region 5 wO false) uc:=by unfold uc;simp only[qQ,tG,wO,C7,xy,wM,tV,Tryz.f5,iK]
theorem QE:qQ.size=10:=ai
theorem QG:tG.size=6:=ai
theorem arH:((List.range qQ.size).all fun i=>(oR qQ i).all fun d=>Nat.blt d i):=ai
theorem arI:((List.range tG.size).all fun i=>(oR tG i).all fun d=>Nat.blt d i):=ai
def S4(m:Nat):Array Value:=madeCells vU (m*5)
def SQ(m:Nat):Array Value:=madeCells #[.nilIface] (m*1)
def d3(i:Nat):Nat:=[35,36,37,38,39,40,8,9,0,0].getD i 0
def k3(i:Nat):Bool:=[false,false,true,false,false,true,true,true,false,false].getD i false
def s3(i:Nat):Bool:=[false,false,false,false,false,false,false,false,true,true].getD i false
def t3(i:Nat):Nat:=[10,10,10,10,10,10,8,9,10,10].getD i 10
def g3(i:Nat):Nat:=[0,0,0,0,0,0,0,0,6,7].getD i 0
def T3(PA:lO)(m pc:Nat):uV where
 d:=d3
 val i b:=[.slice PA m pc,.int .i64 m,.slice (some ⟨b 2,0,none⟩) m m,.slice PA m pc,.int .i64 m,.slice (some ⟨b 5,0,none⟩) m m,.pointer<|some ⟨b 6,0,none⟩,.pointer<|some ⟨b 7,0,none⟩].getD i undef
 vj:=k3
 st:=s3
 tL:=t3
 tg:=g3
 o0 i:=match i with|2=>.cells (S4 m) 42|5=>.cells (SQ m) 32|6=>.cells #[.slice none 0 0] 30|_=>.cells #[.slice none 0 0] 49
 o1 i b:=match i with|6=>.cells #[.slice (some ⟨b 2,0,none⟩) m m] 30|7=>.cells #[.slice (some ⟨b 5,0,none⟩) m m] 49|_=>.cells #[] 0
def d4(i:Nat):Nat:=[41,42,10,11,0,0].getD i 0
def k4(i:Nat):Bool:=[true,true,true,true,false,false].getD i false
def s4(i:Nat):Bool:=[false,false,false,false,true,true].getD i false
def t4(i:Nat):Nat:=[6,6,4,5,6,6].getD i 6
def g4(i:Nat):Nat:=[0,0,0,0,2,3].getD i 0
def T4:uV where
 d:=d4
 val i b:=[.chan (some<|b 0),.chan<|some<|b 1,.pointer<|some ⟨b 2,0,none⟩,.pointer<|some ⟨b 3,0,none⟩].getD i undef
 vj:=k4
 st:=s4
 tL:=t4
 tg:=g4
 o0 i:=match i with|0=>.chan 0 #[] false 0 0 false|1=>.chan 0 #[] false 0 0 false|2=>.cells #[.chan none] 50|_=>.cells #[.chan none] 51
 o1 i b:=match i with|2=>.cells #[.chan (some<|b 0)] 50|3=>.cells #[.chan (some<|b 1)] 51|_=>.cells #[] 0
section
variable{PA:lO}{m pc b3 b4:Nat}{wk:Int}
theorem aiu{H0:vq}(h:H0.map (·.1)=[2,3,4]):zY 70 qQ (T3 PA m pc) H0:=by
 refine zY.of (by rw[h];exact(by kernel_rfl:Xt 70 qQ d3 k3 s3 t3 g3 [2,3,4])) (fun i b b' hi hb=>?_) fun i b b' hi hm hb=>?_
 .rw[QE]at hi
  match i,hi with
  |0,_|1,_|3,_|4,_|8,_|9,_=>rfl|2,_=>show Value.slice (some ⟨b 2,0,none⟩) m m=me (b' 2) 0 m m;rw[hb 2 (.inl rfl)]|5,_=>show Value.slice (some ⟨b 5,0,none⟩) m m=me (b' 5) 0 m m;rw[hb 5 (.inl rfl)]|6,_=>show Value.pointer (some ⟨b 6,0,none⟩)=lJ (b' 6) 0;rw[hb 6 (.inl rfl)]|7,_=>show Value.pointer (some ⟨b 7,0,none⟩)=lJ (b' 7) 0;rw[hb 7 (.inl rfl)]|_+10,h=>exact ll h aa
 rw[QE]at hi
 match i,hi with
 |0,_|1,_|2,_|3,_|4,_|5,_|8,_|9,_=>rfl|6,_=>simp only[T3,hb 2 bq]|7,_=>simp only[T3,hb 5 bq]|_+10,h=>exact ll h aa
theorem aiv{H0:vq}(h:H0.map (·.1)=[2,3,4,8,9]):zY 70 tG T4 H0:=by
 refine zY.of (by rw[h];exact(by kernel_rfl:Xt 70 tG d4 k4 s4 t4 g4 [2,3,4,8,9])) (fun i b b' hi hb=>?_) fun i b b' hi hm hb=>?_
 .rw[QG]at hi
  match i,hi with
  |0,_=>show Value.chan (some<|b 0)=.chan (some<|b' 0);rw[hb 0 (.inl rfl)]|1,_=>show Value.chan (some<|b 1)=.chan (some<|b' 1);rw[hb 1 (.inl rfl)]|2,_=>show Value.pointer (some ⟨b 2,0,none⟩)=lJ (b' 2) 0;rw[hb 2 (.inl rfl)]|3,_=>show Value.pointer (some ⟨b 3,0,none⟩)=lJ (b' 3) 0;rw[hb 3 (.inl rfl)]|4,_|5,_=>rfl|_+6,h=>exact ll h aa
 rw[QG]at hi
 match i,hi with
 |0,_|1,_|4,_|5,_=>rfl|2,_=>simp only[T4,hb 0 bq]|3,_=>simp only[T4,hb 1 bq]|_+6,h=>exact ll h aa
end
section
variable{P:lY}{ρ:lB}{o:Oper}{w:lE}{R M:lF}
theorem asq{e:Event}(h:oc none_ R e):oc M R e:=AG h
theorem asv{x:mN}{a:Addr}(ho:o.op=.load t x)(ht:yW P t)(hx:ev ρ x=.pointer (some a))(hc:w.cell? a=some v)(hM:M a.block):(execOp (ev ρ) o).run P w=.ok (.value v) w/\∀e∈(execOp (ev ρ) o).events P w #[],oc M R e:=by
 have h:=QN (P:=P) (R:=fun _=>True) ho ht hx hc trivial;refine⟨h.1,fun e he=>?_⟩;have h1:=run_isAgg_plain (P:=P) (w:=w) ht;have h2:∀es,(isAgg t).events P w es=es:=fun es=>by
  unfold isAgg underlying;simp;split
  .rename_i d _;cases d<;>simp
  simp
 simp[execOp,ho,hx,Instr.loadAt,Instr.sureAddr,loadVar,h1,h2,jm,events_load,hc]at he;subst he;exact .inl hM
theorem aeB{x:mN}{i:TypeInfo}{z:lH}(ho:o.op=.makeSlice t x y)(hx:ev ρ x=lI n)(hy:ev ρ y=lI n)(ht:P.underlying t=some (.slice e))(hi:P.info? e=some i)(hz:i.zero=some z)(hb:i.bytes<=10000)(hn:n<=1000):
  (execOp (ev ρ) o).run P w=.ok (.value<|me w.heap.size 0 n n) (w.alloc<|.cells (madeCells z.cells<|n*i.size) e)/\(execOp (ev ρ) o).events P w #[]= #[]:=by
 have yH:i.bytes*n<=10000*1000:=Nat.mul_le_mul hb hn;have Ah:(i.bytes:Int)*(n:Int)<=10000*1000:=by
  have:((i.bytes*n:Nat):Int)<=10000*1000:=aa
  rwa [iT]at this
 have hb3:n*i.bytes<=10000*1000:=by rw[j7];exact yH
 have hr:=run_make (P:=P) w t e i z ht hi hz .i64 .i64 n n aa aa aa aa;have he:=Go.Conc.events_make (P:=P) w t e i z ht hi hz .i64 .i64 n n aa aa aa aa (by rw[gQ];omega) #[];rw[gQ]at hr;constructor
 .simp[execOp,ho,hx,hy,hr]
 simp[execOp,ho,hx,hy,hr,he]
theorem QP{x:mN}{e':lT}{g:Nat}{x0:lH}(ho:o.op=.store t x y)(hx:ev ρ x=.pointer (some ⟨g,0,none⟩))(hy:ev ρ y=v)(h1:v.oneCell'=true)(hv:v.cells= #[v])(hg:w.heap[g]?=some (.cells #[x0] e' (0,0)))(hs:pq P t 1=true):
  (execOp (ev ρ) o).run P w=.ok .skip (w.setCell ⟨g,0,none⟩ v)/\∀e∈(execOp (ev ρ) o).events P w #[],e.loc=.cell ⟨g,0,none⟩:=by
 refine⟨run_store (P:=P) (w:=w) (g:=g) (j:=0) (n:=1) (u:=v) (vs:= #[v]) ho hx hy hv hs Z hg aq (by simpa using h1),fun e he=>?_⟩;obtain⟨st1,st2,st3⟩:=EX (P:=P) (v:=v) hg (show 0<(#[x0]:lW).size by simp) h1;unfold execOp at he;rw[ho]at he;have nU:w.cell? ⟨g,0,none⟩=some x0:=by simp[World.cell?,hg]
 have PE:w.frozen? ⟨g,0,none⟩=false:=by simp[World.frozen?,hg]
 have HO:=hv;unfold Value.cells at HO;simp[go_sem,hx,hy,yZ hs,nU,PE,HO,st2]at he;rw[he]
theorem QM{u:lH}(ho:o.op=.alloc t)(hz:(P.info? t).bind (·.zero)=some u):(execOp (ev ρ) o).run P w=.ok (.value (lJ w.heap.size 0)) (w.alloc (.cells u.cells t))/\(execOp (ev ρ) o).events P w #[]= #[]:=⟨YA ho hz,abo ho⟩
end
theorem adD{cs:lW}{b:Nat}(h:(prog.info? e).map (fun i=>(i.zero.map Value.cells,i.size,i.bytes))=some (some cs,n,b)):∃i z,prog.info? e=some i/\i.zero=some z/\z.cells=cs/\i.size=n/\i.bytes=b:=by
 cases hp:prog.info? e with
 |none=>simp[hp]at h|some i=>
  simp only[hp,jk,ia,jP]at h;obtain⟨h1,h2,h3⟩:=h;cases hz:i.zero with
  |none=>simp[hz]at h1|some z=>rw[hz]at h1;exact⟨i,z,rfl,hz,jl h1,h2,h3⟩
theorem aqm:∃i z,prog.info? 42=some i/\i.zero=some z/\z.cells=vU/\i.size=5/\i.bytes=80:=adD ai
theorem aql:∃i z,prog.info? 32=some i/\i.zero=some z/\z.cells= #[.nilIface]/\i.size=1/\i.bytes=16:=adD ai
theorem QK{T:uV}{L:pe}{b:Nat->Nat}(s:Nat)(e:T.tL i=s)(h:On L s):T.ob i L b=T.o1 i b:=by unfold uV.ob;rw[lq (by rw[e];exact h)]
theorem J6{T:uV}{L:pe}{b:Nat->Nat}(s:Nat)(e:T.tL i=s)(h:¬On L s):T.ob i L b=T.o0 i:=by unfold uV.ob;rw[lp (by rw[e];exact h)]
abbrev GQ(wk:Int)(b3 b4:Nat):List (Nat×Value):=[(2,.int .i64 wk),(3,.pointer (some ⟨b3,0,none⟩)),(4,.pointer (some ⟨b4,0,none⟩))]
abbrev GR(wk:Int)(b3 b4 b8 b9:Nat):List (Nat×Value):=[(2,.int .i64 wk),(3,.pointer (some ⟨b3,0,none⟩)),(4,.pointer (some ⟨b4,0,none⟩)),(8,.pointer (some ⟨b8,0,none⟩)),(9,.pointer (some ⟨b9,0,none⟩))]
abbrev H3(PA TA:Option Addr)(m pc tc b3 b4:Nat):List (Nat×Obj):=[(b3,.cells #[.slice PA m pc] 22),(b4,.cells #[.slice TA m tc] 23)]
abbrev H4(PA TA:Option Addr)(m pc tc b3 b4 cr ce b8 b9:Nat):List (Nat×Obj):=[(b3,.cells #[.slice PA m pc] 22),(b4,.cells #[.slice TA m tc] 23),(cr,.cells (S4 m) 42),(ce,.cells (SQ m) 32),(b8,.cells #[.slice (some ⟨cr,0,none⟩) m m] 30),(b9,.cells #[.slice (some ⟨ce,0,none⟩) m m] 49)]
abbrev H5(PA TA:Option Addr)(m pc tc b3 b4 cr ce b8 b9 cj co pj px:Nat):List (Nat×Obj):=[(b3,.cells #[.slice PA m pc] 22),(b4,.cells #[.slice TA m tc] 23),(cr,.cells (S4 m) 42),(ce,.cells (SQ m) 32),(b8,.cells #[.slice (some ⟨cr,0,none⟩) m m] 30),(b9,.cells #[.slice (some ⟨ce,0,none⟩) m m] 49),
 (cj,.chan 0 #[] false 0 0 false),(co,.chan 0 #[] false 0 0 false),(pj,.cells #[.chan (some cj)] 50),(px,.cells #[.chan (some co)] 51)]
section
variable{SB:lF}{w0:lE}{n0:Nat}{Sh:oQ}{X:Event->Prop}{Stop:qz}{cs:nX}{PA TA:lO}{m pc tc b3 b4:Nat}{wk:Int}
theorem JM.cell1{H:List (Nat×Obj)}(h:JM SB w0 n0 H M w){b:Nat}(hb:(b,Obj.cells #[v] t)∈H):w.cell? ⟨b,0,none⟩=some v/\M b:=by have⟨h1,h2,h3⟩:=h.own _ hb;exact⟨by simp[World.cell?,h3],h1⟩
theorem aua(hm:m<=50)(L:pe)(a:Act)(M:lF)(w:lE)(i:Nat)(rest:nN)(k:nA)(hi:i<qQ.size)(mI:¬On L i)(hd:∀d∈oR qQ i,On L d)(I:IM 70 qQ (T3 PA m pc) (GQ wk b3 b4) SB w0 n0 (H3 PA TA m pc tc b3 b4) L a M w)
  (next:∀a' M' w',IM 70 qQ (T3 PA m pc) (GQ wk b3 b4) SB w0 n0 (H3 PA TA m pc tc b3 b4) (L.setIfInBounds i true) a' M' w'->Own prog true (RK SB w0) Sh X Stop M' (G (bM.at a' (.inRegion qQ rest::k)) cs) w'):
  Own prog true (RK SB w0) Sh X Stop M (G (bM.at a (.inRegion qQ (i::rest)::k)) cs) w:=by
 have hT:zY 70 qQ (T3 PA m pc) (GQ wk b3 b4):=aiu rfl;have hn:=QE;have mr:=hi;rw[hn]at mr;have load:∀q,(qQ.getD q default).op=.load 22 (.tmp 3)->∀(b:Nat->Nat) (ρ:lB) (w1:lE),Dy qQ (T3 PA m pc) (GQ wk b3 b4) L b ρ n0 M w1->JM SB w0 n0 (H3 PA TA m pc tc b3 b4) M w1->
   (execOp (ev ρ)<|qQ.getD q default).run prog w1=.ok (.value<|.slice PA m pc) w1/\∀e∈(execOp (ev ρ)<|qQ.getD q default).events prog w1 #[],oc M (RK SB w0) e:=fun q ho b ρ w1 hx hJ=>by
  have⟨h1,h2⟩:=hJ.cell1 (b:=b3)<|gE ..;exact asv (a:=⟨b3,0,none⟩) ho ai hx.has.2.1 h1 h2
 have len:∀q x,(qQ.getD q default).op=.call {callee:=.builtin .len,args:= #[.tmp x],argTypes:= #[22]}->∀(ρ:lB) (w1:lE),ρ x=.slice PA m pc->
   (execOp (ev ρ)<|qQ.getD q default).run prog w1=.ok (.value<|lI m) w1/\∀e∈(execOp (ev ρ)<|qQ.getD q default).events prog w1 #[],oc M (RK SB w0) e:=fun q x ho ρ w1 hx=>by
  have:=aeA (P:=prog) (R:=RK SB w0) (w:=w1) (ρ:=ρ) (o:=qQ.getD q default) (ts:= #[]) ho rC hx;exact⟨this.1,fun e he=>asq<|this.2 e he⟩
 match i,mr with
 |0,_=>exact Qh hT tf I hi mI hd rfl rfl (fun b ρ w1 hx hJ=>load 0 au b ρ w1 hx hJ) fun a' I'=>next a' M w I'
 |1,_=>exact Qh hT tf I hi mI hd rfl rfl (fun b ρ w1 hx hJ=>len 1 35 au ρ w1<|hx.val 0 aa (hd 0<|fC.1 ai) rfl) fun a' I'=>next a' M w I'
 |2,_=>
  refine F9 hT tf I hi mI hd Z (fun b ρ w1 hx hJ hb=>?_) next
  have e1:ρ 36=lI m:=hx.val 1 aa (hd 1<|fC.1 ai) rfl;obtain⟨q,z,q1,q2,q3,q4,q5⟩:=aqm;have:=aeB (P:=prog) (w:=w1) (ρ:=ρ) (o:=qQ.getD 2 default) (n:=m) (t:=30) (x:=.tmp 36) (y:=.tmp 36) au e1 e1 zU q1 q2 aa aa;rw[q3,q4,<-hb]at this;exact this
 |3,_=>exact Qh hT tf I hi mI hd rfl rfl (fun b ρ w1 hx hJ=>load 3 au b ρ w1 hx hJ) fun a' I'=>next a' M w I'
 |4,_=>exact Qh hT tf I hi mI hd rfl rfl (fun b ρ w1 hx hJ=>len 4 38 au ρ w1<|hx.val 3 aa (hd 3<|fC.1 ai) rfl) fun a' I'=>next a' M w I'
 |5,_=>
  refine F9 hT tf I hi mI hd Z (fun b ρ w1 hx hJ hb=>?_) next
  have e1:ρ 39=lI m:=hx.val 4 aa (hd 4<|fC.1 ai) rfl;obtain⟨q,z,q1,q2,q3,q4,q5⟩:=aql;have:=aeB (P:=prog) (w:=w1) (ρ:=ρ) (o:=qQ.getD 5 default) (n:=m) (t:=49) (x:=.tmp 39) (y:=.tmp 39) au e1 e1 underlying49 q1 q2 aa aa;rw[q3,q4,<-hb]at this;exact this
 |6,_=>
  refine F9 hT tf I hi mI hd Z (fun b ρ w1 hx hJ hb=>?_) next
  have:=QM (P:=prog) (w:=w1) (ρ:=ρ) (o:=qQ.getD 6 default) (t:=30) (u:=.slice none 0 0) au ai;rw[<-hb]at this;exact this
 |7,_=>
  refine F9 hT tf I hi mI hd Z (fun b ρ w1 hx hJ hb=>?_) next
  have:=QM (P:=prog) (w:=w1) (ρ:=ρ) (o:=qQ.getD 7 default) (t:=49) (u:=.slice none 0 0) au ai;rw[<-hb]at this;exact this
 |8,_=>
  refine Qg hT tf I hi mI hd Z (fun b ρ w1 hx hJ=>?_) next
  have e8:ρ 8=lJ (b 6) 0:=hx.val 6 aa (hd 6<|fC.1 ai) rfl;have e2:ρ 37=me (b 2) 0 m m:=hx.val 2 aa (hd 2<|fC.1 ai) rfl;have hb:=(hx.blk 6 aa (hd 6<|fC.1 ai) rfl).2.2;rw[J6 8 rfl mI]at hb;exact⟨.slice none 0 0,_,_,Z,Z,Z,QP (P:=prog) (w:=w1) (ρ:=ρ) (o:=qQ.getD 8 default) (t:=30) (x:=.tmp 8) (y:=.tmp 37) au e8 e2 Z Z hb ai⟩
 |9,_=>
  refine Qg hT tf I hi mI hd Z (fun b ρ w1 hx hJ=>?_) next
  have e8:ρ 9=lJ (b 7) 0:=hx.val 7 aa (hd 7<|fC.1 ai) rfl;have e2:ρ 40=me (b 5) 0 m m:=hx.val 5 aa (hd 5<|fC.1 ai) rfl;have hb:=(hx.blk 7 aa (hd 7<|fC.1 ai) rfl).2.2;rw[J6 9 rfl mI]at hb;exact⟨.slice none 0 0,_,_,Z,Z,Z,QP (P:=prog) (w:=w1) (ρ:=ρ) (o:=qQ.getD 9 default) (t:=49) (x:=.tmp 9) (y:=.tmp 40) au e8 e2 Z Z hb ai⟩
 |_+10,h=>exact ll h aa
variable{cr ce b8 b9:Nat}
theorem aub(L:pe)(a:Act)(M:lF)(w:lE)(i:Nat)(rest:nN)(k:nA)(H:List (Nat×Obj))(hi:i<tG.size)(mI:¬On L i)(hd:∀d∈oR tG i,On L d)(I:IM 70 tG T4 (GR wk b3 b4 b8 b9) SB w0 n0 H L a M w)
  (next:∀a' M' w',IM 70 tG T4 (GR wk b3 b4 b8 b9) SB w0 n0 H (L.setIfInBounds i true) a' M' w'->Own prog true (RK SB w0) Sh X Stop M' (G (bM.at a' (.inRegion tG rest::k)) cs) w'):
  Own prog true (RK SB w0) Sh X Stop M (G (bM.at a (.inRegion tG (i::rest)::k)) cs) w:=by
 have hT:zY 70 tG T4 (GR wk b3 b4 b8 b9):=aiv rfl;have hn:=QG;have mr:=hi;rw[hn]at mr
 match i,mr with
 |0,_=>
  refine F9 hT tf I hi mI hd Z (fun b ρ w1 hx hJ hb=>?_) next
  obtain⟨i1,sk⟩:∃i,prog.info? 3=some i:=⟨_,rfl⟩
  have:=age (P:=prog) (ρ:=ρ) (o:=tG.getD 0 default) (w:=w1) (t:=50) au underlying50 sk;rw[<-hb]at this;exact this
 |1,_=>
  refine F9 hT tf I hi mI hd Z (fun b ρ w1 hx hJ hb=>?_) next
  obtain⟨i1,sk⟩:∃i,prog.info? 52=some i:=⟨_,rfl⟩
  have:=age (P:=prog) (ρ:=ρ) (o:=tG.getD 1 default) (w:=w1) (t:=51) au underlying51 sk;rw[<-hb]at this;exact this
 |2,_=>
  refine F9 hT tf I hi mI hd Z (fun b ρ w1 hx hJ hb=>?_) next
  have:=QM (P:=prog) (w:=w1) (ρ:=ρ) (o:=tG.getD 2 default) (t:=50) (u:=.chan none) au ai;rw[<-hb]at this;exact this
 |3,_=>
  refine F9 hT tf I hi mI hd Z (fun b ρ w1 hx hJ hb=>?_) next
  have:=QM (P:=prog) (w:=w1) (ρ:=ρ) (o:=tG.getD 3 default) (t:=51) (u:=.chan none) au ai;rw[<-hb]at this;exact this
 |4,_=>
  refine Qg hT tf I hi mI hd Z (fun b ρ w1 hx hJ=>?_) next
  have e8:ρ 10=lJ (b 2) 0:=hx.val 2 aa (hd 2<|fC.1 ai) rfl;have e2:ρ 41=.chan (some<|b 0):=hx.val 0 aa (hd 0<|fC.1 ai) rfl;have hb:=(hx.blk 2 aa (hd 2<|fC.1 ai) rfl).2.2;rw[J6 4 rfl mI]at hb;exact⟨.chan none,_,_,Z,Z,Z,QP (P:=prog) (w:=w1) (ρ:=ρ) (o:=tG.getD 4 default) (t:=50) (x:=.tmp 10) (y:=.tmp 41) au e8 e2 Z Z hb ai⟩
 |5,_=>
  refine Qg hT tf I hi mI hd Z (fun b ρ w1 hx hJ=>?_) next
  have e8:ρ 11=lJ (b 3) 0:=hx.val 3 aa (hd 3<|fC.1 ai) rfl;have e2:ρ 42=.chan (some<|b 1):=hx.val 1 aa (hd 1<|fC.1 ai) rfl;have hb:=(hx.blk 3 aa (hd 3<|fC.1 ai) rfl).2.2;rw[J6 5 rfl mI]at hb;exact⟨.chan none,_,_,Z,Z,Z,QP (P:=prog) (w:=w1) (ρ:=ρ) (o:=tG.getD 5 default) (t:=51) (x:=.tmp 11) (y:=.tmp 42) au e8 e2 Z Z hb ai⟩
 |_+6,h=>exact ll h aa
theorem asN(hm:m<=50)(hf:Fit 70 ρ a)(hH:lA ρ (GQ wk b3 b4))(hJ:JM SB w0 n0 (H3 PA TA m pc tc b3 b4) M w)
  (next:∀a M w ρ cr ce b8 b9,Fit 70 ρ a->lA ρ (GR wk b3 b4 b8 b9)->(n0<=cr/\n0<=ce/\n0<=b8/\n0<=b9)->(cr≠ce/\cr≠b8/\cr≠b9/\ce≠b8/\ce≠b9)->JM SB w0 w.heap.size (H4 PA TA m pc tc b3 b4 cr ce b8 b9) M w->Own prog true (RK SB w0) Sh X Stop M (G (bM.at a [.code wM]) cs) w):
  Own prog true (RK SB w0) Sh X Stop M (G (bM.at a [.code C7]) cs) w:=by
 rw[aq8];refine Own.move Z (fun w1=>kW) fun w1 hr=>adC (T:=T3 PA m pc) (by rfl) arH hf hH (hJ.rely hr) (fun L a M w i rest hi mI hd I nx=>aua (TA:=TA) (tc:=tc) hm L a M w i rest _ hi mI hd I nx) fun L a M w nG I=>?_;have⟨b,ρ,hf,hx⟩:=I.ex;have hJ:=I.j;have hn:=QE;have on:∀i,i<10->On L i:=fun i hi=>nG i aa;have⟨l2,m2,g2⟩:=hx.blk 2 aa (on 2 aa) rfl;have⟨l5,m5,g5⟩:=hx.blk 5 aa (on 5 aa) rfl;have⟨l6,m6,g6⟩:=hx.blk 6 aa (on 6 aa) rfl;have⟨l7,m7,g7⟩:=hx.blk 7 aa (on 7 aa) rfl;have off:¬On L 10:=fun h=>by unfold On at h;rw[ed,fg<|by rw[I.cl.n,hn];omega]at h;cases h
 rw[J6 10 rfl off]at g2 g5;rw[QK 8 rfl (on 8 aa)]at g6;rw[QK 9 rfl (on 9 aa)]at g7;have lt:∀{q o},w.heap[q]?=some o->q<w.heap.size:=fun h=>(eg.1 h).1;have ne:∀i j,i<10->j<10->k3 i->k3 j->i≠j->b i≠b j:=fun i j hi hj h1 h2 sX e=>sX<|hx.inj i j aa aa (on i hi) (on j hj) h1 h2 e;have s8:ρ 8=lJ (b 6) 0:=hx.val 6 aa (on 6 aa) rfl;have s9:ρ 9=lJ (b 7) 0:=hx.val 7 aa (on 7 aa) rfl;have⟨h1,h2,h3,_⟩:=hx.has;refine Own.move Z (fun w1=>iM) fun w1 hr=>Own.rely (next a M w ρ (b 2) (b 5) (b 6) (b 7) hf ⟨h1,h2,h3,s8,s9,trivial⟩ ⟨l2,l5,l6,l7⟩ ⟨ne 2 5 aa aa Z Z aa,ne 2 6 aa aa Z Z aa,ne 2 7 aa aa Z Z aa,ne 5 6 aa aa Z Z aa,ne 5 7 aa aa Z Z aa⟩ ⟨fun p hp=>?_,ku _,hJ.low,hJ.kept⟩) hr;simp only[jM,iD,ld]at hp;rcases hp with rfl|rfl|rfl|rfl|rfl|rfl
 .have⟨q1,q2,q3⟩:=hJ.own _<|gE ..;exact⟨q1,lt q3,q3⟩
 .have⟨q1,q2,q3⟩:=hJ.own _<|fT _<|gE ..;exact⟨q1,lt q3,q3⟩
 .exact⟨m2,lt g2,g2⟩
 .exact⟨m5,lt g5,g5⟩
 .exact⟨m6,lt g6,g6⟩
 exact⟨m7,lt g7,g7⟩
theorem asO(hf:Fit 70 ρ a)(hH:lA ρ (GR wk b3 b4 b8 b9))(hJ:JM SB w0 n0 (H4 PA TA m pc tc b3 b4 cr ce b8 b9) M w)
  (next:∀a M w ρ cj co pj px,Fit 70 ρ a->lA ρ ((10,lJ pj 0)::(11,lJ px 0)::GR wk b3 b4 b8 b9)->(n0<=cj/\n0<=co/\n0<=pj/\n0<=px)->(cj≠co/\cj≠pj/\cj≠px/\co≠pj/\co≠px)->JM SB w0 w.heap.size (H5 PA TA m pc tc b3 b4 cr ce b8 b9 cj co pj px) M w->Own prog true (RK SB w0) Sh X Stop M (G (bM.at a [.code xy]) cs) w):
  Own prog true (RK SB w0) Sh X Stop M (G (bM.at a [.code wM]) cs) w:=by
 rw[aq9];refine Own.move Z (fun w1=>kW) fun w1 hr=>adC (T:=T4) (by rfl) arI hf hH (hJ.rely hr) (fun L a M w i rest hi mI hd I nx=>aub L a M w i rest _ _ hi mI hd I nx) fun L a M w nG I=>?_;have⟨b,ρ,hf,hx⟩:=I.ex;have hJ:=I.j;have hn:=QG;have on:∀i,i<6->On L i:=fun i hi=>nG i aa;have⟨l2,m2,g2⟩:=hx.blk 0 aa (on 0 aa) rfl;have⟨l5,m5,g5⟩:=hx.blk 1 aa (on 1 aa) rfl;have⟨l6,m6,g6⟩:=hx.blk 2 aa (on 2 aa) rfl;have⟨l7,m7,g7⟩:=hx.blk 3 aa (on 3 aa) rfl;have off:¬On L 6:=fun h=>by unfold On at h;rw[ed,fg<|by rw[I.cl.n,hn];omega]at h;cases h
 rw[J6 6 rfl off]at g2 g5;rw[QK 4 rfl (on 4 aa)]at g6;rw[QK 5 rfl (on 5 aa)]at g7;have lt:∀{q o},w.heap[q]?=some o->q<w.heap.size:=fun h=>(eg.1 h).1;have ne:∀i j,i<6->j<6->k4 i->k4 j->i≠j->b i≠b j:=fun i j hi hj h1 h2 sX e=>sX<|hx.inj i j aa aa (on i hi) (on j hj) h1 h2 e;have s8:ρ 10=lJ (b 2) 0:=hx.val 2 aa (on 2 aa) rfl;have s9:ρ 11=lJ (b 3) 0:=hx.val 3 aa (on 3 aa) rfl;refine Own.move Z (fun w1=>iM) fun w1 hr=>Own.rely (next a M w ρ (b 0) (b 1) (b 2) (b 3) hf ⟨s8,s9,hx.has⟩ ⟨l2,l5,l6,l7⟩ ⟨ne 0 1 aa aa Z Z aa,ne 0 2 aa aa Z Z aa,ne 0 3 aa aa Z Z aa,ne 1 2 aa aa Z Z aa,ne 1 3 aa aa Z Z aa⟩ ⟨fun p hp=>?_,ku _,hJ.low,hJ.kept⟩) hr;rcases(jc (s:=H4 PA TA m pc tc b3 b4 cr ce b8 b9) (t:=[(b 0,.chan 0 #[] false 0 0 false),(b 1,.chan 0 #[] false 0 0 false),(b 2,.cells #[.chan (some<|b 0)] 50),(b 3,.cells #[.chan (some<|b 1)] 51)])).1 hp with hp|hp
 .have⟨q1,q2,q3⟩:=hJ.own _ hp;exact⟨q1,lt q3,q3⟩
 simp only[jM,iD,ld]at hp;rcases hp with rfl|rfl|rfl|rfl
 .exact⟨m2,lt g2,g2⟩
 .exact⟨m5,lt g5,g5⟩
 .exact⟨m6,lt g6,g6⟩
 exact⟨m7,lt g7,g7⟩
end
end
end
end Go.Proofs.YtfjcghhjlmfggaaGreatDoor
namespace Go.Proofs.YtfjcghhjlmfggaaGreatDoor
theorem av{p:Prop}(h:p:=by simp only[qQ,tG,wO,C7,xy,wM,tV,Tryz.f5,Option.getD_some];rfl):p:=h
theorem dj{p:Prop}(h:p:=by rw[Aj];rfl):p:=h
open Go.Proofs.Tryz
open Go Go.Conc Go.RowKit
variable{c n:Nat}{D:lF}{A:lO}{y:lH}{w:lE}
section
variable{F:nj}{U:Ren}{R D O:lF}{v w w1:lE}{g g':Nat}{t:lT}{cs:lW}{f:Nat×Nat}
theorem auf(aBm:(ry D O w.heap.size).Le U)(hW:nB F U R v w1)(hR:∀b,R b->b<w.heap.size)(hg:w.heap.size<=g)(h:U.to g=some g'):w.heap.size<=g'/\U.own g/\∃o o',v.heap[g]?=some o/\w1.heap[g']?=some o'/\tT F U o o':=by
 have sF:U.base=w.heap.size:=aBm.base;have oh:w.heap.size<=g':=iF fun lX=>by have:=U.low _ _ h<|.inr aa;omega
 have ho:U.own g:=eD fun mI=>by have⟨hr,_⟩:=hW.ro _ _ h mI;have:=hR _ hr;omega
 exact⟨oh,ho,hW.mine _ _ h ho⟩
theorem Xy(aBm:(ry D O w.heap.size).Le U)(hW:nB F U R v w1)(hR:∀b,R b->b<w.heap.size)(hg:w.heap.size<=g)(h:U.to g=some g')(hb:v.heap[g]?=some (.cells cs t f)):w.heap.size<=g'/\U.own g/\∃cs',w1.heap[g']?=some (.cells cs' t f)/\AR (VR F U) cs cs':=by
 have⟨h1,h2,o,o',q1,q2,q3⟩:=auf aBm hW hR hg h;rw[hb]at q1;cases q1;cases q3 with
 |cells e f UC=>exact⟨h1,h2,_,q2,UC⟩
theorem ahF{u:lH}(h:VR F U (lJ g 0) u):∃g',u=lJ g' 0/\U.to g=some g':=by
 cases h with
 |ptr ha=>rename_i a';obtain⟨b,o,s⟩:=a';obtain⟨h1,h2,h3⟩:=ha;dsimp only at h1 h2 h3;subst h2 h3;exact⟨b,Z,h1⟩
theorem ahE{x:lH}{cs':lW}(h:AR (VR F U) #[x] cs'):∃y,cs'= #[y]/\VR F U x y:=by
 obtain⟨h1,h2⟩:=h;obtain⟨l⟩:=cs'
 match l,h1 with
 |[a],_=>exact⟨a,rfl,h2 0 _ _ rfl rfl⟩
inductive AY:Value->Prop where
 |int (k:IntKind) (z:Int):AY (.int k z)|qI (l c:Nat):AY (.slice none l c)|nilIface:AY .nilIface
theorem AY.eq{x:lH}(hx:AY x)(h:VR F U x y):y=x:=by cases hx<;>cases h<;>rfl
end
theorem RM{F:nj}{U:Ren}{D O:lF}{b0:Nat}(aBm:(ry D O b0).Le U){A:lO}{n c:Nat}{y:lH}(hD:∀b,A.map (·.block)=some b->D b)(h:VR F U (.slice A n c) y):y=.slice A n c:=by
 cases A with
 |none=>exact(AY.qI _ _).eq h|some a=>
  cases h with
  |tn a=>rfl|slice _ _ ha=>rename_i a';obtain⟨h1,h2,h3⟩:=ha;have:=aBm.to _ _<|zE<|hD _ rfl;rw[h1]at this;have e:a'.block=a.block:=jl this;obtain⟨x1,x2,x3⟩:=a;obtain⟨y1,y2,y3⟩:=a';dsimp only at e h2 h3;rw[e,h2,h3]
theorem axp{F:nj}{U:Ren}{D O:lF}{b0:Nat}(aBm:(ry D O b0).Le U){A:lO}{n c:Nat}{y:lH}(hD:c≠0->∀b,A.map (·.block)=some b->D b)(h:VR F U (.slice A n c) y):∃A',y=.slice A' n c/\(c≠0->A'=A):=by
 by_cases hc:c=0
 .subst hc;cases h with
  |tn a=>exact⟨_,rfl,fun h=>ll rfl h⟩|qI=>exact⟨_,rfl,fun h=>ll rfl h⟩|slice _ _ ha=>exact⟨_,rfl,fun h=>ll rfl h⟩
 exact⟨A,RM aBm (hD hc) h,fun _=>Z⟩
theorem abJ(args:lW)(k:Nat):(fun i=>(args++Array.replicate k undef).getD i undef)=entry args:=by
 funext i;unfold entry;rw[ed,ed];by_cases h:i<args.size
 .rw[ef h]
 rw[Array.getElem?_append_right aa,fg (xs:=args) aa,eL];split<;>rfl
theorem E4{F:nj}{D:lF}{A:lO}{n c:Nat}(h:∀b,A.map (·.block)=some b->D b):VR F (pZ D 0) (.slice A n c) (.slice A n c):=by
 cases A with
 |none=>exact .qI _ _|some a=>exact .slice _ _ ⟨zE<|h _ rfl,rfl,rfl⟩
theorem NX{F:nj}{D:lF}{A:lO}{n c:Nat}(hn:n<=c)(h:c≠0->∀b,A.map (·.block)=some b->D b):VR F (pZ D 0) (.slice A n c) (.slice A n c):=by
 by_cases hc:c=0
 .subst hc;have e:n=0:=aa;subst e;cases A with
  |none=>exact .qI _ _|some a=>exact .tn a
 exact E4<|h hc
structure uR(SB:lF)(w:lE)(x:Nat->mA)(tape:Nat->Value)(D:lF)(PA TA:lO)(m pc tc:Nat):Prop where
 kn:IC 0 m x tape D w
 sb:∀b,SB b->b<w.heap.size/\¬D b
 pa:pc≠0->∀b,PA.map (·.block)=some b->D b
 mp:m<=pc
 ta:∀b,TA.map (·.block)=some b->D b
 pl:0<m->∃Ap,PA=some ⟨Ap,0,none⟩/\∀k,k<m->∀(i:Nat) u,(x k).AJ[i]?=some u->w.cell? ⟨Ap,8*k+i,none⟩=some u
 tp:0<m->∃At ao,TA=some ⟨At,ao,none⟩/\∀k,k<m->w.cell? ⟨At,ao+k,none⟩=some (tape k)
 JN:m<=50
section
variable{SB:lF}{w w1:lE}{x:Nat->mA}{tape:Nat->Value}{D:lF}{PA TA:lO}{m pc tc:Nat}
theorem uR.lt(C:uR SB w x tape D PA TA m pc tc){b:Nat}(h:D b):RK SB w b:=by have⟨cs,e,f,hh⟩:=C.kn.row b h;exact⟨(eg.1 hh).1,fun hs=>(C.sb b hs).2 h⟩
theorem uR.kept{SB':lF}(C:uR SB w x tape D PA TA m pc tc)(h:lD SB w w1)(hs:∀b,SB' b->SB b\/(w.heap.size<=b/\b<w1.heap.size)):uR SB' w1 x tape D PA TA m pc tc:=by
 have e:∀b,D b->w1.heap[b]?=w.heap[b]?:=fun b hb=>h.blk b (C.lt hb).1 (C.lt hb).2;refine⟨C.kn.keep h.size e,fun b hb=>?_,C.pa,C.mp,C.ta,fun hm=>?_,fun hm=>?_,C.JN⟩
 .rcases hs b hb with hb|⟨h1,h2⟩
  .exact⟨gK (C.sb b hb).1 h.size,(C.sb b hb).2⟩
  exact⟨h2,fun hd=>by have:=(C.lt hd).1;omega⟩
 .obtain⟨Ap,rfl,hp⟩:=C.pl hm;exact⟨Ap,Z,fun k hk i u hu=>(yx<|e Ap<|C.pa (by have:=C.mp;omega) _ Z).trans<|hp k hk i u hu⟩
 obtain⟨At,ao,rfl,hp⟩:=C.tp hm;exact⟨At,ao,Z,fun k hk=>(yx<|e At<|C.ta _ Z).trans<|hp k hk⟩
theorem uR.swap{vY:lO}(C:uR SB w x tape D PA TA m pc tc)(h:pc≠0->vY=PA):uR SB w x tape D vY TA m pc tc:=by
 by_cases hc:pc=0
 .have:=C.mp;exact⟨C.kn,C.sb,fun h=>ll hc h,C.mp,C.ta,fun hm=>aa,C.tp,C.JN⟩
 rw[h hc];exact C
end
structure KV(SB:lF)(w0:lE)(wk:Int)(PA TA:lO)(m pc tc:Nat)(M:lF)(w:lE)(T:lW)(b3 b4 cr ce b8 b9 cj co pj px n1 n2 n3:Nat):Prop where
 size:T.size=70
 has:lA (fun i=>T.getD i undef) ((10,.pointer<|some ⟨pj,0,none⟩)::(11,.pointer<|some ⟨px,0,none⟩)::GR wk b3 b4 b8 b9)
 j:JM SB w0 n3 (H5 PA TA m pc tc b3 b4 cr ce b8 b9 cj co pj px) M w
 lo:b3<n1/\b4<n1
 m1:n1<=cr/\n1<=ce/\n1<=b8/\n1<=b9
 m2:cr<n2/\ce<n2/\b8<n2/\b9<n2
 hi:n2<=cj/\n2<=co/\n2<=pj/\n2<=px
 J1:cr≠ce/\cr≠b8/\cr≠b9/\ce≠b8/\ce≠b9
 QI:cj≠co/\cj≠pj/\cj≠px/\co≠pj/\co≠px
def ZP(SB:lF)(w0:lE)(wk:Int)(PA TA:lO)(m pc tc:Nat)(cs:nX)(M:lF)(g:lZ)(w:lE):Prop:=∃T b3 b4 cr ce b8 b9 cj co pj px n1 n2 n3,g=G (bM.at ⟨T,[]⟩ (.inRegion wO [0]::[.code uc])) cs/\KV SB w0 wk PA TA m pc tc M w T b3 b4 cr ce b8 b9 cj co pj px n1 n2 n3
def ZQ(SB:lF)(w0:lE)(wk:Int)(PA TA:lO)(m pc tc:Nat)(cs:nX)(M:lF)(g:lZ)(w:lE):Prop:=∃vY,(pc≠0->vY=PA)/\ZP SB w0 wk vY TA m pc tc cs M g w
section
variable{SB:lF}{w:lE}{x:Nat->mA}{tape:Nat->Value}{D:lF}{PA TA:lO}{m pc tc:Nat}{wk:Int}{c0:Frame}{cs0:nX}
theorem asM(C:uR SB w x tape D PA TA m pc tc)(AD:1<=wk)(xr:wk<=16){T:lW}(hT:T.size=Tryz.f5.ntmps)
  (Ma:(fun i=>T.getD i undef)=entry #[.slice PA m pc,.slice TA m tc,Y wk]) (BE:∀u∈T,VR (SF nE) (pZ D 0) u u):
  Own prog true (RK SB w) (fun _=>True) (fun _=>False) (ZQ SB w wk PA TA m pc tc cs0) none_ (G (fm 5 T [.code tV]) cs0) w:=by
 have hC:Closed (RK SB w) w D:=⟨fun k hk=>C.lt hk,fun k hk=>C.kn.row k hk⟩
 have hR:∀b,RK SB w b->b<w.heap.size:=fun b h=>h.1;refine aeO (KR:=fun f' T' v=>False)
  (KO:=fun f' T' v=>f'=5/\T'.size=Tryz.f5.ntmps/\∃t b3 b4,lA (fun i=>T'.getD i undef) (GQ wk b3 b4)/\ly NF (sJ (SF nE) D (fun _=>False)<|w.tp t) v [B b4 23 #[.slice TA m tc],B b3 22 #[.slice PA m pc]])
  (r0:=C7) (x0:=Kb) (D:=D) (O:=fun _=>False) (fun w1=>lD SB w w1) (fun M w1 w2 r h=>h.rely r) (fun M' w1 w2 hM s h=>h.Ij (fun b hb=>(hM b hb).elim (fun h=>h.elim) id) s) (lD.refl _ _)
  Lv func5 gr5 C.kn.BA (fun g hg=>C.kn.fa.xQ g<|by simpa[nE]using hg) hC.o (T0:=T) (AR.self BE) ?_ ?_ ?_
 .have h2:=Uz (R:=fun _ _=>False) (KO:=fun ρ v=>∃t b3 b4,lA ρ (GQ wk b3 b4)/\ly NF (sJ (SF nE) D (fun _=>False)<|w.tp t) v [B b4 23 #[.slice TA m tc],B b3 22 #[.slice PA m pc]]) (f:=5) (c:=Kb) (T:=T) (v:=sJ (SF nE) D (fun _=>False) w) func5 hT<|fun t=>?_
  .intro t ht;have⟨n,m',w',h3,h4⟩:=h2 t ht;refine⟨n,m',w',h3,h4.imp (fun h=>?_) id⟩;obtain⟨q1,q2,fn,u,_,_,hf⟩:=h;exact hf.elim
  rw[Ma];refine Lc (atc (w0:=wL (SF nE) D<|w.tp t) (A:=PA) (B':=TA) (pc:=pc) (tc:=tc) C.JN AD xr) fun e ρ v h=>?_;cases e with
  |normal=>exact⟨t,h⟩|ret=>exact h|_=>exact h
 .rintro U f t t' pR v w1 M' aBm ht hf hK hW qc xS uI hJ;exact(hK v.tape fun _ _=>Z).elim
 rintro U f t t' v w1 M' aBm ht ⟨rfl,D9,tp,b3,b4,⟨s2,s3,s4, -⟩,hI⟩ hW qc xS uI hJ;have Gy:VR (SF nE) U undef undef:=.undef;have g2:=ht.getD 2 Gy;have g3:=ht.getD 3 Gy;have g4:=ht.getD 4 Gy;dsimp only at s2 s3 s4;rw[s2]at g2;rw[s3]at g3;rw[s4]at g4;have g2:=AY.eq (.int _ _) g2;have⟨Sy,g3,r3⟩:=ahF g3;have⟨Sz,g4,r4⟩:=ahF g4;have MU:(sJ (SF nE) D (fun _=>False)<|w.tp tp).heap.size=w.heap.size:=M7 (w:=w.tp tp);have n3:w.heap.size<=b3:=by have:=(hI.own _ (fT _<|gE ..) b3 rfl).resolve_left id;omega
 have n4:w.heap.size<=b4:=by have:=(hI.own _ (gE ..) b4 rfl).resolve_left id;omega
 have⟨q3,o3,c3,k3,a3⟩:=Xy aBm hW hR n3 r3 (hI.ok _<|fT _<|gE ..).1;have⟨q4,o4,c4,k4,a4⟩:=Xy aBm hW hR n4 r4 (hI.ok _<|gE ..).1;obtain⟨u3,rfl,d3⟩:=ahE a3;obtain⟨u4,rfl,d4⟩:=ahE a4;have⟨vY,d3,UK⟩:=axp aBm C.pa d3;have d4:=RM aBm C.ta d4;subst d3;subst d4;have oV:∀b,M' b->w.heap.size<=b:=fun b hb=>(uI b hb).elim (fun h=>h.elim) id
 have hJM:JM SB w w1.heap.size (H3 vY TA m pc tc Sy Sz) M' w1:=⟨fun p hp=>by
  simp only[jM,iD,ld]at hp;rcases hp with rfl|rfl
  .exact⟨qc _ _ r3 o3,(eg.1 k3).1,k3⟩
  exact⟨qc _ _ r4 o4,(eg.1 k4).1,k4⟩,ku _,oV,hJ⟩
 have hs:t'.size=70:=by rw[<-ht.1,D9,XD]
 have l1:Sy<w1.heap.size/\Sz<w1.heap.size:=⟨(eg.1 k3).1,(eg.1 k4).1⟩
 refine asN C.JN (I3 hs) ⟨g2,g3,g4,trivial⟩ hJM fun a M w2 ρ cr ce b8 b9 hf hH l2 J1 uH=>?_;have l3:cr<w2.heap.size/\ce<w2.heap.size/\b8<w2.heap.size/\b9<w2.heap.size:=⟨(uH.own _<|mZ (i:=2) rfl).2.1,(uH.own _<|mZ (i:=3) rfl).2.1,(uH.own _<|mZ (i:=4) rfl).2.1,(uH.own _<|mZ (i:=5) rfl).2.1⟩
 refine asO hf hH uH fun a M w3 ρ cj co pj px hf hH l4 QI hJ3=>?_;rw[ara];refine Own.move Z (fun w1=>kW) fun w4 hr=>Own.rely (Own.move Z (fun w1=>ko) fun w5 hr=>Own.rely (.stop fun w6 r6=>?_) hr) hr;have hl:List.range wO.size=[0]:=av;rw[hl];have ha:=Ox hf;refine⟨vY,UK,a.tmps,Sy,Sz,cr,ce,b8,b9,cj,co,pj,px,w1.heap.size,w2.heap.size,w3.heap.size,?_,⟨hf.size,?_,hJ3.rely r6,l1,l2,l3,l4,J1,QI⟩⟩
 .show G (bM.at a _) _=_;rw[ha]
 rw[hf.env];exact hH
noncomputable abbrev K3(args:lW)(cs:nX):Goroutine:=G ((base 5).at {tmps:=args++Array.replicate (Tryz.f5.ntmps-args.size) undef,defers:=[]} [.code tV]) cs
theorem asJ(C:uR SB w x tape D PA TA m pc tc)(AD:1<=wk)(xr:wk<=16):
  Own prog true (RK SB w) (fun _=>True) (fun _=>False) (ZQ SB w wk PA TA m pc tc cs0) none_ (K3 #[.slice PA m pc,.slice TA m tc,Y wk] cs0) w:=by
 refine asM C AD xr ?_ (abJ _ _) fun u hu=>?_
 .rw[XD];simp
 rcases ig.1 hu with h|h
 .simp only[iB,jM,iD,ld]at h;rcases h with rfl|rfl|rfl
  .exact NX C.mp C.pa
  .exact E4 C.ta
  exact .int _ _
 rw[(gf.1 h).2];exact VR.undef
end
open Go Go.Conc Go.RowKit
open Go.ConcR (WgAt DC0)
open Go.ConcN (sumTo)
theorem au4(SB:lF)(Wg:Nat):(fun l=>(∃a:Addr,l=Go.Loc.cell a/\SB a.block)\/∃ad:Addr,l=.cell ad/\ad.block=Wg)=xB (fun b=>SB b\/b=Wg):=by
 funext l;apply propext;constructor
 .rintro(⟨a,h1,h2⟩|⟨a,h1,h2⟩)
  .exact⟨a,h1,.inl h2⟩
  exact⟨a,h1,.inr h2⟩
 rintro⟨a,h1,h2|h2⟩
 .exact .inl ⟨a,h1,h2⟩
 exact .inr ⟨a,h1,h2⟩
theorem abm{Bb:Go.Loc->Prop}{B:Nat}:∀w w' es,DC0 w w' es->∀e∈es,EvL Bb B e:=fun w w' es h e he=>by rw[h.2]at he;simp at he
noncomputable def Zf:Value:=((prog.info? 61).bind (·.zero)).getD undef
theorem axz:(prog.info? 61).bind (·.zero)=some Zf:=by
 unfold Zf;cases h:(prog.info? 61).bind (·.zero)with
 |some z=>rfl|none=>exact ll (show((prog.info? 61).bind (·.zero)).isSome=true by kernel_rfl) (by rw[h];simp)
theorem axy:Zf.cells= #[.int .u64 0,.int .u32 0]:=ai
theorem arJ(a:Act)(w:lE)(cs:nX):stepG prog true (G (bM.at a (.inRegion wO [0]::[.code uc])) cs) w=.go (G (bM.at (a.put (some 12) (lJ w.heap.size 0)) (.inRegion wO []::[.code uc])) cs) (w.alloc (.cells #[.int .u64 0,.int .u32 0] 61)) #[]:=by
 have ho:(wO.getD 0 default).op=.alloc 61:=av;have he:a.eval=ev (fun i=>a.tmps.getD i undef):=by funext x;cases x<;>rfl
 have hr:=YA (P:=prog) (ρ:=fun i=>a.tmps.getD i undef) (w:=w) ho axz;have hl:=abo (P:=prog) (ρ:=fun i=>a.tmps.getD i undef) (w:=w) ho;rw[<-he]at hr hl;rw[axy]at hr;have:=stepG_value (P:=prog) (main:=true) (b:=bM) (a:=a) (cs:=cs) (k:=[.code uc]) (ops:=wO) (i:=0) (rest:=[]) (o:=wO.getD 0 default) av av tf hr;have hd:(wO.getD 0 default).dst=some 12:=av;rw[hd,listed_none hl]at this;exact this
def lM(Wg:Nat)(x:Nat->mA)(tape:Nat->Value)(D:lF)(PA TA:lO)(m pc tc b3 b4 cr ce b8 b9 cj co pj px:Nat):LM where
 Wg:=Wg
 Ch:=cj
 Ov:=co
 Bj:=pj
 Bo:=px
 Bp:=b3
 Bt:=b4
 Br:=b8
 Be:=b9
 Cr:=cr
 Ce:=ce
 Ap:=(PA.map (·.block)).getD 0
 pc:=pc
 At:=(TA.map (·.block)).getD 0
 ao:=(TA.map (·.off)).getD 0
 tc:=tc
 m:=m
 AI k:=(x k).AJ
 tape:=tape
 Kn:=IC (Wg+1) m x tape D
section
variable{SB M:lF}{w0 w w1:lE}{x:Nat->mA}{tape:Nat->Value}{D:lF}{PA TA:lO}{m pc tc:Nat}{wk:Int}{T:lW}{b3 b4 cr ce b8 b9 cj co pj px n1 n2 n3:Nat}{cs:nX}
theorem Xm{Wg:Nat}:IG (lM Wg x tape D PA TA m pc tc b3 b4 cr ce b8 b9 cj co pj px) x (Wg+1) D:=⟨fun _=>rfl,rfl⟩
theorem KV.blk(h:KV SB w0 wk PA TA m pc tc M w T b3 b4 cr ce b8 b9 cj co pj px n1 n2 n3)(hM:∀k,M k->k<w.heap.size/\¬SB k){b:Nat}(hb:b=b3\/b=b4\/b=cr\/b=ce\/b=b8\/b=b9\/b=cj\/b=co\/b=pj\/b=px):w0.heap.size<=b/\b<n3/\b<w.heap.size/\¬SB b:=by
 have key:∀(i:Nat) (p:Nat×Obj),(H5 PA TA m pc tc b3 b4 cr ce b8 b9 cj co pj px)[i]?=some p->w0.heap.size<=p.1/\p.1<n3/\p.1<w.heap.size/\¬SB p.1:=fun i p hp=>by have⟨q1,q2,q3⟩:=h.j.own _<|mZ hp;exact⟨h.j.low _ q1,q2,(hM _ q1).1,(hM _ q1).2⟩
 rcases hb with rfl|rfl|rfl|rfl|rfl|rfl|rfl|rfl|rfl|rfl
 .exact key 0 _ Z
 .exact key 1 _ Z
 .exact key 2 _ Z
 .exact key 3 _ Z
 .exact key 4 _ Z
 .exact key 5 _ Z
 .exact key 6 _ Z
 .exact key 7 _ Z
 .exact key 8 _ Z
 exact key 9 _ Z
theorem Su(C:uR SB w0 x tape D PA TA m pc tc)(h:KV SB w0 wk PA TA m pc tc M w T b3 b4 cr ce b8 b9 cj co pj px n1 n2 n3)(hM:∀k,M k->k<w.heap.size/\¬SB k):GH (lM w.heap.size x tape D PA TA m pc tc b3 b4 cr ce b8 b9 cj co pj px) (w.heap.size+1) SB D:=by
 have B:=fun {b} hb=>h.blk hM (b:=b) hb;have hk:=h.j.kept.size;have a3:=B (b:=b3) aq;have a4:=B (b:=b4) aq;have ar:=B (b:=cr) aq;have ae:=B (b:=ce) aq;have a8:=B (b:=b8) aq;have a9:=B (b:=b9) aq;have aj:=B (b:=cj) aq;have ao:=B (b:=co) aq;have Sm:=B (b:=pj) aq;have Sn:=B (b:=px) aq;have lo:=h.lo;have m1:=h.m1;have m2:=h.m2;have hi:=h.hi;have J1:=h.J1;have QI:=h.QI;refine⟨iH _,?_,?_,?_,?_,?_,?_,?_,?_,?_,fun b hb=>?_,fun b hb=>?_⟩
 .show cj<_;omega
 .show co<_;omega
 .show cr<_;omega
 .show ce<_;omega
 .show w.heap.size≠cj;omega
 .show w.heap.size≠co;omega
 .show cj≠co;omega
 .show cr≠w.heap.size/\cr≠cj/\cr≠co/\cr≠ce;omega
 .show ce≠w.heap.size/\ce≠cj/\ce≠co;omega
 .have:=(C.sb b hb).1;show b<w.heap.size+1/\b≠w.heap.size/\b≠cj/\b≠co/\b≠cr/\b≠ce;omega
 show b<w.heap.size+1/\b≠w.heap.size/\b≠cj/\b≠co/\b≠cr/\b≠ce/\¬SB b;have old:D b->b<w.heap.size+1/\b≠w.heap.size/\b≠cj/\b≠co/\b≠cr/\b≠ce/\¬SB b:=fun hd=>by have:=C.lt hd;exact⟨by have:=this.1;omega,by have:=this.1;omega,by have:=this.1;omega,by have:=this.1;omega,by have:=this.1;omega,by have:=this.1;omega,this.2⟩
 have hb:b=pj\/b=px\/b=b3\/b=b4\/b=b8\/b=b9\/(0<m/\(b=(PA.map (·.block)).getD 0\/b=(TA.map (·.block)).getD 0))\/D b:=hb;rcases hb with rfl|rfl|rfl|rfl|rfl|rfl|⟨hm,rfl|rfl⟩|hb
 .exact⟨aa,aa,aa,aa,aa,aa,Sm.2.2.2⟩
 .exact⟨aa,aa,aa,aa,aa,aa,Sn.2.2.2⟩
 .exact⟨aa,aa,aa,aa,aa,aa,a3.2.2.2⟩
 .exact⟨aa,aa,aa,aa,aa,aa,a4.2.2.2⟩
 .exact⟨aa,aa,aa,aa,aa,aa,a8.2.2.2⟩
 .exact⟨aa,aa,aa,aa,aa,aa,a9.2.2.2⟩
 .obtain⟨Ap,rfl,_⟩:=C.pl hm;exact old<|C.pa (by have:=C.mp;omega) _ Z
 .obtain⟨At,ao,rfl,_⟩:=C.tp hm;exact old<|C.ta _ Z
 exact old hb
theorem aq3(C:uR SB w1 x tape D PA TA m pc tc){n0:Nat}(hJ:JM SB w0 n0 (H5 PA TA m pc tc b3 b4 cr ce b8 b9 cj co pj px) M w1){Wg:Nat}(hs:Wg+1<=w1.heap.size):oF (lM Wg x tape D PA TA m pc tc b3 b4 cr ce b8 b9 cj co pj px) w1:=by
 have c1:∀i b v t,(H5 PA TA m pc tc b3 b4 cr ce b8 b9 cj co pj px)[i]?=some (b,Obj.cells #[v] t)->w1.cell? ⟨b,0,none⟩=some v:=fun i b v t h=>(hJ.cell1<|mZ h).1;refine⟨c1 8 _ _ _ Z,c1 9 _ _ _ Z,fun hm=>?_,fun hm=>?_,fun hm=>c1 4 _ _ _ Z,fun hm=>c1 5 _ _ _ Z,fun k hk i u hu=>?_,fun k hk=>?_,⟨C.kn.row,C.kn.BA,hs,C.kn.fa,C.kn.gen,C.kn.tape⟩⟩
 .obtain⟨Ap,rfl,_⟩:=C.pl hm;exact c1 0 _ _ _ Z
 .obtain⟨At,ao,rfl,_⟩:=C.tp hm;exact c1 1 _ _ _ Z
 .have hk:k<m:=hk;obtain⟨Ap,rfl,hp⟩:=C.pl aa;exact hp k hk i u hu
 have hk:k<m:=hk;obtain⟨At,ao,rfl,hp⟩:=C.tp aa;exact hp k hk
structure Zu(SB:lF)(w0:lE)(x:Nat->mA)(m Wg cr ce b8 b9:Nat)(w:lE):Prop where
 rb:∃t,w.heap[b8]?=some (.cells #[.slice (some ⟨cr,0,none⟩) m m] t)
 eb:∃t,w.heap[b9]?=some (.cells #[.slice (some ⟨ce,0,none⟩) m m] t)
 crb:∃cs e,w.heap[cr]?=some (.cells cs e (0,0))
 ceb:∃cs e,w.heap[ce]?=some (.cells cs e (0,0))
 res:∀k,k<m->∃rv ev o,rR (x k) o/\uC (fun b=>w0.heap.size<=b/\b<w.heap.size/\b≠Wg) w (x k).title rv ev o/\(∀(i:Nat) u,rv[i]?=some u->w.cell? ⟨cr,5*k+i,none⟩=some u)/\w.cell? ⟨ce,k,none⟩=some ev
 mem:∀b,b=cr\/b=ce\/b=b8\/b=b9->w0.heap.size<=b/\b<w.heap.size/\b≠Wg
 wg:w0.heap.size<=Wg/\Wg<w.heap.size
 kept:lD SB w0 w
def aij(SB:lF)(w0:lE)(x:Nat->mA)(m:Nat)(cs:nX)(SB':lF)(g:lZ)(w:lE):Prop:=∃T Wg cr ce b8 b9,g=GM T cs/\T.size=70/\T[8]?=some (.pointer<|some ⟨b8,0,none⟩)/\T[9]?=some (.pointer<|some ⟨b9,0,none⟩)/\SB'=(fun b=>SB b\/b=Wg)/\Zu SB w0 x m Wg cr ce b8 b9 w
theorem ajv{c:mg}{l:LM}(hP:c.P=prog)(k:oP c l)(hS:c.Sh w)(hK:oF l w):c.WO (GL c l) (born prog l.call) w:=by unfold mg.WO;rw[hP];exact QS (E:=oc none_ c.A.R) (fun e h M=>.inl<|AG h) (fun M w w1 h=>mg.Dh h) (aw8 hP k w hK) hS
theorem stM{l:LM}{B0 z0 N T0:Nat}{D:lF}(K:(zm l x B0 z0 N T0 SB cs).Ok)(k:oP (Kc l x B0 z0 N T0 SB) l)(hm:l.m<=50):Cw (zm l x B0 z0 N T0 SB cs) l cs:=⟨K.toOk0,rfl,rfl,rfl,rfl,rfl,rfl,by show l.m<9223372036854775807;omega,k.rp,k.rj,k.ro,fun w hc=>hc.2.2.1,fun w hc=>hc.2.2.2,fun w BD=>K.head _ _ BD<|ajv rfl k BD BD.2.2.2.2.2.1,fun T g w hT hw=>⟨T,hT,hw⟩⟩
theorem avf{z0 N T0:Nat}{uz:Nat}(C:uR SB w0 x tape D PA TA m pc tc)(h:KV SB w0 (uz:Int) PA TA m pc tc M w T b3 b4 cr ce b8 b9 cj co pj px n1 n2 n3)(hM:∀k,M k->k<w.heap.size/\¬SB k)(hN:N<2147483648)(hz:z0<N)(BU:uz<=64)
  (hS:(zm (lM w.heap.size x tape D PA TA m pc tc b3 b4 cr ce b8 b9 cj co pj px) x (w.heap.size+1) z0 N T0 SB cs).Sh w1):
  (zm (lM w.heap.size x tape D PA TA m pc tc b3 b4 cr ce b8 b9 cj co pj px) x (w.heap.size+1) z0 N T0 SB cs).Spawns uz (G (bM.at ((⟨T,[]⟩:Act).put (some 12)<|lJ w.heap.size 0) (.inRegion wO []::[.code uc])) cs) w1:=by
 have K:=aaA (z0:=z0) (N:=N) (T0:=T0) (cs:=cs) (Su C h hM) Xm hN hz;have H:=stM (D:=D) K (Na (Su C h hM) Xm) C.JN;rw[mg.agC];have hf:=(I3 h.size).put (d:=12) aa<|lJ w.heap.size 0;obtain⟨s10,s11,s2,s3,s4,s8,s9, -⟩:=h.has;exact nL (ρ:=upd (fun i=>T.getD i undef) 12<|lJ w.heap.size 0) mT (fun a w=>iM) (awG (wk:=uz) H BU ⟨s2,s3,s4,s8,s9,s10,s11,Z,trivial⟩) _ w1 hf hS
theorem as1{g:lZ}{z:Nat}{uz:Nat}(C:uR SB w0 x tape D PA TA m pc tc)(h5:ZP SB w0 (uz:Int) PA TA m pc tc cs M g w)(hM:∀k,M k->k<w.heap.size/\¬SB k)(C6:0<z)(pF:z<=1000)(AD:1<=uz)(xr:uz<=64):
  tQ prog SB z (z+uz) g w (aij SB w0 x m cs):=by
 obtain⟨T,b3,b4,cr,ce,b8,b9,cj,co,pj,px,n1,n2,n3,rfl,h⟩:=h5;obtain⟨z0,rfl⟩:∃z0,z=z0+1:=⟨z-1,aa⟩
 intro gs sl t q hz h0 hL hP;have⟨N1,He,d,sl1,t1,q1,wI,pF,LU,vy,hP1⟩:=quiet (P:=prog) (S:=xB SB) (B:=w.heap.size) (w:=w) (a:=G (bM.at ⟨T,[]⟩ (.inRegion wO [0]::[.code uc])) cs) rfl
  (fun w'=>(G (bM.at ((⟨T,[]⟩:Act).put (some 12)<|lJ w'.heap.size 0) (.inRegion wO []::[.code uc])) cs,w'.alloc<|.cells #[.int .u64 0,.int .u32 0] 61)) (fun d=>arJ _ _ _) gs sl t q hz h0 hL hP
 dsimp only at wI LU;have oU:((w.at d).alloc<|.cells #[.int .u64 0,.int .u32 0] 61).heap[w.heap.size]?=some (.cells #[.int .u64 0,.int .u32 0] 61):=Z2 (w.at d) _;have Jx:((w.at d).alloc<|.cells #[.int .u64 0,.int .u32 0] 61).heap.size=w.heap.size+1:=Z3 (w.at d) _;have WM:nJ (fun _=>False) w ((w.at d).alloc<|.cells #[.int .u64 0,.int .u32 0] 61):=by have⟨a1,a2,a3,a4,a5⟩:=Ku (fun _=>False) (w.at d)<|.cells #[.int .u64 0,.int .u32 0] 61;exact⟨a1,a2,a3,a4,a5⟩
 have LU:He[0]?=some (G (bM.at ((⟨T,[]⟩:Act).put (some 12)<|lJ w.heap.size 0) (.inRegion wO []::[.code uc])) cs):=LU;generalize (w.at d).alloc (.cells #[.int .u64 0,.int .u32 0] 61)=w1 at wI oU Jx WM;have hold:∀b,b<w.heap.size->w1.heap[b]?=w.heap[b]?:=fun b hb=>WM.rest b id hb;have BC:lD SB w0 w1:=h.j.kept.Ij (fun _ h=>h.elim) WM;have C1:uR SB w1 x tape D PA TA m pc tc:=C.kept BC<|fun b hb=>.inl hb;have sT:JM SB w0 n3 (H5 PA TA m pc tc b3 b4 cr ce b8 b9 cj co pj px) M w1:=⟨fun p hp=>⟨(h.j.own p hp).1,(h.j.own p hp).2.1,(hold _ (hM _ (h.j.own p hp).1).1).trans (h.j.own p hp).2.2⟩,by have:=h.j.n0;omega,h.j.low,BC⟩
 have EE:∀(i:Nat) (p:Nat×Obj),(H5 PA TA m pc tc b3 b4 cr ce b8 b9 cj co pj px)[i]?=some p->w1.heap[p.1]?=some p.2:=fun i p hp=>(sT.own _<|mZ hp).2.2;obtain⟨c7,Aj⟩:∃c7,c7=zm (lM w.heap.size x tape D PA TA m pc tc b3 b4 cr ce b8 b9 cj co pj px) x (w.heap.size+1) z0 (z0+uz) t1.size SB cs:=⟨_,rfl⟩
 have K:=aaA (z0:=z0) (N:=z0+uz) (T0:=t1.size) (cs:=cs) (Su C h hM) Xm aa aa;have wy:c7.tv w1:=by rw[Aj];exact⟨⟨_,_,EE 2 _ Z,by rw[show((5:Nat)*(lM w.heap.size x tape D PA TA m pc tc b3 b4 cr ce b8 b9 cj co pj px).m)=m*5 from j7 _ _];exact size_madeCells _ _⟩,⟨_,_,EE 3 _ rfl,(size_madeCells _ _).trans<|kv _⟩,aq3 C1 sT aa,PA,pc,(sT.cell1<|mZ (i:=0) rfl).1⟩
 have rq:WgAt c7.ty c7.A.Wg w1 0 0:=by rw[Aj];exact oU
 have pM:∃s r tm,w1.heap[c7.A.Ch]?=some (.chan 0 #[] false s r tm):=by rw[Aj];exact⟨_,_,_,EE 6 _ rfl⟩
 have sH:∃s r tm,w1.heap[c7.A.Ov]?=some (.chan 0 #[] false s r tm):=by rw[Aj];exact⟨_,_,_,EE 7 _ rfl⟩
 have BD:c7.Sh w1:=⟨⟨_,_,rq⟩,pM,(let⟨s,r,tm,hh⟩:=sH;⟨false,s,r,tm,hh⟩),wy⟩
 have hs:=avf (z0:=z0) (N:=z0+uz) (T0:=t1.size) (cs:=cs) C h hM aa aa xr (w1:=w1) (by rw[<-Aj];exact BD);rw[<-Aj]at K hs;have e1:c7.A.z0=z0:=dj;have e2:c7.N=z0+uz:=dj;have e3:c7.A.T0=t1.size:=dj;have e4:c7.A.Wg=w.heap.size:=dj;have e5:c7.A.B0=w.heap.size+1:=dj;have e6:c7.A.Bb=xB SB:=dj;have e7:c7.P=prog:=dj;obtain⟨n2',m2,t2,ua,UB,w2,YJ,a2,q2,rfl,xw,h02,Hl,Pj,hP2,ane,acj,vg⟩:=mg.phase (w:=w1) (sl:=sl1) K (B:=w.heap.size) (by rw[e1];exact pF) LU (by rw[e7];exact vy) (by rw[e6];exact hP1) e3 (by rw[e4];exact ku _) (by rw[e5,Jx];exact ku _) rq pM sH wy (by rw[e2,e1,show z0+uz-z0=uz by omega];exact hs);have Hl:∃T',TM (lM w.heap.size x tape D PA TA m pc tc b3 b4 cr ce b8 b9 cj co pj px) T'/\Sk prog (GM T' cs) a2:=by rw[Aj]at Hl;exact Hl
 obtain⟨T',UN,nW,hW⟩:=Hl;rw[e7]at Pj ua;obtain⟨N3,gs3,a3,w3,sl3,t3,q3,WC,F6,h03,⟨rfl,dr,rfl⟩,hL3,hP3⟩:=walk_beside (P:=prog) (D:=DC0) abm _ nW UB a2 w2 YJ t2 q2 (ku _) h02 Pj hP2<|hW w2;have anb:Past (xB fun b=>SB b\/b=w.heap.size) (w2.at dr).heap.size t3:=by rw[e6,e4]at hP3;have:=hP3;unfold xB at this;rw[au4]at this;exact this
 have hR:∀b,b<w.heap.size->b≠cj->b≠co->b≠cr->b≠ce->¬SB b->w2.heap[b]?=w1.heap[b]?:=fun b h1 h2 h3 h4 h5 h6=>vg.mine b (.inr (by
  rw[Aj];show b<w.heap.size+1/\b≠w.heap.size/\b≠cj/\b≠co/\b≠cr/\b≠ce/\¬SB b
  exact⟨aa,aa,h2,h3,h4,h5,h6⟩))
 have adh:w.heap.size+1<=w2.heap.size:=by rw[<-Jx];exact vg.size
 have B:=fun {b} hb=>h.blk hM (b:=b) hb;have hk0:=h.j.kept.size;have ar:=B (b:=cr) aq;have ae:=B (b:=ce) aq;have a8:=B (b:=b8) aq;have a9:=B (b:=b9) aq;have aj:=B (b:=cj) aq;have aco:=B (b:=co) aq;have m2':=h.m2;have mr:=h.hi;have J1:=h.J1;have k8:w2.heap[b8]?=_:=(hR b8 aa aa aa aa aa a8.2.2.2).trans<|EE 4 _ rfl;have k9:w2.heap[b9]?=_:=(hR b9 aa aa aa aa aa a9.2.2.2).trans<|EE 5 _ rfl;have aci:(∃cs e,w2.heap[cr]?=some (.cells cs e (0,0)))/\∃cs e,w2.heap[ce]?=some (.cells cs e (0,0)):=by rw[Aj]at acj;obtain⟨⟨c2,e2,hg,_⟩,⟨c3,e3,hg3,_⟩,_⟩:=acj;exact⟨⟨c2,e2,hg⟩,c3,e3,hg3⟩
 have ur:∀k,k<m->∃rv ev o,rR (x k) o/\uC (fun b=>w0.heap.size<=b/\b<w2.heap.size/\b≠w.heap.size) w2 (x k).title rv ev o/\(∀(i:Nat) u,rv[i]?=some u->w2.cell? ⟨cr,5*k+i,none⟩=some u)/\w2.cell? ⟨ce,k,none⟩=some ev:=by intro k hk;have⟨Dk,h1,h2⟩:=ane k (by rw[Aj];exact hk);rw[Aj]at h1;have⟨rv,ev,o,g1,g2,g3,g4⟩:=h1 hk;refine⟨rv,ev,o,g1,g2.keep (fun b hb=>?_) fun _ _=>Z,g3,g4⟩;have h3:=h2 b hb;rw[e5]at h3;exact⟨aa,h3.2,aa⟩
 refine⟨N1+(n2'+N3),gs3,GM T' cs,w2.at dr,sl3,t3,q3,_,?_,by rw[F6,xw,e2];omega,h03,hL3,anb,T',w.heap.size,cr,ce,b8,b9,rfl,UN.size,UN.t8,UN.t9,rfl,?_⟩
 .rw[runNT_add,wI];show runNT _ _ _ _=_;rw[runNT_add,ua];exact WC
 refine⟨⟨_,k8⟩,⟨_,k9⟩,aci.1,aci.2,ur,fun b hb=>?_,⟨hk0,?_⟩,?_⟩
 .show w0.heap.size<=b/\b<w2.heap.size/\b≠w.heap.size;rcases hb with rfl|rfl|rfl|rfl<;>omega
 .show w.heap.size<w2.heap.size;omega
 exact⟨j5 BC.size vg.size,fun b h1 h2=>(hR b aa aa aa aa aa h2).trans<|BC.blk b h1 h2,vg.tape.trans BC.tape,vg.os.trans BC.os,vg.out.trans BC.out⟩
end
open Go Go.Conc Go.RowKit
theorem afW{P:lY}{fn:Func}{R R':Ending->World->Prop}{e:Exit}{ρ:lB}{w:lE}(h:sL P fn R e ρ w)(hi:∀en w,R en w->R' en w):sL P fn R' e ρ w:=by
 unfold sL at h|-;cases e with
 |normal=>exact fun a ha=>(h a ha).imp fun v hv=>⟨hv.1,hi _ _ hv.2⟩
 |ret=>exact fun a ha=>(h a ha).imp fun v hv=>⟨hv.1,hi _ _ hv.2⟩
 |_=>exact h
def DC(x:Nat->mA)(m:Nat)(Q:lF)(u:lH)(w:lE):Prop:=
 ∃o:Nat->vZ,(∀k,k<m->rR (x k) (o k))/\
  ((∃k z ev,k<m/\o k=.bad z/\(∀j,j<k->∀z',o j≠.bad z')/\u=.tuple #[.slice none 0 0,ev]/\Cn Q w ev z)\/
  ((∀k,k<m->∀z,o k≠.bad z)/\∃cr,u=.tuple #[.slice (some ⟨cr,0,none⟩) m m,.nilIface]/\Q cr/\(∃cs e,w.heap[cr]?=some (.cells cs e (0,0)))/\
   ∀k,k<m->∃rv ev,uC Q w (x k).title rv ev (o k)/\∀(i:Nat) u,rv[i]?=some u->w.cell? ⟨cr,5*k+i,none⟩=some u))
def QB(w0:lE)(Wg:Nat)(w:lE)(b:Nat):Prop:=w0.heap.size<=b/\b<w.heap.size/\b≠Wg
def ait(SB:lF)(w0:lE)(Wg:Nat)(x:Nat->mA)(m:Nat)(c0:Frame)(cs0:nX)(_:lF)(g:lZ)(w:lE):Prop:=∃u,g=G (c0.finish u) cs0/\lD SB w0 w/\Wg<w.heap.size/\DC x m (QB w0 Wg w) u w
theorem aq7:nE.item prog (.code yb):=by
 unfold yb Eu yS yR uc xy wM tV;rw[Tryz.f5];dsimp only[Option.getD_some]
 kernel_rfl
def Fc(v:lH)(b:Nat):Prop:=∃T o,v=.iface T (.pointer (some ⟨b,o,none⟩))
theorem auh{M:lF}{w:lE}{t:ox}{rv:lW}{ev:lH}:∀{o:vZ},uC M w t rv ev o->Zx ev/\(ev=.nilIface↔∀z,o≠.bad z)/\(∀b,Fc ev b->M b/\∃o' i,w.cell? ⟨b,o',none⟩=some (Y i))/\(ev=.nilIface\/(∃T i,ev=.iface T (Y i))\/∃b,Fc ev b)
 |.bad z,⟨h1,h2⟩=>by
  rcases h2 with rfl|⟨b,o,rfl,h3,h4⟩
  .exact⟨.inr ⟨_,_,Z⟩,⟨fun h=>by(cases h),fun h=>ll rfl<|h z⟩,fun b ⟨T,o,e⟩=>(by injection e with _ e;cases e),.inr<|.inl ⟨_,_,rfl⟩⟩
  exact⟨.inr ⟨_,_,Z⟩,⟨fun h=>by(cases h),fun h=>ll rfl (h z)⟩,fun b' ⟨T,o',e⟩=>(by
   injection e with _ e;injection e with e;injection e with e;injection e with e1 e2;subst e1
   exact⟨h3,o,z,h4⟩),.inr (.inr ⟨b,_,_,Z⟩)⟩
 |.u9 evs code ord mG,⟨A1,c1,A2,c2,h1,h2,h3,h4⟩=>by subst h2;exact⟨.inl Z,⟨fun _ z h=>by(cases h),fun _=>rfl⟩,fun b ⟨T,o,e⟩=>(by cases e),.inl rfl⟩
theorem alx{M:lF}{w:lE}{t:ox}{rv:lW}{ev:lH}{o:vZ}(h:uC M w t rv ev o){z:Int}(e:o=.bad z):Cn M w ev z:=by subst e;exact h.2
theorem axm{F:nj}{D:lF}{v:lH}(h:v=.nilIface\/(∃T i,v=.iface T (Y i))\/∃b,Fc v b)(hD:∀b,Fc v b->D b):VR F (pZ D 0) v v:=by
 rcases h with rfl|⟨T,i,rfl⟩|⟨b,T,o,rfl⟩
 .exact .nilIface
 .exact .iface _<|.int _ _
 exact .iface _<|.ptr ⟨zE<|hD b ⟨_,_,Z⟩,Z,Z⟩
theorem axo{F:nj}{U:Ren}{D O:lF}{b0:Nat}(aBm:(ry D O b0).Le U){v y:lH}(hv:v=.nilIface\/(∃T i,v=.iface T (Y i))\/∃b,Fc v b)(hD:∀b,Fc v b->D b)(h:VR F U v y):y=v:=by
 rcases hv with rfl|⟨T,i,rfl⟩|⟨b,T,o,rfl⟩
 .cases h;rfl
 .cases h with
  |iface _ h1=>cases h1;rfl
 cases h with
 |iface _ h1=>
  cases h1 with
  |ptr ha=>rename_i a';obtain⟨h1,h2,h3⟩:=ha;have:=aBm.to _ _<|zE<|hD b ⟨_,_,rfl⟩;rw[h1]at this;obtain⟨y1,y2,y3⟩:=a';dsimp only at this h2 h3;cases this;rw[h2,h3]
section
variable{SB:lF}{w0 w:lE}{x:Nat->mA}{tape:Nat->Value}{D:lF}{PA TA:lO}{m pc tc Wg cr ce b8 b9:Nat}{T:lW}{c0:Frame}{cs0:nX}
def D18(D:lF)(m cr ce b8 b9:Nat)(E:Nat->Value)(b:Nat):Prop:=D b\/(b=cr\/b=ce\/b=b8\/b=b9)\/∃k,k<m/\Fc (E k) b
theorem asS(C:uR (fun b=>SB b\/b=Wg) w x tape D PA TA m pc tc)(hT:T.size=70)(h8:T[8]?=some (lJ b8 0))(h9:T[9]?=some (lJ b9 0))(h:Zu SB w0 x m Wg cr ce b8 b9 w)(Pp:∀b,SB b->b<w0.heap.size):
  Own prog true (RK (fun b=>SB b\/b=Wg) w) (fun _=>True) (fun _=>False) (ait SB w0 Wg x m c0 cs0) none_ (GM T<|c0::cs0) w:=by
 unfold GM;have hd:(vI[0]?).bind (·.dst)=some 58:=by simp only[JZ,J0,xA,yc,JU,JV,JW,JX,yU,JY,vH,vI,B3,B4,yb,Eu,yS,yR,uc,xy,wM,tV,Tryz.f5,iK];rfl
 rw[hd];refine Own.move Z (fun w1=>iM) fun w1 hr=>Own.rely ?_ hr;have hf:=(I3 hT).put (d:=58) aa<|.tuple #[];have ha:=Ox hf;have BE:((⟨T,[]⟩:Act).put (some 58)<|.tuple #[]).tmps.size=70:=hf.size;have get:∀i v,i<70->i≠58->T[i]?=some v->((⟨T,[]⟩:Act).put (some 58)<|.tuple #[]).tmps[i]?=some v:=fun i v hi hn hv=>by
  have e1:=hf.get i;have e2:upd (fun i=>T.getD i undef) 58 (.tuple #[]) i=v:=by
   rw[zS hn];show T.getD i undef=v;rw[ed,hv]
   rfl
  rw[e2,ed]at e1;have e3:i<((⟨T,[]⟩:Act).put (some 58)<|.tuple #[]).tmps.size:=by rw[BE];exact hi
  rw[eB e3]at e1|-;exact kY some e1
 have t8:=get 8 _ aa aa h8;have t9:=get 9 _ aa aa h9;rw[ha];generalize ((⟨T,[]⟩:Act).put (some 58)<|.tuple #[]).tmps=T2 at BE t8 t9|-;clear get ha hf
 have⟨F,hF⟩:=Classical.axiomOfChoice (r:=fun k (p:Array Value×Value×vZ)=>k<m->rR (x k) p.2.2/\uC (fun b=>w0.heap.size<=b/\b<w.heap.size/\b≠Wg) w (x k).title p.1 p.2.1 p.2.2/\(∀(i:Nat) u,p.1[i]?=some u->w.cell? ⟨cr,5*k+i,none⟩=some u)/\w.cell? ⟨ce,k,none⟩=some p.2.1) (fun k=>by
  by_cases hk:k<m
  .have⟨rv,ev,o,hh⟩:=h.res k hk;exact⟨(rv,ev,o),fun _=>hh⟩
  exact⟨(#[],undef,.bad 0),fun hh=>ll hh hk⟩)
 have hE:=fun k hk=>auh (hF k hk).2.1;obtain⟨E,Hj⟩:∃E:Nat->Value,E=fun k=>(F k).2.1:=⟨_,rfl⟩
 obtain⟨DD,Hi⟩:∃DD,DD=D18 D m cr ce b8 b9 E:=⟨_,rfl⟩
 have dD:∀b,D b->DD b:=fun b hb=>by rw[Hi];exact .inl hb
 have dr:DD cr:=by rw[Hi];exact .inr<|.inl<|.inl rfl
 have de:DD ce:=by rw[Hi];exact .inr<|.inl<|.inr<|.inl rfl
 have d8:DD b8:=by rw[Hi];exact .inr<|.inl<|.inr<|.inr<|.inl rfl
 have d9:DD b9:=by rw[Hi];exact .inr<|.inl<|.inr<|.inr<|.inr rfl
 have dE:∀k,k<m->∀b,Fc (E k) b->DD b:=fun k hk b hb=>by rw[Hi];exact .inr<|.inr ⟨k,hk,hb⟩
 have q2:∀b,w0.heap.size<=b->b<w.heap.size->b≠Wg->RK (fun b=>SB b\/b=Wg) w b:=fun b h1 h2 h3=>⟨h2,fun h4=>h4.elim (fun hs=>by have:=Pp b hs;omega) h3⟩
 have hC:Closed (RK (fun b=>SB b\/b=Wg) w) w DD:=by
  rw[Hi];refine⟨fun b hb=>?_,fun b hb=>?_⟩
  .rcases hb with hb|hb|⟨k,hk,hb⟩
   .exact C.lt hb
   .have⟨h1,h2,h3⟩:=h.mem b hb;exact q2 b h1 h2 h3
   rw[Hj]at hb;have⟨⟨h1,h2,h3⟩,_⟩:=(hE k hk).2.2.1 b hb;exact q2 b h1 h2 h3
  rcases hb with hb|hb|⟨k,hk,hb⟩
  .exact C.kn.row b hb
  .rcases hb with rfl|rfl|rfl|rfl
   .have⟨cs,e,hc⟩:=h.crb;exact⟨_,_,_,hc⟩
   .have⟨cs,e,hc⟩:=h.ceb;exact⟨_,_,_,hc⟩
   .have⟨t,hc⟩:=h.rb;exact⟨_,_,_,hc⟩
   have⟨t,hc⟩:=h.eb;exact⟨_,_,_,hc⟩
  rw[Hj]at hb;have⟨_,o',i,hc⟩:=(hE k hk).2.2.1 b hb;unfold World.cell? at hc;split at hc
  .next c0 e0 f0 hh=>exact⟨_,_,_,hh⟩
  cases hc
 have vp:∀b,DD b->VR (SF nE) (pZ DD 0) (lJ b 0) (lJ b 0):=fun b hb=>.ptr ⟨zE hb,rfl,rfl⟩;have cell:∀{a:Addr} {u:lH} (t:ze),DD a.block->w.cell? a=some u->VR (SF nE) (pZ DD 0) u u->(∀b,u≠.int .u8 b)->(wL (SF nE) DD<|w.tp t).cell? a=some u:=fun t hd hc hv h8=>BY (w:=w.tp t) hd hc hv h8;have hg:Good prog (fun u v=>Om cr m E<|.returned u) ⟨fm 5 (Cf (SF nE) DD T2) [.code yb],[],wL (SF nE) DD w⟩:=by
  refine amk (R:=fun en v=>Om cr m E en) func5 (by rw[XD,<-BE];simp[Cf]) fun t=>?_;have⟨tr,hr8⟩:=h.rb;have⟨te,hr9⟩:=h.eb
  refine Lc (awT (w0:=wL (SF nE) DD (w.tp t)) (Cr:=cr) (Ce:=ce) (Br:=b8) (Be:=b9) (m:=m) (E:=E) C.JN (cell t d8 (by simp[World.cell?,hr8]) (E4 fun b hb=>by cases hb;exact dr) (fun b e=>by cases e)) (cell t d9 (by simp[World.cell?,hr9]) (E4 fun b hb=>by cases hb;exact de) (fun b e=>by cases e))
   (fun k hk=>?_) ⟨y8 t8 (vp _ d8),y8 t9 (vp _ d9),trivial⟩) fun e ρ v hh=>afW hh fun en v' hs=>hs.1
  have nY:=hE k hk;rw[Hj];rw[Hj]at dE;refine⟨cell t de (hF k hk).2.2.2 (axm nY.2.2.2<|dE k hk) fun b e=>?_,nY.1⟩;dsimp only at e;rcases nY.1 with h0|⟨_,_,h0⟩<;>(rw[h0]at e;cases e)
 refine aeP (K:=fun u v=>Om cr m E<|.returned u) (D:=DD) (O:=fun _=>False) (fun w1=>lD (fun b=>SB b\/b=Wg) w w1) (fun M w1 w2 r h=>h.rely r) (fun M' w1 w2 hM s h=>h.Ij (fun b hb=>(hM b hb).elim (fun h=>h.elim) id) s) (lD.refl _ _)
  Lv func5 (fun it hit=>by rw[gF.1 hit];exact aq7) C.kn.BA (fun g hg=>dD _<|C.kn.fa.xQ g<|by simpa[nE]using hg) hC.o (ahI _ _ T2) hg ?_
 rintro U u u' v w1 M' aBm hu hK hW qc xS uI hJ;refine .stop fun w2 r2=>?_;have nO:=hJ.rely r2;have hkF:lD SB w0 w2:=h.kept.trans nO fun b h1 h2=>h2.elim id fun e=>by have:=h.wg.1;omega
 have same:∀b,w0.heap.size<=b/\b<w.heap.size/\b≠Wg->w2.heap[b]?=w.heap[b]?:=fun b hb=>nO.blk b hb.2.1 (q2 b hb.1 hb.2.1 hb.2.2).2;have hq:∀b,(w0.heap.size<=b/\b<w.heap.size/\b≠Wg)->QB w0 Wg w2 b:=fun b hb=>⟨hb.1,gK hb.2.1 nO.size,hb.2.2⟩
 have hR2:=fun k hk=>(hF k hk).2.1.keep (w1:=w2) hq same;have Ed:=h.mem cr<|.inl rfl;refine⟨u',Z,hkF,gK h.wg.2 nO.size,fun k=>(F k).2.2,fun k hk=>(hF k hk).1,?_⟩;have UF:∀k,k<m->(E k=.nilIface↔∀z,(F k).2.2≠.bad z):=fun k hk=>by rw[Hj];exact(hE k hk).2.1
 rcases hK with⟨k,hk,mK,BF,e⟩|⟨nG,e⟩
 .injection e with e;subst e;obtain⟨y0,y1,rfl,g0,g1⟩:=RN hu;have g0:=AY.eq (.qI _ _) g0;have g1:=axo aBm (by rw[Hj];exact(hE k hk).2.2.2) (dE k hk) g1;subst g0;subst g1;have hb:∃z,(F k).2.2=.bad z:=eD fun mI=>mK<|(UF k hk).2 fun z hz=>mI ⟨z,hz⟩;obtain⟨z,hz⟩:=hb;refine .inl ⟨k,z,E k,hk,hz,fun j hj=>(UF j aa).1<|BF j hj,Z,?_⟩;rw[Hj];exact alx (hR2 k hk) hz
 injection e with e;subst e;obtain⟨y0,y1,rfl,g0,g1⟩:=RN hu;have g0:=RM aBm (fun b hb=>by cases hb;exact dr) g0;have g1:=AY.eq .nilIface g1;subst g0;subst g1;refine .inr ⟨fun k hk=>(UF k hk).1<|nG k hk,cr,Z,hq _ Ed,?_,fun k hk=>⟨_,_,hR2 k hk,fun i u hu=>?_⟩⟩
 .rw[same cr Ed];exact h.crb
 exact(yx (a:=⟨cr,5*k+i,none⟩)<|same cr Ed).trans<|(hF k hk).2.2.1 i u hu
def ah5(SB:lF)(w0:lE)(x:Nat->mA)(m:Nat)(c0:Frame)(cs0:nX)(SB':lF)(g:lZ)(w:lE):Prop:=∃Wg u,SB'=(fun b=>SB b\/b=Wg)/\w0.heap.size<=Wg/\Wg<w.heap.size/\g=G (c0.finish u) cs0/\lD SB w0 w/\DC x m (QB w0 Wg w) u w
theorem aaz{z uz:Nat}(C:uR SB w x tape D PA TA m pc tc)(AD:1<=uz)(xr:uz<=16)(C6:0<z)(pF:z<=1000):
  tQ prog SB z (z+uz) (K3 #[.slice PA m pc,.slice TA m tc,lI uz]<|c0::cs0) w (ah5 SB w x m c0 cs0):=by
 have hS:∀k,SB k->k<w.heap.size:=fun k hk=>(C.sb k hk).1;refine tQ.bind (MB.x<|MB.own (fun _ _ h=>h) (asJ C (wk:=(uz:Int)) aa aa) (fun M a w' h=>?_) (fun k hk=>hk.elim) (fun k hk=>hk) hS) ?_
 .obtain⟨_,_,_,_,_,_,_,_,_,_,_,_,_,_,_,_,rfl,_⟩:=h
  rfl
 rintro Sc g1 w1 ⟨rfl,nZ,M1,Hk,vY,UK,h5⟩;replace C:=C.swap UK;refine tQ.bind (as1 C h5 Hk C6 pF AD aa) ?_;rintro Sd g2 w2 ⟨T,Wg,cr,ce,b8,b9,rfl,hT,h8,h9,rfl,Jc⟩;have C2:uR (fun b=>Sc b\/b=Wg) w2 x tape D vY TA m pc tc:=C.kept Jc.kept fun b hb=>hb.imp id fun e=>by rw[e];exact Jc.wg
 refine tQ.mono (MB.x<|MB.own (fun _ _ h=>h) (asS C2 hT h8 h9 Jc hS) (fun M a w' h=>?_) (fun k hk=>hk.elim) (fun k hk=>hk)<|fun k hk=>(C2.sb k hk).1) ?_
 .obtain⟨u,rfl,_⟩:=h
  rfl
 rintro ZO g3 w3 ⟨rfl,zC,M3,LY,u,rfl,BO,rq,x9⟩;exact⟨Wg,u,Z,Jc.wg.1,rq,Z,BO,x9⟩
end
end Go.Proofs.YtfjcghhjlmfggaaGreatDoor
namespace Go.Proofs.YtfjcghhjlmfggaaGreatDoor
noncomputable section
theorem cO{p:Prop}(h:p:=by exact XY rfl rfl):p:=h
theorem bQ{p:Prop}(h:p:=by exact zN rfl E5 (by kernel_rfl) rfl rfl (by omega)):p:=h
theorem aN{p:Prop}(h:p:=by exact Gp (n:=8) rfl (by kernel_rfl) (by kernel_rfl) rfl (by rfl) (fun k u hk=>hI.my (q8 k u hk))):p:=h
open Go.Proofs.Tryz
open Go.RowKit
variable{xs:mb}{c k n:Nat}{A:lO}{w:lE}
def yu:Code:=Tryz.f3.body.getD .skip
def Nr:Code:=match yu with|.seq a (.seq b (.seq c (.seq d (.seq e _))))=>.seq a (.seq b (.seq c (.seq d (.seq e .skip))))|_=>.skip
def Bu:Code:=match yu with|.seq _ (.seq _ (.seq _ (.seq _ (.seq _ c))))=>c|_=>.skip
theorem grF:Gr prog nE Bu Nr yu:=by unfold Bu Nr yu;rw[Tryz.f3];dsimp only[Option.getD_some];exact .seq ai<|.seq ai<|.seq ai<|.seq ai<|.seq ai .fin
def mA.pl(x:mA):List Value:=x.AJ.toList
def mA.Dm(x:mA):mA:={x with lP:=500}
theorem mA.Ka(x:mA):x.pl.length=8:=rfl
theorem mA.as6(x:mA):x.Dm.pl=x.pl.set 7 (Y 500):=rfl
abbrev wh:=Option Addr×Nat×List Int
def xE(t:wh):Value:=.slice t.1 t.2.2.length t.2.1
def AK(ps:List mA)(k:Nat):List mA:=(ps.take k).map mA.Dm++ps.drop k
theorem atg(ps:List mA)(h:k<=ps.length):(AK ps k).length=ps.length:=by simp[AK];omega
theorem ati(ps:List mA):AK ps 0=ps:=by simp[AK]
theorem ate(ps:List mA):AK ps ps.length=ps.map mA.Dm:=by simp[AK]
theorem atf(ps:List mA)(h:k<ps.length):(AK ps k)[k]?=some ps[k]:=by unfold AK;rw[ey aF];simp only[iY,iz,jh<|j4 h,j8,gB,j1];exact nM h
theorem ath(ps:List mA)(h:k<ps.length):(AK ps k).set k ps[k].Dm=AK ps (k+1):=by
 unfold AK;rw[fK _ _ aF];simp only[iY,iz,jh<|j4 h,j8];rw[eF h,gI,dT h,jb,jL,jX,gR]
 rfl
def R9(w0:lE)(ps:List mA)(ts:List wh)(B':lO)(ct:Nat)(wk0 ot0:Int)(ρ:lB)(w':lE):Prop:=
 ps.length<=6/\ts.length=ps.length/\(∀t∈ts,t.2.2.length<=80)/\(∀p∈ps,p.gen.length<=300)/\∃(PA:lO) (pc:Nat),lA ρ [(0,.slice PA ps.length pc),(1,.slice B' ts.length ct),(2,.int .i64<|1+(sq wk0 16:Int)),(3,.int .i64<|1+(sq ot0 16:Int))]/\
  Lf 29 8 PA ps.length pc ((ps.map mA.Dm).flatMap mA.pl) w'/\(∀k,PA.map (·.block)=some k->w0.heap.size<=k)/\(0<ps.length->∃g,PA=some ⟨g,0,none⟩)
theorem awz{P:lY}{D:lF}{t e' size:Nat}(ht:P.underlying t=some (.slice e'))(h:Rd w D size (.slice A n c) n xs)(h1:∀u∈xs,u.oneCell'):Src P size t (.slice A n c) n xs w:=by
 obtain⟨A',c',hv,h2,h3,h4,h5⟩:=h;injection hv with e1 _ e3;subst e1 e3;cases A with
 |none=>
  have hn:n=0:=by
   rcases gJ n with h0|h0
   .exact h0
   have⟨b,o,hb,_⟩:=h5 h0;cases hb
  subst hn;have:xs=[]:=dX aa;subst this;exact Src.ofNil _ ht c
 |some a=>
  refine Src.ofSlice _ ht a n c _ h4 (fun j u hj=>?_) h1;have hl:0<n:=by
   have:=(oS hj).1;rcases gJ n with h0|h0
   .subst h0;omega
   exact h0
  have⟨b,o,hb,_,hc⟩:=h5 hl;injection hb with hb;subst hb;rw[jU];exact hc j u hj
theorem Yx{base e s:Nat}(h:w.ownsRow base e s (.slice A n c) n xs):Lf e s A n c xs w:=by
 obtain⟨hl,⟨hv,Mw⟩|⟨g,cap,aBl,hv,hg,hb,h1,h2,h3,h4⟩⟩:=h
 .injection hv with e1 e2 e3;subst e1;subst e3;exact⟨hl,aa,aa,.inl ⟨rfl,aa⟩⟩
 injection hv with e1 e2 e3;subst e1;subst e3;have e63:maxLen<=9223372036854775807:=aw;refine⟨hl,h1,aa,.inr ⟨g,0,aBl,rfl,hb,aa,fun j u hj=>?_⟩⟩;rw[<-h4]at hj;have lX:j<n*s:=by have:=(oS hj).1;rw[iz]at this;omega
 rw[eM lX,fx]at hj;rw[kg];exact hj
theorem auy{base e s g:Nat}(h:w.ownsRow base e s (me g 0 n c) n xs){j:Nat}{u:lH}(hj:xs[j]?=some u):w.cell? ⟨g,j,none⟩=some u:=by
 obtain⟨_,_,_,⟨h,_⟩|⟨g',o,aBl,e,hb,_,hx⟩⟩:=Yx h
 .cases h
 injection e with e;injection e with e1 e2;subst e1;subst e2;have:=hx j u hj;rw[kg]at this;rw[hb.cell];exact this
theorem TR{l:List mA}{j:Nat}{p:mA}{u:lH}(hj:j<8)(hp:l[k]?=some p)(hu:p.pl[j]?=some u):(l.flatMap mA.pl)[k*8+j]?=some u:=by
 induction l generalizing k with
 |nil=>simp at hp|cons q r ih=>
  rw[gU];cases k with
  |zero=>simp only[eU,ia]at hp;subst hp;rw[kh,kg,eH<|by rw[mA.Ka];exact hj];exact hu|succ k=>rw[ey (by rw[mA.Ka];omega),mA.Ka,show(k+1)*8+j-8=k*8+j by omega];exact ih (by simpa using hp)
section
variable{w0:lE}{A B':lO}{c ct:Nat}{wk0 ot0:Int}{ps:List mA}{ts:List wh}{D:lF}
theorem atd(hp:Rd w0 D 8 (.slice A ps.length c) ps.length (ps.flatMap mA.pl))(ht:Rd w0 D 1 (.slice B' ts.length ct) ts.length (ts.map xE))(yP:∀t∈ts,t.2.2.length<=9223372036854775807):
  W prog Tryz.f3.ntmps Nr (Np prog Tryz.f3 (fun en w'=>en=.returned (.bool true)/\Pure w0 w'/\¬(ps.length<=6/\ts.length=ps.length/\(∀t∈ts,t.2.2.length<=80)/\(∀p∈ps,p.gen.length<=300)))<|R9 w0 ps ts B' ct wk0 ot0)
   (entry #[.slice A ps.length c,.slice B' ts.length ct,Y wk0,Y ot0]) w0:=by
 have hI:=ly.start (fun _=>False) w0;unfold Nr yu;rw[Tryz.f3];dsimp only[Option.getD_some];refine Wq<|V5 Z<|Wn ?_;by_cases h6:6<ps.length
 .exact Ws<|Wq<|Vf Z<|Vp Z rC Z<|Ty Z<|V3 Z<|V2 Z<|V2 Z<|V2 Z<|V2 Z<|V2 Z<|Vg Z<|Wn<|Wc true Z<|Wq<|V5 Z<|Wn<|WR<|lV 8 Z ⟨Z,hI.pu,fun h=>aa⟩
 by_cases hn:ts.length=ps.length;rotate_left
 .exact Ws<|Wq<|Vf Z<|Vp Z rC Z<|Ti Z<|V3 Z<|Vf Z<|Vp Z E5 Z<|Vf Z<|Vp Z rC Z<|Ug Z<|Va Z<|Wn<|Wc true Z<|Wq<|V5 Z<|Wn<|WR<|lV 8 Z ⟨Z,hI.pu,fun h=>hn h.2.1⟩
 have x6:((ts.length:Int)!=(ps.length:Int))=false:=by rw[hn];simp
 refine Ws<|Wq<|Vf Z<|Vp Z rC Z<|Ti Z<|V3 Z<|Vf Z<|Vp Z E5 Z<|Vf Z<|Vp Z rC Z<|U3 Z<|Va Z<|Wn<|Wc false Z<|Wk ?_;have Wj:=Nn wk0 (n:=16) aa;have Wm:=Nn ot0 (n:=16) aa;refine Wx (fun ρ w=>lA ρ [(0,.slice A ps.length c),(1,.slice B' ts.length ct),(2,Y<|1+(sq wk0 16:Int)),(3,Y<|1+(sq ot0 16:Int))]/\ly NF w0 w []) ?_ ?_
 .refine Wr<|V0 Z<|V7 [Y _,Y _] Z func4 Z<|(aeU wk0 16 _ aa aa).mono ?_;rintro e w2 ⟨rfl,rfl⟩;refine rV<|Wv Z (by exact H9 rfl rfl rfl aa)<|V0 Z<|V7 [Y _,Y _] Z func4 Z<|(aeU ot0 16 _ aa aa).mono ?_;rintro e w2 ⟨rfl,rfl⟩;exact rV<|Wv Z (by exact H9 rfl rfl rfl aa)<|Vb Z<|Vb Z<|Wn ⟨oy,hI⟩
 clear hI;rintro ρ w ⟨hH,hI⟩;obtain⟨σ,rfl⟩:=hH.open;have CM:∃I:lB->World->Prop,I=fun ρ w=>∃PA pc,lA ρ [(0,.slice PA ps.length pc),(1,.slice B' ts.length ct),(2,Y<|1+(sq wk0 16:Int)),(3,Y<|1+(sq ot0 16:Int))]/\
   ((ps=[]/\ly NF w0 w [rS 29 8 PA 0 pc []])\/(0<ps.length/\∃g,PA=some ⟨g,0,none⟩/\ly NF w0 w [lz 0 29 8 PA ps.length pc (ps.flatMap mA.pl)])):=⟨_,rfl⟩
 obtain⟨CI,UE⟩:=CM;refine Wx CI ?_ ?_
 .rw[UE];rcases gJ ps.length with h0|uq
  .obtain rfl:ps=[]:=eY.1 h0;refine Wr<|ZU (e:=29) (size:=8) [] hI Z Z Z Z Z rC ai ai Z aq aa ?_;rintro g w- -hI;have hI:=hI.u0 (e':=rS 29 8 (some ⟨g,0,none⟩) 0 0 []) (mC.refl _ _) (rS.ok ⟨rfl,aa,aa,.inr ⟨g,0,_,rfl,hI.g0,aq,fun j u hj=>by simp at hj⟩⟩)<|fun k hk=>.inl (jl hk).symm;refine Vf Z<|aiA (n:=0) (m:=0) (z:=.agg #[Y 0,Y 0,Y 0,Y 0,.bool false,ma [],ma [],Y 0]) (by_:=80) (aBp:=[]) _ hI Z Z Z Z Z Z rC ai ai aa (awz (D:=fun _=>True) rC ((hp.pure hI.pu).mono fun _ _=>trivial) aq) aa aa ?_;rintro PA pc w- -hI;exact Vm Z<|Wn ⟨PA,pc,oy,.inl ⟨Z,hI⟩⟩
  obtain⟨b0,o0,e0,_,BI⟩:∃b o,A=some ⟨b,o,none⟩/\D b/\∀j u,(ps.flatMap mA.pl)[j]?=some u->w0.cell? ⟨b,o+j,none⟩=some u:=by obtain⟨A',c',e1,_,_,_,h5⟩:=hp;injection e1 with e1 e2 e3;subst e1;exact h5 uq
  subst e0;refine Wr<|ZU (e:=29) (size:=8) [] hI Z Z Z Z Z rC ai ai Z aq aa ?_;rintro g w- -hI;have hI:=hI.u0 (e':=lz 0 29 8 (some ⟨g,0,none⟩) 0 0 []) (mC.refl _ _) (af6 aa hI.g0 aa aa rfl rfl)<|fun k hk=>.inl (jl hk).symm;refine Vf Z<|K8 (n:=0) (m:=ps.length) (z:=.agg #[Y 0,Y 0,Y 0,Y 0,.bool false,ma [],ma [],Y 0]) (by_:=80) (aBp:=ps.flatMap mA.pl) hI Z Z Z Z Z Z rC ai ai aa (TU mA.Ka ps) (fun j u hj=>hI.my<|BI j u hj) ?_ aa aa aa ?_
  .rw[iq];intro u hu;have⟨p,_,hu⟩:=iA.1 hu;simp only[mA.pl,mA.AJ,jM,iD,ld]at hu;rcases hu with rfl|rfl|rfl|rfl|rfl|rfl|rfl|rfl<;>rfl
  rintro PA pc w- -hI;rw[kg,je]at hI;rw[kg];refine Vm Z<|Wn ?_;obtain⟨g,aBl,rfl,_⟩:=Ie hI.g0 uq;exact⟨_,pc,oy,.inr ⟨uq,g,Z,hI⟩⟩
 clear hI;rw[UE];clear UE CI;rintro ρ w ⟨PA,pc,hH,Al⟩;obtain⟨σ,rfl⟩:=hH.open;rcases Al with⟨rfl,hI⟩|⟨uq,g,rfl,hI⟩
 .have hts:ts=[]:=eY.1 (by simpa using hn);subst hts;refine Ws<|Wq<|Vb Z<|Wn<|Wb<|Wl (fun mu ρ w=>mu=0/\lA ρ [(9,Y 0),(0,.slice PA 0 pc),(1,.slice B' 0 ct),(2,Y<|1+(sq wk0 16:Int)),(3,Y<|1+(sq ot0 16:Int))]/\ly NF w0 w [rS 29 8 PA 0 pc []]) 0 ⟨Z,ug,hI⟩ ?_;clear hI;rintro mu ρ w ⟨rfl,hH,hI⟩;obtain⟨σ,rfl⟩:=hH.open;exact Ws<|Wq<|V0 Z<|Vf Z<|Vp Z rC Z<|Vq Z<|Yf Z<|WE<|Wk ⟨aq,Z,aq,aq,PA,pc,oy,hI.g0,fun k hk=>(hI.own _ (gE ..) k hk).resolve_left id,fun h=>ll h aq⟩
 refine Ws<|Wq<|Vb Z<|Wn<|Wb ?_;refine Wl (fun mu ρ w=>∃k:Nat,mu=ps.length-k/\k<=ps.length/\(∀j t,j<k->ts[j]?=some t->t.2.2.length<=80)/\(∀j p,j<k->ps[j]?=some p->p.gen.length<=300)/\lA ρ [(9,lI k),(0,me g 0 ps.length pc),(1,.slice B' ts.length ct),(2,Y<|1+(sq wk0 16:Int)),(3,Y<|1+(sq ot0 16:Int))]/\ly NF w0 w [lz 0 29 8 (some ⟨g,0,none⟩) ps.length pc ((AK ps k).flatMap mA.pl)]) ps.length
  ⟨0,rfl,aa,fun j t h=>aa,fun j p h=>aa,⟨rfl,rfl,rfl,rfl,rfl,trivial⟩,by rw[ati];exact hI⟩ ?_
 clear hI;rintro mu ρ w ⟨k,rfl,hk,adk,acC,hH,hI⟩;obtain⟨σ,rfl⟩:=hH.open;by_cases ow:k<ps.length;rotate_left
 .obtain rfl:k=ps.length:=aa;refine Ws<|Wq<|V0 Z<|Vf Z<|Vp Z rC Z<|Vq Z<|Yf Z<|WE<|Wk ?_;rw[ate]at hI;refine⟨aa,hn,fun t Jy=>?_,fun p Jt=>?_,_,pc,oy,Yx hI.g0,fun k hk=>(hI.own _ (gE ..) k hk).resolve_left id,fun _=>⟨g,Z⟩⟩
  .have⟨j,hj,e⟩:=List.getElem_of_mem Jy;exact adk j t aa (by rw[nM hj,e])
  have⟨j,hj,e⟩:=List.getElem_of_mem Jt;exact acC j p hj (by rw[nM hj,e])
 have vi:ts[k]?=some (ts[k]'aa):=nM _;have oX:ps[k]?=some ps[k]:=nM _;have Wa:=atf ps ow;have sY:=ath ps ow;have htv:(ts.map xE)[k]?=some (xE<|ts[k]'aa):=by rw[gW,vi];rfl
 obtain⟨b1,o1,rfl,_,_,oT⟩:=ht.get htv aa;generalize (ts[k]'aa)=tk at vi htv oT;generalize ps[k]=pk at oX Wa sY;obtain⟨tA,KI,tl⟩:=tk;have oT:w0.cell? ⟨b1,o1+k,none⟩=some (.slice tA tl.length KI):=oT;have azY:tl.length<=9223372036854775807:=yP _<|mZ vi;have CO:w.cell? ⟨g,0+k*8+6,none⟩=some (ma pk.gen):=by rw[kg];exact auy hI.g0<|TR (p:=pk) aa Wa rfl
 refine Ws<|Wq<|V0 Z<|Vf Z<|Vp Z rC Z<|Vt Z<|Yt Z<|Wk<|Ws<|Wb ?_;by_cases LX:80<tl.length
 .exact Ws<|Wq<|Vf Z<|V0 Z<|Uq Z E5 Z<|V4 (.slice _ _ _) Z (hI.my oT)<|Vp Z nz Z<|Ty Z<|V3 Z<|V2 Z<|V2 Z<|V2 Z<|V2 Z<|V2 Z<|V2 Z<|V2 Z<|Vg Z<|Yt Z<|Wq<|V5 Z<|Wn<|WR<|lV 8 Z ⟨Z,hI.pu,fun h=>by have:=h.2.2.1 _<|mZ vi;dsimp only at this;omega⟩
 have mR:(⟨pk.gen.toArray⟩:ByteArray).size=pk.gen.length:=by simp[ByteArray.size]
 by_cases Je:300<pk.gen.length
 .exact Ws<|Wq<|Vf Z<|V0 Z<|Uq Z E5 Z<|V4 (.slice _ _ _) Z (hI.my oT)<|Vp Z nz Z<|Ti Z<|V3 Z<|Vf Z<|V0 Z<|Tu 8 Z rC Z<|Tl 6 Z<|V4 (.string _) Z CO<|Wv Z (X4 Z nS Z)<|Ty Z<|Va Z<|Yt Z<|Wq<|V5 Z<|Wn<|WR<|lV 8 Z ⟨Z,hI.pu,fun h=>by have:=h.2.2.2 _<|mZ oX;omega⟩
 refine Ws<|Wq<|Vf Z<|V0 Z<|Uq Z E5 Z<|V4 (.slice _ _ _) Z (hI.my oT)<|Vp Z nz Z<|Ti Z<|V3 Z<|Vf Z<|V0 Z<|Tu 8 Z rC Z<|Tl 6 Z<|V4 (.string _) Z CO<|Wv Z (X4 Z nS Z)<|Ti Z<|Va Z<|Yf Z<|Wk<|Wr<|Vf Z<|V0 Z<|Tu 8 Z rC Z<|Tl 7 Z<|Ot (j:=0+k*8+7) (u:=Y 500) 0 Z hI Z Z Z Z Z Z ai Z (by rw[TU mA.Ka,atg ps hk];omega) ?_;intro w hI;have HG:=O3 (f:=mA.pl) (s:=8) mA.Ka (a:=pk) (a':=pk.Dm) (j:=7) (v:=Y 500) aa pk.as6 Wa;rw[kg,gI,<-HG,sY]at hI;refine Wn<|Wr<|V0 Z<|Vx Z<|Vb Z<|Wn ?_
 exact⟨ps.length-(k+1),aa,k+1,rfl,aa,fun j t hj he=>(by
  rcases j6 j k with h|h
  .exact adk j t h he
  .obtain rfl:j=k:=aa;rw[vi]at he;cases he;show tl.length<=80;omega),fun j p hj he=>(by
  rcases j6 j k with h|h
  .exact acC j p h he
  obtain rfl:j=k:=aa;rw[oX]at he;cases he
  omega),⟨rfl,rfl,rfl,rfl,rfl,trivial⟩,hI⟩
end
def Ad:Code:=match Bu with|.seq _ c=>c|_=>.skip
def u7:Code:=match Ad with|.seq _ c=>c|_=>.skip
def both(e e':lN):lN:=⟨fun k=>e.D k\/e'.D k,fun w=>e.Φ w/\e'.Φ w⟩
theorem ly.both{w0:lE}{e e':lN}(h:ly NF w0 w [e,e']):ly NF w0 w [both e e']:=by
 have h1:=h.ok e<|gE ..;have h2:=h.ok e'<|fT _<|gE ..;refine⟨h.ni,fun x hx=>?_,fun x hx k hk=>?_,eZ _ _⟩
 .rw[gF.1 hx];exact⟨⟨h1.1,h2.1⟩,fun k hk=>hk.elim (h1.2.1 k)<|h2.2.1 k,fun S w1 w2 hc hS hh=>⟨h1.2.2 S w1 w2 hc (fun k hk=>hS k<|.inl hk) hh.1,h2.2.2 S w1 w2 hc (fun k hk=>hS k<|.inr hk) hh.2⟩⟩
 rw[gF.1 hx]at hk;exact hk.elim (h.own e (gE ..) k)<|h.own e' (fT _<|gE ..) k
theorem agd{x:mA}{z:Int}{w0:lE}{cp:Nat}{D:lF}(ho:rR x (.bad z))(hl:x.nums.length<=2000)(hN:pL w0 D (.slice A x.nums.length cp) x.nums)(hG:Cp w0)(hg:x.gen.length<=1000000000):
  Cq 8 #[.agg x.AJ,.slice A x.nums.length cp] w0 fun en w'=>∃T v,en=.returned (.tuple #[.agg vU,.iface T v])/\ly NF w0 w' [uT (.iface T v) z]:=by
 refine(O5 x.n x.k x.a x.t x.bk x.title x.gen x.lP A _ cp x.nums D w0 hN hG hg).mono ?_;rintro e w1 (⟨z',T,v,hb,rfl,hI⟩|hg)
 .have:=rR.qf hl ho<|show rR x (.bad z')from hb;injection this with this;subst this;exact⟨T,v,Z,hI⟩
 obtain⟨n',k',a',t',t2,aBi,A1,c1,A2,c2,q1,q2,q3,q4,q5,q6,q7,q8,q9,Gl,rfl,H8⟩:=hg;have:=rR.qf hl ho<|show rR x (.u9 _ _ _ _)from⟨n',k',a',t',t2,aBi,q1,q2,q3,q4,q5,q6,q7,q9,Gl,rfl,rfl,rfl,rfl⟩
 cases this
theorem Rj{x:mA}{evs:List Ev}{code mG:Int}{ord:mq}{w0:lE}{cp:Nat}{D:lF}(ho:rR x (.u9 evs code ord mG))(hl:x.nums.length<=2000)(hN:pL w0 D (.slice A x.nums.length cp) x.nums)(hG:Cp w0)(hg:x.gen.length<=1000000000):
  Cq 8 #[.agg x.AJ,.slice A x.nums.length cp] w0 fun en w'=>∃A1 c1 A2 c2,en=.returned (.tuple #[.agg #[ma x.title,.slice A1 evs.length c1,Y code,.slice A2 ord.length c2,Y mG],.nilIface])/\
   ly NF w0 w' [both (lz 0 66 7 A1 evs.length c1<|evs.flatMap nu) (lz 0 3 1 A2 ord.length c2<|mW ord)]:=by
 refine(O5 x.n x.k x.a x.t x.bk x.title x.gen x.lP A _ cp x.nums D w0 hN hG hg).mono ?_;rintro e w1 (⟨z',T,v,hb,rfl,hI⟩|hg)
 .have:=rR.qf hl ho<|show rR x (.bad z')from hb;cases this
 obtain⟨n',k',a',t',t2,aBi,A1,c1,A2,c2,q1,q2,q3,q4,q5,q6,q7,q8,q9,Gl,rfl,H8⟩:=hg;have:=rR.qf hl ho<|show rR x (.u9 _ _ _ _)from⟨n',k',a',t',t2,aBi,q1,q2,q3,q4,q5,q6,q7,q9,Gl,rfl,rfl,rfl,rfl⟩
 injection this with e1 e2 e3 e4;subst e1;subst e2;subst e3;subst e4;exact⟨A1,c1,A2,c2,Z,ly.both H8⟩
structure Se(w0:lE)(n:Nat)(x:Nat->mA)(PA TA:lO)(g b1 o1:Nat):Prop where
 pa:0<n->PA=some ⟨g,0,none⟩
 ta:0<n->TA=some ⟨b1,o1,none⟩
 hp:∀k,k<n->∀(j:Nat) u,(x k).pl[j]?=some u->w0.cell? ⟨g,0+k*8+j,none⟩=some u
 ht:∀k,k<n->∃tA KI,w0.cell? ⟨b1,o1+k,none⟩=some (.slice tA (x k).nums.length KI)/\∃D,pL w0 D (.slice tA (x k).nums.length KI) (x k).nums
 gen:∀k,k<n->(x k).gen.length<=1000000000
 nums:∀k,k<n->(x k).nums.length<=2000
 fa:Cp w0
 mx:vX w0
 n6:n<=6
def Sb(w0:lE)(cr k:Nat)(evs:List Ev)(code:Int)(ord:mq):Prop:=∃A1 c1 A2 c2 D,w0.cell? ⟨cr,0+k*5+1,none⟩=some (.slice A1 evs.length c1)/\w0.cell? ⟨cr,0+k*5+2,none⟩=some (.int .i64 code)/\w0.cell? ⟨cr,0+k*5+2+1,none⟩=some (.slice A2 ord.length c2)/\AV w0 D (.slice A1 evs.length c1) evs/\Rd w0 D 1 (.slice A2 ord.length c2) ord.length (mW ord)
section
variable{w0:lE}{n pc ct g b1 o1 Lw Lx:Nat}{x:Nat->mA}{PA TA:lO}{o:Nat->vZ}{e1 e2:lH}{z:Int}{kb:Nat}{ρ:lB}
abbrev QF(P:Program)(fn:Func):pg:=Np P fn (fun en _=>en=.returned (.bool true)) (fun _ _=>False)
theorem awR(G:Se w0 n x PA TA g b1 o1)(ho:∀k,k<n->rR (x k) (o k))(hk:kb<n)(hb:o kb=.bad z)(BF:∀j,j<kb->∀z',o j≠.bad z')(h1:uU w0 e1 z)(h2:uU w0 e2 z)
  (hH:lA ρ [(0,.slice PA n pc),(1,.slice TA n ct),(10,.slice none 0 0),(11,e1),(12,.slice none 0 0),(13,e2)]):W prog Tryz.f3.ntmps u7 (QF prog Tryz.f3) ρ w0:=by
 have hn6:=G.n6;obtain⟨T1,u1,rfl⟩:∃T u,e1=.iface T u:=by rcases h1 with rfl|⟨b,o,rfl,_⟩<;>exact⟨_,_,rfl⟩
 obtain rfl:=G.pa aa;obtain rfl:=G.ta aa;obtain⟨σ,rfl⟩:=hH.open;have hI:=ly.start (fun _=>False) w0;unfold u7 Ad Bu yu;rw[Tryz.f3];dsimp only[Option.getD_some];refine Ws<|Wq<|V7 [] Z func6 Z ?_;refine(aht _ (G.fa.pure hI.pu)<|G.mx.pure hI.pu).mono<|pJ hI fun w2 hp hI=>?_;refine Th Z<|V3 Z<|Vs Z<|V7 [_] Z func7 Z ?_;refine(NS _ z _ (h1.pure hI.pu)<|(G.fa.pure hI.pu).err).mono<|pJ hI fun w2 hp hI=>?_;apply Wv Z (by exact Df rfl);refine V7 [_] Z func7 Z ?_;refine(NS _ z _ (h2.pure hI.pu)<|(G.fa.pure hI.pu).err).mono<|pJ hI fun w2 hp hI=>?_;refine U3 Z<|Va Z<|V3 Z<|Vf Z<|Vp Z zU Z<|Vf Z<|Vp Z zU Z<|U3 Z<|Va Z<|Wn<|Wc false Z<|Wk<|Ws<|Ws ?_;refine Wr<|Vb Z<|Wn<|Wb ?_;refine Wl (fun mu ρ w=>∃k:Nat,mu=n-k/\k<=kb/\lA ρ [(14,lI k),(0,me g 0 n pc),(1,me b1 o1 n ct),(10,.slice none 0 0),(11,.iface T1 u1)]/\ly NF w0 w []) n
  ⟨0,rfl,aa,⟨rfl,rfl,rfl,rfl,rfl,trivial⟩,hI⟩ ?_
 rintro mu ρ w ⟨k,rfl,nY,hH,hI⟩;obtain⟨σ,rfl⟩:=hH.open;have nC:k<n:=aa;have⟨tA,KI,oT,D,hN⟩:=G.ht k nC;have q8:=G.hp k nC;have CO:=G.gen k nC;have xm:=G.nums k nC;have mH:=ho k nC;refine Ws<|Wq<|V0 Z<|Vf Z<|Vp Z rC Z<|Vt Z<|Wn<|Wc true Z<|Wk<|Ws<|Wb ?_;by_cases hkb:k=kb
 .subst hkb;rw[hb]at mH;refine Wx (fun ρ w=>∃T v,lA ρ [(16,.iface T v),(14,lI k),(0,me g 0 n pc),(1,me b1 o1 n ct),(10,.slice none 0 0),(11,.iface T1 u1)]/\uU w (.iface T v) z/\ly NF w0 w []) ?_ ?_
  .apply Wd ai;apply Wi (T:=[]) hI.drew;intro Sx hY hZ;have hI:=hI.drew;refine T8 0 Z<|Vw 1 Z<|Uk 2 8 Z rC Z ?_;refine Wt 3 Z (lL hY fun hI=>aN) ?_;refine T8 4 Z<|Vw 5 Z ?_;refine Wt 6 Z (lL hY fun hI=>bQ) ?_;refine V9 7 (.slice _ _ _) Z (Yo hY oT) ?_;refine DN 8 12 Z Z ai Z Z ?_ ?_
   .refine V7 [.agg _,.slice _ _ _] Z func8 Z ?_;refine(agd mH xm (hN.pure hI.pu) (G.fa.pure hI.pu) CO).mono ?_;rintro e w1 ⟨T,v,rfl,hT⟩;apply rV;have hI:=hI.app1 hT;refine Wn ⟨hZ _ hI.d0,?_⟩;refine U9 9 Z<|Tj 10 Z<|Tj 11 Z<|Vr 12 Z ?_;apply T6 (.agg #[.string ⟨#[]⟩,.slice none 0 0,Y 0,.slice none 0 0,Y 0]) (#[.string ⟨#[]⟩,.slice none 0 0,Y 0,.slice none 0 0,Y 0]) hI Z;rintro sC w- -hI;refine Wn ⟨hZ _ hI.d0.d0,?_⟩;apply Vr 13 Z;apply Ta 5 (#[_,_,_,_,_]) (.agg _) hI Z;intro w hI;refine Wn ⟨hZ _ hI.d0.d0,?_⟩;refine Wt 14 Z (lL hY fun hI=>(by exact Q0 rfl rfl)) ?_;apply We ai;exact⟨T,v,xe,by first|exact hI.g1|exact hI.g0,hI.d0.d0⟩
   apply T6 (.agg #[.string ⟨#[]⟩,.slice none 0 0,Y 0,.slice none 0 0,Y 0]) (#[.string ⟨#[]⟩,.slice none 0 0,Y 0,.slice none 0 0,Y 0]) hI Z;rintro sC w- -hI;refine Wn ⟨hZ _ hI.d0,?_⟩;apply Vr 8 Z;refine V7 [.agg _,.slice _ _ _] Z func8 Z ?_;refine(agd mH xm (hN.pure hI.pu) (G.fa.pure hI.pu) CO).mono ?_;rintro e w1 ⟨T,v,rfl,hT⟩;apply rV;have hI:=hI.app1 hT;refine Wn ⟨hZ _ hI.d0.d0,?_⟩;refine U9 9 Z<|Tj 10 Z<|Tj 11 Z<|Vr 13 Z ?_;apply DK (u:=.agg _) (vs:= #[_,_,_,_,_]) (n:=5) hI Z Z Z Z Z Z ai Z Z Z;intro w hI;refine Wn ⟨hZ _ hI.d0.d0,?_⟩;refine Wt 14 Z (lL hY fun hI=>(by exact Q0 rfl rfl)) ?_;apply We ai;exact⟨T,v,xe,by first|exact hI.g1|exact hI.g0,hI.d0.d0⟩
  rintro ρ w ⟨T,v,hH,hE,hI⟩;obtain⟨σ,rfl⟩:=hH.open;refine Ws<|Wq<|Vs Z<|Tp Z mY Z<|Wn<|Wc true Z<|Wq<|Vs Z<|V7 [_] Z func7 Z ?_;refine(NS _ z _ (h1.pure hI.pu)<|(G.fa.pure hI.pu).err).mono<|pJ hI fun w2 hp hI=>?_;replace hE:=hE.pure hp;refine Vs Z<|V7 [_] Z func7 Z ?_;refine(NS _ z _ hE<|(G.fa.pure hI.pu).err).mono<|pJ hI fun w2 hp hI=>?_;refine Vz Z<|V3 Z<|Vf Z<|Vp Z zU Z<|Vz Z<|Vg Z<|V5 Z<|Wn ?_;exact WR<|lV 8 Z Z
 have lX:k<kb:=aa;cases PX:o k with
 |bad z'=>exact ll PX<|BF k lX z'|u9 evs code ord mG=>
  rw[PX]at mH;refine Wx (fun ρ w=>lA ρ [(16,.nilIface),(14,lI k),(0,me g 0 n pc),(1,me b1 o1 n ct),(10,.slice none 0 0),(11,.iface T1 u1)]/\ly NF w0 w []) ?_ ?_
  .apply Wd ai;apply Wi (T:=[]) hI.drew;intro Sx hY hZ;have hI:=hI.drew;refine T8 0 Z<|Vw 1 Z<|Uk 2 8 Z rC Z ?_;refine Wt 3 Z (lL hY fun hI=>aN) ?_;refine T8 4 Z<|Vw 5 Z ?_;refine Wt 6 Z (lL hY fun hI=>bQ) ?_;refine V9 7 (.slice _ _ _) Z (Yo hY oT) ?_;refine DN 8 12 Z Z ai Z Z ?_ ?_
   .refine V7 [.agg _,.slice _ _ _] Z func8 Z ?_;refine(Rj mH xm (hN.pure hI.pu) (G.fa.pure hI.pu) CO).mono ?_;rintro e w1 ⟨A1,c1,A2,c2,rfl,hT⟩;apply rV;have hI:=hI.app1 hT;refine Wn ⟨hZ _ hI.d0,?_⟩;refine U9 9 Z<|Tj 10 Z<|Tj 11 Z<|Vr 12 Z ?_;apply T6 (.agg #[.string ⟨#[]⟩,.slice none 0 0,Y 0,.slice none 0 0,Y 0]) (#[.string ⟨#[]⟩,.slice none 0 0,Y 0,.slice none 0 0,Y 0]) hI Z;rintro sC w- -hI;refine Wn ⟨hZ _ hI.d0.d0,?_⟩;apply Vr 13 Z;apply Ta 5 (#[_,_,_,_,_]) (.agg _) hI Z;intro w hI;refine Wn ⟨hZ _ hI.d0.d0,?_⟩;refine Wt 14 Z (lL hY fun hI=>cO) ?_;apply We ai;exact⟨xe,hI.d0.d0⟩
   apply T6 (.agg #[.string ⟨#[]⟩,.slice none 0 0,Y 0,.slice none 0 0,Y 0]) (#[.string ⟨#[]⟩,.slice none 0 0,Y 0,.slice none 0 0,Y 0]) hI Z;rintro sC w- -hI;refine Wn ⟨hZ _ hI.d0,?_⟩;apply Vr 8 Z;refine V7 [.agg _,.slice _ _ _] Z func8 Z ?_;refine(Rj mH xm (hN.pure hI.pu) (G.fa.pure hI.pu) CO).mono ?_;rintro e w1 ⟨A1,c1,A2,c2,rfl,hT⟩;apply rV;have hI:=hI.app1 hT;refine Wn ⟨hZ _ hI.d0.d0,?_⟩;refine U9 9 Z<|Tj 10 Z<|Tj 11 Z<|Vr 13 Z ?_;apply DK (u:=.agg _) (vs:= #[_,_,_,_,_]) (n:=5) hI Z Z Z Z Z Z ai Z Z Z;intro w hI;refine Wn ⟨hZ _ hI.d0.d0,?_⟩;refine Wt 14 Z (lL hY fun hI=>cO) ?_;apply We ai;exact⟨xe,hI.d0.d0⟩
  rintro ρ w ⟨hH,hI⟩;obtain⟨σ,rfl⟩:=hH.open;refine Ws<|Wq<|Tb Z<|Tn Z mY Z<|Wn<|Wc false Z<|Wk<|Ws<|Wq<|Vs Z<|Tp Z mY Z<|Wn ?_;apply Wc true Z;apply WE;refine Wr<|V0 Z<|Vx Z<|Vb Z<|Wn ?_;exact⟨n-(k+1),aa,k+1,rfl,aa,ug,hI⟩
end
theorem afN{base e s:Nat}(h:w.ownsRow base e s (.slice A n c) n xs):Rd w (fun _=>True) s (.slice A n c) n xs:=by
 have⟨h1,h2,h3,h4⟩:=Yx h;refine⟨A,c,Z,h2,h3,h1,fun hn=>?_⟩;rcases h4 with⟨_,h4⟩|⟨g,o,aBl,rfl,hb,_,hx⟩
 .omega
 exact⟨g,o,Z,trivial,fun j u hj=>by rw[hb.cell];exact hx j u hj⟩
section
variable{w0:lE}{n pc ct g b1 o1 Lw Lx:Nat}{x:Nat->mA}{PA TA:lO}{o:Nat->vZ}{ρ:lB}
theorem awS(G:Se w0 n x PA TA g b1 o1)(ho:∀k,k<n->rR (x k) (o k))(hr:∀k,k<n->∃evs code ord mG,o k=.u9 evs code ord mG/\Sb w0 Lw k evs code ord/\Sb w0 Lx k evs code ord)
  (hH:lA ρ [(0,.slice PA n pc),(1,.slice TA n ct),(10,me Lw 0 n n),(11,.nilIface),(12,me Lx 0 n n),(13,.nilIface)]):W prog Tryz.f3.ntmps u7 (QF prog Tryz.f3) ρ w0:=by
 have hn6:=G.n6;obtain⟨σ,rfl⟩:=hH.open;have hI:=ly.start (fun _=>False) w0;unfold u7 Ad Bu yu;rw[Tryz.f3];dsimp only[Option.getD_some];refine Ws<|Wq<|V7 [] Z func6 Z<|(aht _ (G.fa.pure hI.pu)<|G.mx.pure hI.pu).mono<|pJ hI fun w2 hp hI=>Th Z<|V3 Z<|Tb Z<|V7 [_] Z func7 Z<|(ahn _).mono<|pJ hI fun w2 hp hI=>Tb Z<|V7 [_] Z func7 Z<|(ahn _).mono<|pJ hI fun w2 hp hI=>U3 Z<|Va Z<|V3 Z<|Vf Z<|Vp Z zU Z<|Vf Z<|Vp Z zU Z<|U3 Z<|Va Z<|Yf Z<|Wk<|Ws<|Ws<|Wr<|Vb Z<|Wn<|Wb ?_;refine Wl (fun mu ρ w=>∃k:Nat,mu=n-k/\k<=n/\lA ρ [(14,lI k),(0,.slice PA n pc),(1,.slice TA n ct),(10,me Lw 0 n n),(11,.nilIface),(12,me Lx 0 n n)]/\ly NF w0 w []) n
  ⟨0,rfl,aa,⟨rfl,rfl,rfl,rfl,rfl,rfl,trivial⟩,hI⟩ ?_
 rintro mu ρ w ⟨k,rfl,nY,hH,hI⟩;obtain⟨σ,rfl⟩:=hH.open;by_cases nC:k<n;rotate_left
 .obtain rfl:k=n:=aa;exact Ws<|Wq<|V0 Z<|Vf Z<|Vp Z rC Z<|Vq Z<|Yf Z<|WE<|Wq<|Tb Z<|Wv Z (by exact NC rfl mY rfl)<|V3 Z<|Vf Z<|Vp Z zU Z<|Vf Z<|Vp Z rC Z<|Vz Z<|Vg Z<|V5 Z<|Wn<|WR<|lV 8 Z Z
 obtain rfl:=G.pa aa;obtain rfl:=G.ta aa;have⟨tA,KI,oT,D,hN⟩:=G.ht k nC;have q8:=G.hp k nC;have CO:=G.gen k nC;have xm:=G.nums k nC;have mH:=ho k nC;have⟨evs,code,ord,mG,PX,⟨A1,c1,A2,c2,D1,p1,p2,p3,p4,p5⟩,⟨A3,c3,A4,c4,D2,r1,r2,r3,r4,r5⟩⟩:=hr k nC;rw[PX]at mH;refine Ws<|Wq<|V0 Z<|Vf Z<|Vp Z rC Z<|Vt Z<|Yt Z<|Wk<|Ws<|Wb ?_
 refine Wx (fun ρ w=>∃sC A5 c5 A6 c6,lA ρ [(15,lJ sC 0),(16,.nilIface),(14,lI k),(0,me g 0 n pc),(1,me b1 o1 n ct),(10,me Lw 0 n n),(11,.nilIface),(12,me Lx 0 n n)]/\
   ly NF w0 w [B sC 42 #[ma (x k).title,.slice A5 evs.length c5,Y code,.slice A6 ord.length c6,Y mG],both (lz 0 66 7 A5 evs.length c5 (evs.flatMap nu)) (lz 0 3 1 A6 ord.length c6 (mW ord))]) ?_ ?_
 .refine Yi hI fun Sx hY hZ hI=>?_;refine T8 0 Z<|Vw 1 Z<|Uk 2 8 Z rC Z<|Wt 3 Z (lL hY fun hI=>aN)<|T8 4 Z<|Vw 5 Z<|Wt 6 Z (lL hY fun hI=>bQ)<|V9 7 (.slice _ _ _) Z (Yo hY oT)<|DN 8 12 Z Z ai Z Z ?_ ?_
  .refine V7 [.agg _,.slice _ _ _] Z func8 Z<|(Rj mH xm (hN.pure hI.pu) (G.fa.pure hI.pu) CO).mono ?_;rintro e w1 ⟨A5,c5,A6,c6,rfl,hT⟩;apply rV;have hI:=hI.app1 hT;refine Wn ⟨hZ _ hI.d0,(U9 9 Z<|Tj 10 Z<|Tj 11 Z<|Vr 12 Z<|T6 (.agg #[.string ⟨#[]⟩,.slice none 0 0,Y 0,.slice none 0 0,Y 0]) (#[.string ⟨#[]⟩,.slice none 0 0,Y 0,.slice none 0 0,Y 0]) hI Z ?_)⟩;rintro sC w- -hI;refine Wn ⟨hZ _ hI.d0.d0,(Vr 13 Z<|Ta 5 (#[_,_,_,_,_]) (.agg _) hI Z ?_)⟩;intro w hI;exact Wn ⟨hZ _ hI.d0.d0,(Wt 14 Z (lL hY fun hI=>cO)<|Yz ⟨sC,A5,c5,A6,c6,yE,by first|exact hI|exact hI.pQ⟩)⟩
  apply T6 (.agg #[.string ⟨#[]⟩,.slice none 0 0,Y 0,.slice none 0 0,Y 0]) (#[.string ⟨#[]⟩,.slice none 0 0,Y 0,.slice none 0 0,Y 0]) hI Z;rintro sC w- -hI;refine Wn ⟨hZ _ hI.d0,(Vr 8 Z<|V7 [.agg _,.slice _ _ _] Z func8 Z<|(Rj mH xm (hN.pure hI.pu) (G.fa.pure hI.pu) CO).mono ?_)⟩;rintro e w1 ⟨A5,c5,A6,c6,rfl,hT⟩;apply rV;have hI:=hI.app1 hT;refine Wn ⟨hZ _ hI.d0.d0,(U9 9 Z<|Tj 10 Z<|Tj 11 Z<|Vr 13 Z<|DK (u:=.agg _) (vs:= #[_,_,_,_,_]) (n:=5) hI Z Z Z Z Z Z ai Z Z Z ?_)⟩;intro w hI;exact Wn ⟨hZ _ hI.d0.d0,(Wt 14 Z (lL hY fun hI=>cO)<|Yz ⟨sC,A5,c5,A6,c6,yE,by first|exact hI|exact hI.pQ⟩)⟩
 rintro ρ w ⟨sC,A5,c5,A6,c6,hH,hI⟩;obtain⟨σ,rfl⟩:=hH.open;have bo:ord.length<=9223372036854775807:=by obtain⟨_,c',hv,q1,q2,_⟩:=p5;omega
 have be:evs.length<=9223372036854775807:=by obtain⟨_,c',hv,q1,q2,_⟩:=p4;omega
 refine Ws<|Wq<|Tb Z<|Tn Z mY Z<|Yf Z<|Wk<|Ws<|Wq<|Tb Z<|Tn Z mY Z<|Wn<|Wc false Z<|Wk<|Ws<|Yi hI fun Sx hY hZ hI=>?_;exact Vw 0 Z<|T8 1 Z<|Uj 2 Z zU Z<|Wt 3 Z (lL hY fun hI=>(by exact afj rfl rfl rfl aa))<|Te 4 Z<|T8 5 Z<|Vw 6 Z<|Uk 7 5 Z zU Z<|Td 8 2 Z<|U4 9 Z<|V9 10 (Y _) Z (Yo hY p2)<|Vd 11 2 Z<|U4 12 Z<|Ye 13 hY Z Z<|U7 14 Z<|Ts 15 Z<|Te 16 Z<|T8 17 Z<|Vw 18 Z<|Uk 19 5 Z zU Z<|Td 20 2 Z<|U4 21 Z<|V9 22 (Y _) Z (Yo hY r2)<|Vd 23 2 Z<|U4 24 Z<|Ye 25 hY Z Z<|U7 26 Z<|Ts 27 Z<|Te 28 Z<|T8 29 Z<|Vw 30 Z<|Uk 31 5 Z zU Z<|Td 32 2 Z<|Td 33 1 Z<|V9 34 (.slice _ _ _) Z (Yo hY p3)<|Vd 35 2 Z<|Td 36 1 Z<|V9 37 (.slice _ _ _) Z (lL hY fun h=>h.c0 Z)<|Vr 38 Z<|V7 [.slice _ _ _,.slice _ _ _] Z func9 Z<|(auQ A2 c2 A6 c6 ord _ _ _ (p5.pure hI.pu) (afN hI.g1.2) bo).mono<|pJ hI fun w2 hp hI=>Wn ⟨hZ _ hI,(Wt 39 Z (lL hY fun hI=>(by exact Ic rfl rfl))<|Ts 40 Z<|Te 41 Z<|T8 42 Z<|Vw 43 Z<|Uk 44 5 Z zU Z<|Td 45 1 Z<|V9 46 (.slice _ _ _) Z (Yo hY p1)<|Vd 47 1 Z<|V9 48 (.slice _ _ _) Z (lL hY fun h=>h.c0 Z)<|Vr 49 Z<|V7 [.slice _ _ _,.slice _ _ _] Z func10 Z<|(ajn A1 c1 A5 c5 evs _ _ _ (p4.pure hI.pu) (afN hI.g1.1) be).mono<|pJ hI fun w2 hp hI=>Wn ⟨hZ _ hI,(Wt 50 Z (lL hY fun hI=>(by exact Ic rfl rfl))<|Ts 51 Z<|Te 52 Z<|T8 53 Z<|Vw 54 Z<|Uk 55 5 Z zU Z<|Td 56 1 Z<|V9 57 (.slice _ _ _) Z (Yo hY p1)<|Uj 58 Z sN Z<|Vd 59 1 Z<|V9 60 (.slice _ _ _) Z (lL hY fun h=>h.c0 Z)<|Uj 61 Z sN Z<|U7 62 Z<|Ts 63 Z<|Yz<|Wc false Z<|Wk<|Wr<|V0 Z<|Vx Z<|Vb Z<|Wn ⟨n-(k+1),aa,k+1,rfl,aa,xe,hI.d0.d0⟩)⟩)⟩
end
end
end Go.Proofs.YtfjcghhjlmfggaaGreatDoor
namespace Go.Proofs.YtfjcghhjlmfggaaGreatDoor
noncomputable section
theorem bZ{p:Prop}(h:p:=by simp only[G8,G9,Bu,Ad,u7,yu,Tryz.f3,Option.getD_some]):p:=h
theorem bC{p:Prop}(h:p:=by cases e):p:=h
theorem ak{p:Prop}(h:p:=by simp only[G8,G9,Bu,Ad,u7,yu,Tryz.f3,Option.getD_some];rfl):p:=h
open Go.Proofs.Tryz
open Go Go.Conc Go.RowKit
variable{T:lW}{xs:mb}{n s:Nat}{D Q Q':lF}{A:lO}{u v:lH}{w w0:lE}
def G8:Array Oper:=match Bu with|.seq (.region _ o _) _=>o|_=> #[]
def G9:Array Oper:=match Ad with|.seq (.region _ o _) _=>o|_=> #[]
theorem XC:Tryz.f3.ntmps=196:=ai
def bF:Frame:=base 3
theorem Es:bF.kind≠.early:=by simp[bF,base]
theorem alJ:Bu=.seq (.region 11 G8 false) Ad:=bZ
theorem alK:Ad=.seq (.region 12 G9 false) u7:=bZ
structure Cm(w:lE)(D:lF)(ps:List mA)(ts:List wh)(A B':lO)(c ct:Nat):Prop where
 row:∀b,D b->∃cs e f,w.heap[b]?=some (.cells cs e f)
 BA:prog.globals.size<=w.heap.size
 fa:yo D w
 mx:vX w
 hp:Rd w D 8 (.slice A ps.length c) ps.length (ps.flatMap mA.pl)
 ht:Rd w D 1 (.slice B' ts.length ct) ts.length (ts.map xE)
 ti:∀t∈ts,pL w D (xE t) t.2.2/\(t.2.1≠0->∀a,t.1=some a->D a.block/\a.spot=none)
 pa:∀b,A.map (·.block)=some b->D b
 ta:∀b,B'.map (·.block)=some b->D b
theorem afO{w1:lE}(h:Rd w D s v n xs)(hD:∀b,D b->w1.heap[b]?=w.heap[b]?):Rd w1 D s v n xs:=by obtain⟨A',c',h1,h2,h3,h4,h5⟩:=h;refine⟨A',c',h1,h2,h3,h4,fun hn=>?_⟩;have⟨b,o,e,hb,hc⟩:=h5 hn;exact⟨b,o,e,hb,fun j u hu=>(yx<|hD b hb).trans<|hc j u hu⟩
theorem afM{O:lF}(h:Rd w D s v n xs)(hx:∀u∈xs,VR (SF nE) (pZ D 0) u u/\∀b,u≠.int .u8 b)(t:ze):Rd (sJ (SF nE) D O (w.tp t)) D s v n xs:=by obtain⟨A',c',h1,h2,h3,h4,h5⟩:=h;refine⟨A',c',h1,h2,h3,h4,fun hn=>?_⟩;have⟨b,o,e,hb,hc⟩:=h5 hn;exact⟨b,o,e,hb,fun j u hu=>BY (w:=w.tp t) hb (hc j u hu) (hx u<|mZ hu).1 (hx u<|mZ hu).2⟩
theorem aeV{ps:List mA}(hu:u∈ps.flatMap mA.pl):(∃z,u=Y z)\/(∃b,u=.bool b)\/∃s,u=.string s:=by
 have⟨p,_,hu⟩:=iA.1 hu;simp only[mA.pl,mA.AJ,jM,iD,ld]at hu;rcases hu with rfl|rfl|rfl|rfl|rfl|rfl|rfl|rfl
 .exact .inl ⟨_,Z⟩
 .exact .inl ⟨_,Z⟩
 .exact .inl ⟨_,Z⟩
 .exact .inl ⟨_,Z⟩
 .exact .inr<|.inl ⟨_,Z⟩
 .exact .inr<|.inr ⟨_,Z⟩
 .exact .inr<|.inr ⟨_,Z⟩
 exact .inl ⟨_,Z⟩
theorem XQ{F:nj}{ps:List mA}:∀u∈ps.flatMap mA.pl,VR F (pZ D 0) u u/\∀b,u≠.int .u8 b:=fun u hu=>by
 rcases aeV hu with⟨z,rfl⟩|⟨b,rfl⟩|⟨s,rfl⟩
 .exact⟨.int _ _,fun b e=>bC⟩
 .exact⟨.bool _,fun b e=>bC⟩
 exact⟨.string _,fun b e=>bC⟩
theorem as5{F:nj}{U:Ren}{ps:List mA}:∀u∈ps.flatMap mA.pl,∀y,VR F U u y->y=u:=fun u hu y h=>by rcases aeV hu with⟨z,rfl⟩|⟨b,rfl⟩|⟨s,rfl⟩<;>cases h<;>rfl
section
variable{w w1:lE}{D:lF}{ps:List mA}{ts:List wh}{A B':lO}{c ct:Nat}{SB:lF}
theorem Cm.kept(C:Cm w D ps ts A B' c ct)(h:lD SB w w1)(hs:∀b,D b->¬SB b):Cm w1 D ps ts A B' c ct:=by
 have e:∀b,D b->w1.heap[b]?=w.heap[b]?:=fun b hb=>by have⟨cs,x,f,hh⟩:=C.row b hb;exact h.blk b (eg.1 hh).1<|hs b hb
 refine⟨fun b hb=>by rw[e b hb];exact C.row b hb,j5 C.BA h.size,C.fa.keep e,?_,afO C.hp e,afO C.ht e,fun t ht=>⟨adJ (C.ti t ht).1 e,(C.ti t ht).2⟩,C.pa,C.ta⟩;have⟨m,hm⟩:=C.mx;exact⟨m,(yx<|e _<|C.fa.xQ _<|show(1:Nat)<10+1 by decide).trans hm⟩
structure Ct(w0:lE)(PA:lO)(pc n:Nat)(xs:mb)(M:lF)(w:lE):Prop where
 le:n<=pc
 blk:pc≠0->∀b,PA.map (·.block)=some b->w0.heap.size<=b/\M b/\∃cs e f,w.heap[b]?=some (.cells cs e f)
 at_:0<n->∃g,PA=some ⟨g,0,none⟩/\∀(j:Nat) u,xs[j]?=some u->w.cell? ⟨g,j,none⟩=some u
theorem Ct.same{PA:lO}{pc:Nat}{M M':lF}(h:Ct w0 PA pc n xs M w)(hM:∀b,M b->M' b/\w1.heap[b]?=w.heap[b]?):Ct w0 PA pc n xs M' w1:=by
 refine⟨h.le,fun hc b hb=>?_,fun hn=>?_⟩
 .have⟨h1,h2,h3⟩:=h.blk hc b hb;exact⟨h1,(hM b h2).1,by rw[(hM b h2).2];exact h3⟩
 have hc:pc≠0:=by have:=h.le;omega
 obtain⟨g,rfl,oz⟩:=h.at_ hn;exact⟨g,Z,fun j u hu=>(yx (hM g (h.blk hc g Z).2.1).2).trans<|oz j u hu⟩
end
abbrev KF(PA TA:lO)(n pc nt ct:Nat)(wk ot:Int):List (Nat×Value):=[(0,.slice PA n pc),(1,.slice TA nt ct),(2,.int .i64 wk),(3,.int .i64 ot)]
theorem aeJ{R:lF}{Stop:qz}{J:(Nat->Prop)->World->Prop}{M:lF}{wk:Int}{PA TA:lO}{pc nt ct:Nat}{a:Act}{ρ:lB}{K:vq}{h rest:Code}{aBi:nI}{r d0 d1 d2:Nat}{ts:Array TypeId}
  (hJ:∀M w w1,oe M R (fun _=>True) w w1->J M w->J M w1) (hf:Fit 196 ρ a) (hK:lA ρ K) (hd:∀p∈K,p.1<d0) (hdd:d0<d1/\d1<d2/\d2<196) (h0:ρ 0=.slice PA n pc) (h1:ρ 1=.slice TA nt ct) (h2:ρ s=Y wk) (hs:s<d0) (LU:1<d0)
  (eh:h=.seq (.region r aBi false) rest) (el:List.range aBi.size=[0,1,2,3,4,5,6,7,8])
  (e0:aBi[0]?=some (aBi.getD 0 default)) (e1:aBi[1]?=some (aBi.getD 1 default)) (e2:aBi[2]?=some (aBi.getD 2 default)) (e3:aBi[3]?=some (aBi.getD 3 default))
  (g0:(aBi.getD 0 default).guard=none) (g1:(aBi.getD 1 default).guard=none) (g2:(aBi.getD 2 default).guard=none) (g3:(aBi.getD 3 default).guard=none)
  (t0:(aBi.getD 0 default).dst=some d0) (t1:(aBi.getD 1 default).dst=some d1) (t2:(aBi.getD 2 default).dst=some d2)
  (o0:(aBi.getD 0 default).op=.move (.tmp 0)) (o1:(aBi.getD 1 default).op=.move (.tmp 1)) (o2:(aBi.getD 2 default).op=.move (.tmp s))
  (o3:(aBi.getD 3 default).op=.call {callee:=.value<|.func 5,args:=[.tmp d0,.tmp d1,.tmp d2].toArray,argTypes:=ts}) (j:J M w)
  (hS:∀M w ρ a,J M w->Fit 196 ρ a->lA ρ K->Stop M (K3 #[.slice PA n pc,.slice TA nt ct,Y wk] [bF.at a (.inRegion aBi [3,4,5,6,7,8]::[.code rest])]) w):
  Own prog true R (fun _=>True) (fun _=>False) Stop M (G (bF.at a [.code h]) []) w:=by
 rw[eh];refine Own.move Z (fun w1=>kW) fun w1 hr=>?_;replace j:=hJ _ _ _ hr j;refine Own.move Z (fun w1=>ko) fun w2 hr=>?_;replace j:=hJ _ _ _ hr j;clear hr;rw[el];have want:∀{q:Oper} {y:_},q.guard=none->Region.wanted q y:=fun hq=>by simp[Region.wanted,hq]
 refine AH (o:=aBi.getD 0 default) (v:=.slice PA n pc) e0 (want g0) Es (fun w1 r=>?_) ?_
 .rw[hf.eval];have:=B8 (P:=prog) (R:=R) (w:=w1) (ρ:=ρ) o0 h0;exact⟨this.1,fun e he=>AG<|this.2 e he⟩
 rw[t0];have hf:=hf.put (d:=d0) aa<|.slice PA n pc;have hK:=Af (d:=d0) (v:=.slice PA n pc) (fun p hp=>Nat.ne_of_lt<|hd p hp) hK;generalize a.put (some d0) (.slice PA n pc)=a1 at hf|-;refine AH (o:=aBi.getD 1 default) (v:=.slice TA nt ct) e1 (want g1) Es (fun w1 r=>?_) ?_
 .rw[hf.eval];have uG:ev (upd ρ d0<|.slice PA n pc) (.tmp 1)=.slice TA nt ct:=(zS aa).trans h1;have:=B8 (P:=prog) (R:=R) (w:=w1) o1 uG;exact⟨this.1,fun e he=>AG<|this.2 e he⟩
 rw[t1];have hf:=hf.put (d:=d1) aa<|.slice TA nt ct;have hK:=Af (d:=d1) (v:=.slice TA nt ct) (fun p hp=>by have:=hd p hp;omega) hK;generalize a1.put (some d1) (.slice TA nt ct)=a2 at hf|-;refine AH (o:=aBi.getD 2 default) (v:=Y wk) e2 (want g2) Es (fun w1 r=>?_) ?_
 .rw[hf.eval];have vv:ev (upd (upd ρ d0<|.slice PA n pc) d1<|.slice TA nt ct) (.tmp s)=Y wk:=(zS aa).trans<|(zS aa).trans h2;have:=B8 (P:=prog) (R:=R) (w:=w1) o2 vv;exact⟨this.1,fun e he=>AG<|this.2 e he⟩
 rw[t2];have hf:=hf.put (d:=d2) aa<|Y wk;have hK:=Af (d:=d2) (v:=Y wk) (fun p hp=>by have:=hd p hp;omega) hK;generalize a2.put (some d2) (Y wk)=a3 at hf|-;have hbM:Tryz.f5.body=some tV:=by
  unfold tV;cases h:Tryz.f5.body with
  |some c=>rfl|none=>exact ll (show Tryz.f5.body.isSome=true by kernel_rfl) (by rw[h];simp)
 have anv:[Operand.tmp d0,.tmp d1,.tmp d2].map (ev<|upd (upd (upd ρ d0<|.slice PA n pc) d1<|.slice TA nt ct) d2<|Y wk)=[.slice PA n pc,.slice TA nt ct,Y wk]:=by simp only[jL,jX,ev];rw[zS (x:=d0) aa,zS (x:=d0) aa,upd_same,zS (x:=d1) aa,upd_same,upd_same]
 refine QR (o:=aBi.getD 3 default) (f:=5) (fn:=Tryz.f5) (c:=tV) (args:= #[.slice PA n pc,.slice TA nt ct,Y wk]) e3 (want g3) Es func5 hbM (fun w1 r=>?_) fun w1 r=>?_
 .rw[hf.eval];refine⟨Q1 o3 func5 ai ai anv,fun e he=>?_⟩;rw[TG o3 func5 ai ai]at he;simp at he
 exact .stop fun w2 r2=>hS _ _ _ a3 (hJ _ _ _ r2<|hJ _ _ _ r j) hf hK
theorem aez{P:lY}{ρ:lB}{o:Oper}{R:lF}{x:mN}{i:Nat}{l:lW}(ho:o.op=.extract x i)(hx:ev ρ x=.tuple l)(hv:l[i]?=some v):Fp P R ρ o w v:=by refine⟨XZ ho hx hv,fun e he=>?_⟩;simp[execOp,ho,hx,Instr.extract,hv]at he
theorem aeQ{R:lF}{Stop:qz}{M:lF}{a:Act}{ρ:lB}{K:vq}{rest:Code}{aBi:nI}{d3 d4 d5 d6 d7 d8:Nat}{e:lH}
  (hf:Fit 196 ρ a) (hK:lA ρ K) (hd:∀p∈K,p.1≠d3/\p.1≠d4/\p.1≠d5/\p.1≠d6/\p.1≠d7/\p.1≠d8) (hN:d3<196/\d4<196/\d5<196/\d6<196/\d7<196/\d8<196) (mK:d4≠d5/\d5≠d6/\d6≠d7/\d7≠d8)
  (e3:(aBi[3]?).bind (·.dst)=some d3) (e4:aBi[4]?=some (aBi.getD 4 default)) (e5:aBi[5]?=some (aBi.getD 5 default)) (e6:aBi[6]?=some (aBi.getD 6 default)) (e7:aBi[7]?=some (aBi.getD 7 default)) (e8:aBi[8]?=some (aBi.getD 8 default))
  (g4:(aBi.getD 4 default).guard=none) (g5:(aBi.getD 5 default).guard=none) (g6:(aBi.getD 6 default).guard=none) (g7:(aBi.getD 7 default).guard=none) (g8:(aBi.getD 8 default).guard=none)
  (t4:(aBi.getD 4 default).dst=some d4) (t5:(aBi.getD 5 default).dst=some d5) (t6:(aBi.getD 6 default).dst=some d6) (t7:(aBi.getD 7 default).dst=some d7) (t8:(aBi.getD 8 default).dst=some d8)
  (o4:(aBi.getD 4 default).op=.move (.tmp d3)) (o5:(aBi.getD 5 default).op=.extract (.tmp d4) 0) (o6:(aBi.getD 6 default).op=.extract (.tmp d4) 1) (o7:(aBi.getD 7 default).op=.assign (.tmp d5)) (o8:(aBi.getD 8 default).op=.assign (.tmp d6))
  (next:∀a ρ w1,oe M R (fun _=>True) w w1->Fit 196 ρ a->lA ρ ((d7,v)::(d8,e)::K)->Own prog true R (fun _=>True) (fun _=>False) Stop M (G (bF.at a [.code rest]) []) w1):
  Own prog true R (fun _=>True) (fun _=>False) Stop M (G ((bF.at a (.inRegion aBi [3,4,5,6,7,8]::[.code rest])).finish<|.tuple #[v,e]) []) w:=by
 rw[iQ,e3];obtain⟨n3,n4,n5,n6,n7,n8⟩:=hN;have want:∀{q:Oper} {y:_},q.guard=none->Region.wanted q y:=fun hq=>by simp[Region.wanted,hq]
 have hf:=hf.put (d:=d3) n3<|.tuple #[v,e];have hK:=Af (d:=d3) (v:=.tuple #[v,e]) (fun p hp=>(hd p hp).1) hK;have s3:upd ρ d3 (.tuple #[v,e]) d3=.tuple #[v,e]:=upd_same;generalize upd ρ d3 (.tuple #[v,e])=Zk at hf hK s3;generalize a.put (some d3) (.tuple #[v,e])=a3 at hf|-;refine AH (o:=aBi.getD 4 default) (v:=.tuple #[v,e]) e4 (want g4) Es (fun w1 r=>?_) ?_
 .rw[hf.eval];have:=B8 (P:=prog) (R:=R) (w:=w1) (ρ:=Zk) o4 s3;exact⟨this.1,fun e he=>AG<|this.2 e he⟩
 rw[t4];have hf:=hf.put (d:=d4) n4<|.tuple #[v,e];have hK:=Af (d:=d4) (v:=.tuple #[v,e]) (fun p hp=>(hd p hp).2.1) hK;have s4:upd Zk d4 (.tuple #[v,e]) d4=.tuple #[v,e]:=upd_same;generalize upd Zk d4 (.tuple #[v,e])=Zl at hf hK s4;generalize a3.put (some d4) (.tuple #[v,e])=a4 at hf|-;refine AH (o:=aBi.getD 5 default) (v:=v) e5 (want g5) Es (fun w1 r=>?_) ?_
 .rw[hf.eval];have:=aez (P:=prog) (R:=R) (w:=w1) (x:=.tmp d4) (l:= #[v,e]) o5 s4 rfl;exact⟨this.1,fun e he=>AG<|this.2 e he⟩
 rw[t5];have hf:=hf.put (d:=d5) n5 v;have hK:=Af (d:=d5) (v:=v) (fun p hp=>(hd p hp).2.2.1) hK;have s4:upd Zl d5 v d4=.tuple #[v,e]:=(zS mK.1).trans s4;have s5:upd Zl d5 v d5=v:=upd_same;generalize upd Zl d5 v=Zm at hf hK s4 s5;generalize a4.put (some d5) v=a5 at hf|-;refine AH (o:=aBi.getD 6 default) (v:=e) e6 (want g6) Es (fun w1 r=>?_) ?_
 .rw[hf.eval];have:=aez (P:=prog) (R:=R) (w:=w1) (x:=.tmp d4) (l:= #[v,e]) o6 s4 rfl;exact⟨this.1,fun e he=>AG<|this.2 e he⟩
 rw[t6];have hf:=hf.put (d:=d6) n6 e;have hK:=Af (d:=d6) (v:=e) (fun p hp=>(hd p hp).2.2.2.1) hK;have s5:upd Zm d6 e d5=v:=(zS mK.2.1).trans s5;have s6:upd Zm d6 e d6=e:=upd_same;generalize upd Zm d6 e=RZ at hf hK s5 s6;generalize a5.put (some d6) e=a6 at hf|-;refine AH (o:=aBi.getD 7 default) (v:=v) e7 (want g7) Es (fun w1 r=>?_) ?_
 .rw[hf.eval];have:=XI (P:=prog) (R:=R) (w:=w1) (ρ:=RZ) o7 s5;exact⟨this.1,fun e he=>AG<|this.2 e he⟩
 rw[t7];have hf:=hf.put (d:=d7) n7 v;have hK:=Af (d:=d7) (v:=v) (fun p hp=>(hd p hp).2.2.2.2.1) hK;have s6:upd RZ d7 v d6=e:=(zS mK.2.2.1).trans s6;have s7:upd RZ d7 v d7=v:=upd_same;generalize upd RZ d7 v=Zn at hf hK s6 s7;generalize a6.put (some d7) v=a7 at hf|-;refine AH (o:=aBi.getD 8 default) (v:=e) e8 (want g8) Es (fun w1 r=>?_) ?_
 .rw[hf.eval];have:=XI (P:=prog) (R:=R) (w:=w1) (ρ:=Zn) o8 s6;exact⟨this.1,fun e he=>AG<|this.2 e he⟩
 rw[t8];have hf:=hf.put (d:=d8) n8 e;have hK:=Af (d:=d8) (v:=e) (fun p hp=>(hd p hp).2.2.2.2.2) hK;have s7:upd Zn d8 e d7=v:=(zS mK.2.2.2).trans s7;have s8:upd Zn d8 e d8=e:=upd_same;exact Own.move Z (fun w1=>iM) fun w1 hr=>next _ _ w1 hr hf ⟨s7,s8,hK⟩
theorem auq{P:lY}{fn:Func}{w':lE}(hr:fn.results= #[.tmp s])(h:(results fn T).run P w=.ok u w'):u=T.getD s undef:=by simp[results,hr]at h;rw[<-h.1,ed]
theorem ahu{F:nj}{U:Ren}{t t':lW}{v v':lE}(hr:(results Tryz.f3 t).run prog v=.ok u v')(hu:Ending.returned u=.returned (.bool true))(ht:AR (VR F U) t t'):t'.getD 8 undef=.bool true:=by
 injection hu with hu;have:=auq (s:=8) ai hr;have h4:=ht.getD 8<|VR.undef (F:=F) (U:=U);rw[<-this,hu]at h4;generalize t'.getD 8 undef=y at h4|-;cases h4
 rfl
abbrev D4(ps:List mA):List Value:=(ps.map mA.Dm).flatMap mA.pl
section
variable{w w1 v:lE}{D M':lF}{ps:List mA}{ts:List wh}{A B':lO}{c ct:Nat}{wk0 ot0:Int}{F:nj}{U:Ren}{R O:lF}
theorem adH{l:mq}(h:pL w D (.slice A n c) l):n<=c:=by obtain⟨A',c',hv,q1,q2,q3,_⟩:=h;injection hv with e1 e2 e3;omega
theorem as8(aBm:(ry D O w.heap.size).Le U)(hW:nB F U R v w1)(hR:∀b,R b->b<w.heap.size)(hM:∀k k',U.to k=some k'->U.own k->M' k'){PA:lO}{pc:Nat}(JB:Lf 29 8 PA ps.length pc (D4 ps) v)(Hy:∀k,PA.map (·.block)=some k->w.heap.size<=k)(xn:0<ps.length->∃g,PA=some ⟨g,0,none⟩){y:lH}(h:VR F U (.slice PA ps.length pc) y):
  ∃vY,y=.slice vY ps.length pc/\Ct w vY pc ps.length (D4 ps) M' w1:=by
 have PO:ps.length<=pc:=JB.2.1;generalize CS:ps.length=nn at h;cases h with
 |tn a=>exact⟨some a,rfl,⟨aa,fun hc=>ll rfl hc,fun hn=>aa⟩⟩|qI=>subst CS;refine⟨none,Z,⟨PO,fun _ b hb=>(by cases hb),fun hn=>?_⟩⟩;have⟨g,e⟩:=xn hn;cases e
 |slice _ _ ha=>
  rename_i a a';subst CS;obtain⟨_,_,_,⟨e,_⟩|⟨g,o,aBl,e,hb,_,hx⟩⟩:=JB
  .cases e
  injection e with e;subst e;have⟨k1,k2,cs',k3,k4⟩:=Xy aBm hW hR (Hy g rfl) ha.1 hb;obtain⟨ab,ao,IT⟩:=a';have ho:ao=o:=ha.2.1;have hs:IT=none:=ha.2.2;dsimp only at k1 k3;subst ho;subst hs;refine⟨some ⟨ab,ao,none⟩,Z,⟨PO,fun _ b hb=>?_,fun hn=>?_⟩⟩
  .cases hb;exact⟨k1,hM _ _ ha.1 k2,_,_,_,k3⟩
  have⟨g',e⟩:=xn hn;injection e with e;injection e with e1 e2;subst e1;subst e2;refine⟨ab,Z,fun j u hu=>?_⟩;have hc:=hx j u hu;rw[kg]at hc;have⟨y,hy,MV⟩:=k4.get hc;have:=as5 u (mZ hu) y MV;subst this;simp only[World.cell?,k3];exact hy
def Fx(ps:List mA)(ts:List wh):Prop:=ps.length<=6/\ts.length=ps.length/\(∀t∈ts,t.2.2.length<=80)/\(∀p∈ps,p.gen.length<=300)
def aiq(SB:lF)(w0:lE)(ps:List mA)(ts:List wh)(B':lO)(ct:Nat)(wk ot:Int)(M:lF)(g:lZ)(w:lE):Prop:=
 (¬Fx ps ts/\lD SB w0 w/\∃t' pR,g=G (rI 3 t' pR) []/\t'.getD 8 undef=.bool true)\/
 (Fx ps ts/\∃PA pc,(lD SB w0 w/\Ct w0 PA pc ps.length (D4 ps) M w)/\∃ρ a,Fit 196 ρ a/\lA ρ (KF PA B' ps.length pc ts.length ct wk ot)/\g=K3 #[.slice PA ps.length pc,.slice B' ts.length ct,.int .i64 wk] [bF.at a (.inRegion G8 [3,4,5,6,7,8]::[.code Ad])])
theorem asI(C:Cm w D ps ts A B' c ct)(hT:T.size=Tryz.f3.ntmps)(Ma:(fun i=>T.getD i undef)=entry #[.slice A ps.length c,.slice B' ts.length ct,Y wk0,Y ot0])(BE:∀u∈T,VR (SF nE) (pZ D 0) u u):
  Own prog true (RK (fun _=>False) w) (fun _=>True) (fun _=>False) (aiq (fun _=>False) w ps ts B' ct (1+(sq wk0 16:Int))<|1+(sq ot0 16:Int)) none_ (G (fm 3 T [.code yu]) []) w:=by
 have hC:Closed (RK (fun _=>False) w) w D:=⟨fun k hk=>by obtain⟨cs,e,f,hh⟩:=C.row k hk;exact⟨(eg.1 hh).1,id⟩,fun k hk=>C.row k hk⟩
 refine aeO (KR:=fun f' T' v=>f'=3/\IB prog (fun u v=>¬Fx ps ts/\Ending.returned u=.returned (.bool true)) f' T' v)
  (KO:=fun f' T' v=>f'=3/\T'.size=Tryz.f3.ntmps/\∃t,R9 (sJ (SF nE) D (fun _=>False)<|w.tp t) ps ts B' ct wk0 ot0 (fun i=>T'.getD i undef) v)
  (r0:=Bu) (x0:=Nr) (D:=D) (O:=fun _=>False) (fun w1=>lD (fun _=>False) w w1) (fun M w1 w2 r h=>h.rely r) (fun M' w1 w2 hM s h=>h.Ij (fun b hb=>(hM b hb).elim (fun h=>h.elim) id) s) (lD.refl _ _)
  Lv func3 grF C.BA (fun g hg=>C.fa.xQ g<|by simpa[nE]using hg) hC.o (T0:=T) (AR.self BE) ?_ ?_ ?_
 .refine Uz (R:=fun en w'=>¬Fx ps ts/\en=.returned (.bool true)) (KO:=fun ρ v=>∃t,R9 (sJ (SF nE) D (fun _=>False)<|w.tp t) ps ts B' ct wk0 ot0 ρ v) func3 hT fun t=>?_;rw[Ma];refine Lc (atd (w0:=wL (SF nE) D<|w.tp t) (wk0:=wk0) (ot0:=ot0) (afM C.hp XQ t) (afM C.ht (fun u hu=>?_) t) fun t' Jy=>?_) fun e ρ v h=>?_
  .obtain⟨t',Jy,rfl⟩:=jZ.1 hu;refine⟨NX (adH (C.ti t' Jy).1) fun hc b hb=>?_,fun b e=>bC⟩;obtain⟨a,ha,rfl⟩:=ft.1 hb;exact((C.ti t' Jy).2 hc a ha).1
  .have⟨A',c',hv,q1,q2,_⟩:=(C.ti t' Jy).1;injection hv with e1 e2 e3;omega
  cases e with
  |normal=>exact⟨t,h⟩|ret=>exact afW h fun en v' hs=>⟨hs.2.2,hs.1⟩
  |_=>exact h
 .rintro U f t t' pR v w1 M' aBm ht hf hK hW qc xS uI hJ;obtain⟨rfl,fn,u,qh,hr,mI,hu⟩:=hK v.tape fun _ _=>rfl;rw[func3]at qh;cases qh;exact .stop fun w2 r2=>.inl ⟨mI,hJ.rely r2,t',pR,Z,ahu hr hu ht⟩
 rintro U f t t' v w1 M' aBm ht ⟨rfl,D9,tp,h6,hn,LX,Je,PA,pc,⟨q0,q1,q2,q3, -⟩,JB,Hy,xn⟩ hW qc xS uI hJ;have Gy:VR (SF nE) U undef undef:=.undef;have g0:=ht.getD 0 Gy;have g1:=ht.getD 1 Gy;have g2:=ht.getD 2 Gy;have g3:=ht.getD 3 Gy;dsimp only at q0 q1 q2 q3;rw[q0]at g0;rw[q1]at g1;rw[q2]at g2;rw[q3]at g3;rw[show(sJ (SF nE) D (fun _=>False)<|w.tp tp).heap.size=w.heap.size from M7 (w:=w.tp tp)]at Hy;have⟨vY,g0,hP⟩:=as8 aBm hW (fun b hb=>hb.1) qc JB Hy xn g0;have g1:=RM aBm C.ta g1;have g2:=AY.eq (.int _ _) g2;have g3:=AY.eq (.int _ _) g3;have hs:t'.size=196:=by rw[<-ht.1,D9,XC]
 refine aeJ (J:=fun M w1=>lD (fun _=>False) w w1/\Ct w vY pc ps.length (D4 ps) M w1) (K:=KF vY B' ps.length pc ts.length ct (1+(sq wk0 16:Int))<|1+(sq ot0 16:Int)) (r:=11) (d0:=62) (d1:=63) (d2:=64) (s:=2) (aBi:=G8) (rest:=Ad)
  (fun M w1 w2 r h=>⟨h.1.rely r,h.2.same fun b hb=>⟨hb,r.mine b<|.inl hb⟩⟩) (I3 hs) ⟨g0,g1,g2,g3,trivial⟩ ?_ ⟨aa,aa,aa⟩ g0 g1 g2 aa aa alJ ak
  ak ak ak ak ak ak ak ak ak ak ak ak ak ak
  (ts:=match (G8.getD 3 default).op with|.call c=>c.argTypes|_=> #[]) ak ⟨hJ,hP⟩ (fun M w ρ a hj hf hK=>.inr ⟨⟨h6,hn,LX,Je⟩,vY,pc,hj,ρ,a,hf,hK,rfl⟩)
 intro p hp;simp only[jM,iD,ld]at hp;rcases hp with rfl|rfl|rfl|rfl<;>(dsimp only;omega)
end
section
variable{SB M:lF}{w0 w:lE}{PA TA:lO}{n pc nt ct:Nat}{wk ot:Int}{v e v2 e2:lH}{a:Act}{ρ:lB}
def air(SB:lF)(w0:lE)(PA TA:lO)(n pc nt ct:Nat)(wk ot:Int)(v e:lH)(_:lF)(g:lZ)(w:lE):Prop:=lD SB w0 w/\∃ρ a,Fit 196 ρ a/\lA ρ ((10,v)::(11,e)::KF PA TA n pc nt ct wk ot)/\g=K3 #[.slice PA n pc,.slice TA nt ct,.int .i64 ot] [bF.at a (.inRegion G9 [3,4,5,6,7,8]::[.code u7])]
theorem asP(hf:Fit 196 ρ a)(hH:lA ρ (KF PA TA n pc nt ct wk ot)):Own prog true (RK SB w) (fun _=>True) (fun _=>False) (air SB w PA TA n pc nt ct wk ot v e) none_ (G ((bF.at a (.inRegion G8 [3,4,5,6,7,8]::[.code Ad])).finish (.tuple #[v,e])) []) w:=by
 refine aeQ (K:=KF PA TA n pc nt ct wk ot) (d3:=65) (d4:=61) (d5:=66) (d6:=67) (d7:=10) (d8:=11) hf hH ?_ ⟨aa,aa,aa,aa,aa,aa⟩ ⟨aa,aa,aa,aa⟩ ak ak ak ak ak ak
  ak ak ak ak ak ak ak ak ak ak ak ak ak ak ak fun a ρ w1 r hf hH=>?_
 .intro p hp;simp only[jM,iD,ld]at hp;rcases hp with rfl|rfl|rfl|rfl<;>(dsimp only;omega)
 refine aeJ (J:=fun _ w1=>lD SB w w1) (K:=(10,v)::(11,e)::KF PA TA n pc nt ct wk ot) (r:=12) (d0:=69) (d1:=70) (d2:=71) (s:=3) (aBi:=G9) (rest:=u7)
  (fun M w1 w2 r h=>h.rely r) hf hH ?_ ⟨aa,aa,aa⟩ hH.2.2.1 hH.2.2.2.1 hH.2.2.2.2.2.1 aa aa alK ak
  ak ak ak ak ak ak ak ak ak ak ak ak ak ak
  (ts:=match (G9.getD 3 default).op with|.call c=>c.argTypes|_=> #[]) ak ((lD.refl SB w).rely r) (fun M w ρ a hj hf hK=>⟨hj,ρ,a,hf,hK,rfl⟩)
 intro p hp;simp only[jM,iD,ld]at hp;rcases hp with rfl|rfl|rfl|rfl|rfl|rfl<;>(dsimp only;omega)
def ais(SB:lF)(w0:lE)(PA TA:lO)(n pc nt ct:Nat)(wk ot:Int)(v e v2 e2:lH)(_:lF)(g:lZ)(w:lE):Prop:=lD SB w0 w/\∃T,T.size=196/\lA (fun i=>T.getD i undef) ((12,v2)::(13,e2)::(10,v)::(11,e)::KF PA TA n pc nt ct wk ot)/\g=G (fm 3 T [.code u7]) []
theorem asQ(hf:Fit 196 ρ a)(hH:lA ρ ((10,v)::(11,e)::KF PA TA n pc nt ct wk ot)):Own prog true (RK SB w) (fun _=>True) (fun _=>False) (ais SB w PA TA n pc nt ct wk ot v e v2 e2) none_ (G ((bF.at a (.inRegion G9 [3,4,5,6,7,8]::[.code u7])).finish (.tuple #[v2,e2])) []) w:=by
 refine aeQ (K:=(10,v)::(11,e)::KF PA TA n pc nt ct wk ot) (d3:=72) (d4:=68) (d5:=73) (d6:=74) (d7:=12) (d8:=13) hf hH ?_ ⟨aa,aa,aa,aa,aa,aa⟩ ⟨aa,aa,aa,aa⟩ ak ak ak ak ak ak
  ak ak ak ak ak ak ak ak ak ak ak ak ak ak ak fun a ρ w1 r hf hH=>?_
 .intro p hp;simp only[jM,iD,ld]at hp;rcases hp with rfl|rfl|rfl|rfl|rfl|rfl<;>(dsimp only;omega)
 refine .stop fun w2 r2=>⟨((lD.refl SB w).rely r).rely r2,a.tmps,hf.size,?_,?_⟩
 .rw[hf.env];exact hH
 show G (bF.at a _) _=_;rw[Ox hf]
 rfl
def ZR(SB:lF)(w0:lE)(_:lF)(g:lZ)(w:lE):Prop:=lD SB w0 w/\∃t' pR,g=G (rI 3 t' pR) []/\t'.getD 8 undef=.bool true
theorem alL:yf prog nE [.code u7]:=by
 intro it hit;rw[gF.1 hit];unfold u7 Ad Bu yu;rw[Tryz.f3];dsimp only[Option.getD_some]
 kernel_rfl
theorem asR(hC:Closed (RK SB w) w D)(hV:∀g,g<10+1->D g)(aon:prog.globals.size<=w.heap.size)(hT:T.size=196)
  (hW:∀t,W prog Tryz.f3.ntmps u7 (QF prog Tryz.f3) (fun i=>(Cf (SF nE) D T).getD i undef)<|wL (SF nE) D<|w.tp t):
  Own prog true (RK SB w) (fun _=>True) (fun _=>False) (ZR SB w) none_ (G (fm 3 T [.code u7]) []) w:=by
 have oV:∀M':lF,(∀k,M' k->none_ k\/w.heap.size<=k)->∀k,M' k->w.heap.size<=k:=fun M' hM k hk=>(hM k hk).elim (fun e=>e.elim) id;have key:=asL (P:=prog) (S:=nE) (main:=true) (R:=RK SB w) (Sh:=fun _=>True) (X:=fun _=>False) (Stop:=ZR SB w) (cs0:=[]) (M:=none_) (O:=fun _=>False) (D:=D) (KR:=fun f' T' w=>f'=3/\IB prog (fun u w=>Ending.returned u=.returned (.bool true)) f' T' w) (KO:=fun f' T' w=>False) (items:=[.code u7]) (r:=[])
  (fun w1=>lD SB w w1) (fun M w1 w2 r h=>h.rely r) (fun M' w1 w2 hM s h=>h.Ij (oV M' hM) s) (lD.refl _ _) Lv (f:=3) (T0:=Cf (SF nE) D T) (T:=T) func3 alL aon (fun g hg=>hV g<|by simpa[nE]using hg) hC.o (ahI _ _ T) ?_ ?_ (fun _ _ _ _ _ _ _ _ _ h=>h.elim)
 .rw[iU]at key;exact key
 .intro t ht;have⟨n,fr,w',h1,h2⟩:=Uz (R:=fun en _=>en=.returned (.bool true)) (KO:=fun _ _=>False) func3 (by rw[XC,<-hT];simp[Cf]) hW t ht;refine⟨n,fr,w',h1,h2.imp id fun h=>h.2.2.2.2.elim⟩
 rintro U f t t' pR v w1 M' aBm ht hf hK hW qc xS uI hJ;obtain⟨rfl,fn,u,qh,hr,hu⟩:=hK v.tape fun _ _=>rfl;rw[func3]at qh;cases qh;exact .stop fun w2 r2=>⟨hJ.rely r2,t',pR,Z,ahu hr hu ht⟩
end
section
variable{P:lY}
theorem als{z':Nat}{a:lZ}{W0:lE}{Post:Value->World->Prop}
  (h:tQ P (fun _=>False) 1 z' a W0 (fun SB' g w=>g.status=.running/\∀d,∃v,stepG P true g (w.at d)=.ended (.done v) (w.at d) #[]/\Post v (w.at d))):
  ∃M last o w' t',runNT P (M+1) (solo a W0) #[]=(.ended o w',t')/\runN P M (solo a W0)=.next last/\step P last=.ended o w'/\Go.Conc.Good P Post last o w' t':=by
 have hp:Past (xB fun _=>False) W0.heap.size #[]:=by
  have e:(xB fun _=>False)=fun _=>False:=by funext l;apply propext;exact⟨fun⟨_,_,h⟩=>h,fun h=>h.elim⟩
  rw[e];exact past_nil.mono<|kz _
 have⟨N,gs,g,w,sl,t,q,SB',hr,hz,h0,hL,hP,mo,An⟩:=h #[a] none #[] (fun _=>0) rfl rfl (leavers_one _ _) hp;have hG:Goes P true AtRel Go.ConcR.DC0 (AtEnd P (xB SB') w.heap.size Post) 0 g w:=by intro w1 xr;obtain⟨d,rfl⟩:=xr;have⟨v,h1,h2⟩:=An d;exact⟨mo,v, #[],h1,fun e he=>by simp at he,h2⟩
 have⟨K4,last,o,w',t',e1,e2,e3,e4⟩:=beside_ends (P:=P) (Post:=Post) (sl:=sl) (D:=Go.ConcR.DC0) abm h0 hL hP hG;refine⟨N+K4,last,o,w',t',?_,?_,e3,e4⟩
 .rw[solo_eq_crowd,jO,runNT_add,hr];exact e1
 rw[solo_eq_crowd,runN_add,<-runNT_fst P _ _ #[],hr];exact e2
end
theorem alO(t':lW)(pR:nA)(w:lE):stepG prog true (G (rI 3 t' pR) []) w=.ended (.done (t'.getD 8 undef)) w #[]:=by
 have hr:Tryz.f3.results= #[.tmp 8]:=ai;have nK:(results Tryz.f3 t').run prog w=.ok (t'.getD 8 undef) w:=by rw[ed];simp[results,hr]
 have mj:(results Tryz.f3 t').events prog w #[]= #[]:=by simp[results,hr]
 simp[G,rI,fm,stepG,unwind,doReturn,Frame.at,base,func3,seen,GStep.after,nK,mj]
def ZL(W0:lE)(v:lH)(w:lE):Prop:=v=.bool true/\lD (fun _=>False) W0 w
def N9(W0:lE)(_:lF)(g:lZ)(w:lE):Prop:=g.status=.running/\∀d,∃v,stepG prog true g (w.at d)=.ended (.done v) (w.at d) #[]/\ZL W0 v (w.at d)
theorem abv{W0:lE}{SB':lF}{t':lW}{pR:nA}(ht:t'.getD 8 undef=.bool true)(hK:lD (fun _=>False) W0 w):N9 W0 SB' (G (rI 3 t' pR) []) w:=⟨rfl,fun d=>⟨_,alO t' pR<|w.at d,ht,⟨hK.size,hK.blk,hK.tape,hK.os,hK.out⟩⟩⟩
theorem yo.mono{D':lF}(h:yo D w)(hD:∀b,D b->D' b):yo D' w:=by obtain⟨h1,h2,⟨a,b,c,h3,h4⟩,⟨a',b',c',h5,h6⟩⟩:=h;exact⟨h1,fun g hg=>hD _<|h2 g hg,⟨a,b,c,h3,hD _ h4⟩,⟨a',b',c',h5,hD _ h6⟩⟩
theorem adI{D':lF}{l:mq}(h:pL w D v l)(hD:∀b,D b->D' b):pL w D' v l:=Rd.mono h hD
theorem DC.keep{x:Nat->mA}{m:Nat}{w1:lE}(h:DC x m Q u w)(hQ:∀b,Q b->Q' b)(hw:∀b,Q b->w1.heap[b]?=w.heap[b]?):DC x m Q' u w1:=by
 obtain⟨o,h1,h2⟩:=h;refine⟨o,h1,h2.imp ?_ ?_⟩
 .rintro⟨k,z,ev,a1,a2,a3,a4,a5⟩;exact⟨k,z,ev,a1,a2,a3,a4,a5.keep hQ hw⟩
 rintro⟨a1,cr,a2,a3,a4,a5⟩;refine⟨a1,cr,a2,hQ _ a3,by rw[hw cr a3];exact a4,fun k hk=>?_⟩;have⟨rv,ev,b1,b2⟩:=a5 k hk;exact⟨rv,ev,b1.keep hQ hw,fun i u hu=>(yx (a:=⟨cr,5*k+i,none⟩)<|hw cr a3).trans<|b2 i u hu⟩
def xK(ps:List mA)(ts:List wh)(k:Nat):mA:={(ps.getD k ⟨0,0,0,0,false,[],[],0,[]⟩).Dm with nums:=(ts.getD k (none,0,[])).2.2}
def aw1(ts:List wh)(k:Nat):Value:=xE (ts.getD k (none,0,[]))
theorem I7{α:Type}{l:List α}{k:Nat}{d:α}(h:k<l.length):l.getD k d∈l/\l[k]?=some (l.getD k d):=by rw[eu,nM h];exact⟨iw h,Z⟩
theorem ahW{ps:List mA}{ts:List wh}{k:Nat}(h:k<ps.length):∃p,(ps.map mA.Dm)[k]?=some p/\p.pl=(xK ps ts k).pl:=by have⟨_,e⟩:=I7 (d:=(⟨0,0,0,0,false,[],[],0,[]⟩:mA)) h;refine⟨(ps.getD k ⟨0,0,0,0,false,[],[],0,[]⟩).Dm,by rw[gW,e];rfl,rfl⟩
section
variable{W0 w:lE}{D:lF}{ps:List mA}{ts:List wh}{A B' PA:lO}{c ct pc:Nat}{SB M:lF}
abbrev D1(D:Nat->Prop)(PA:Option Addr)(pc:Nat)(b:Nat):Prop:=D b\/(pc≠0/\PA.map (·.block)=some b)
theorem aks(C:Cm w D ps ts A B' c ct)(hc:Fx ps ts)(hP:Ct w0 PA pc ps.length (D4 ps) M w):uR (fun _=>False) w (xK ps ts) (aw1 ts) (D1 D PA pc) PA B' ps.length pc ct:=by
 obtain⟨h6,hn,LX,Je⟩:=hc;have tm:∀k,k<ps.length->ts.getD k (none,0,[])∈ts/\ts[k]?=some (ts.getD k (none,0,[])):=fun k hk=>I7 aa;have pm:∀k,k<ps.length->ps.getD k ⟨0,0,0,0,false,[],[],0,[]⟩∈ps:=fun k hk=>(I7 hk).1;refine⟨⟨fun b hb=>hb.elim (C.row b) fun h=>(hP.blk h.1 b h.2).2.2,C.BA,kz _,C.fa.mono fun b hb=>.inl hb,fun k hk=>?_,fun k hk=>?_⟩,fun b hb=>hb.elim,fun hc b hb=>.inr ⟨hc,hb⟩,hP.le,fun b hb=>.inl<|C.ta b hb,fun hm=>?_,fun hm=>?_,aa⟩
 .have:=Je _<|pm k hk;show(ps.getD k _).gen.length<=_;omega
 .have⟨h1,h2⟩:=C.ti _ (tm k hk).1;exact⟨_,_,_,Z,fun a ha hc=>⟨.inl (h2 hc a ha).1,(h2 hc a ha).2⟩,adI h1 fun b hb=>.inl hb⟩
 .obtain⟨g,rfl,oz⟩:=hP.at_ hm;refine⟨g,Z,fun k hk i u hu=>?_⟩;have⟨p,hp,he⟩:=ahW (ts:=ts) hk;have hi:i<8:=(eg.1 hu).1;rw[j7];refine oz _ u<|TR hi hp ?_;rw[he];show(xK ps ts k).AJ.toList[i]?=some u;rw[fx];exact hu
 have⟨A',c',hv,_,_,_,h5⟩:=C.ht;injection hv with e1 e2 e3;subst e1;have⟨b,o,e,_,oz⟩:=h5 aa;exact⟨b,o,e,fun k hk=>oz k _<|by rw[gW,(tm k hk).2];rfl⟩
def D6(SB:lF)(w:lE)(b:Nat):Prop:=RK SB w b/\∃cs e f,w.heap[b]?=some (.cells cs e f)
theorem adK{ev:lH}{z:Int}(h:Cn (D6 SB w) w ev z)(hD:∀b,D6 SB w b->D b)(t:ze):uU (wL (SF nE) D (w.tp t)) ev z:=by
 rcases h with h|⟨b,o,h1,h2,h3⟩
 .exact .inl h
 exact .inr ⟨b,o,h1,BY (w:=w.tp t) (a:=⟨b,o,none⟩) (hD b h2) h3<|.int _ _⟩
theorem abi{ev:lH}{z:Int}(h:Cn (D6 SB w) w ev z)(hD:∀b,D6 SB w b->D b):VR (SF nE) (pZ D 0) ev ev:=by
 rcases h with rfl|⟨b,o,rfl,h2,h3⟩
 .exact .iface _<|.int _ _
 exact .iface _<|.ptr ⟨zE<|hD b h2,Z,Z⟩
theorem af9{cc:Nat}{us:mb}(h:Cu (D6 SB w) w A n cc us)(hl:us.length=n*s)(hD:∀b,D6 SB w b->D b)(hu:∀u∈us,VR (SF nE) (pZ D 0) u u/\∀b,u≠.int .u8 b)(t:ze):Rd (wL (SF nE) D (w.tp t)) (fun _=>True) s (.slice A n cc) n us:=by obtain⟨h1,h2,h3,h4⟩:=h;refine⟨A,cc,Z,h1,h2,hl,fun hn=>?_⟩;obtain⟨b,rfl,hc⟩:=h4 hn;refine⟨b,0,Z,trivial,fun j u hj=>?_⟩;rw[kg];exact BY (w:=w.tp t) (a:=⟨b,j,none⟩) (hD b (h3 _ Z aa).1) (hc j u hj) (hu u<|mZ hj).1 (hu u<|mZ hj).2
theorem af8{cc:Nat}{us:mb}(h:Cu (D6 SB w) w A n cc us)(hD:∀b,D6 SB w b->D b):VR (SF nE) (pZ D 0) (.slice A n cc) (.slice A n cc):=NX h.1 fun hc b hb=>by obtain⟨a,ha,rfl⟩:=ft.1 hb;exact hD _ (h.2.2.1 a ha hc).1
theorem afT{cr k:Nat}{title:ox}{rv:lW}{ev:lH}{evs:List Ev}{code mG:Int}{ord:mq}(h:uC (D6 SB w) w title rv ev (.u9 evs code ord mG))(Ed:D6 SB w cr)(hc:∀(i:Nat) u,rv[i]?=some u->w.cell? ⟨cr,5*k+i,none⟩=some u)(hD:∀b,D6 SB w b->D b)(t:ze):Sb (wL (SF nE) D (w.tp t)) cr k evs code ord:=by
 obtain⟨A1,c1,A2,c2,rfl,rfl,h3,h4⟩:=h;have cell:∀{a:Addr} {u:lH},a.block=cr->w.cell? a=some u->VR (SF nE) (pZ D 0) u u->(∀b,u≠.int .u8 b)->(wL (SF nE) D<|w.tp t).cell? a=some u:=fun he hu hv h8=>BY (w:=w.tp t) (by rw[he];exact hD _ Ed) hu hv h8;refine⟨A1,c1,A2,c2,fun _=>True,cell Z ?_ (af8 h3 hD)<|fun b e=>bC,cell rfl ?_ (.int _ _)<|fun b e=>bC,cell rfl ?_ (af8 h4 hD)<|fun b e=>bC,af9 h3 (abq _) hD (fun u hu=>?_) t,af9 h4 (by simp[mW]) hD (fun u hu=>?_) t⟩
 .rw[show 0+k*5+1=5*k+1 by omega];exact hc 1 _ rfl
 .rw[show 0+k*5+2=5*k+2 by omega];exact hc 2 _ rfl
 .rw[show 0+k*5+2+1=5*k+3 by omega];exact hc 3 _ rfl
 .have⟨e,_,he⟩:=iA.1 hu;simp only[nu,jM,iD,ld]at he;rcases he with rfl|rfl|rfl|rfl|rfl|rfl|rfl<;>exact⟨.int _ _,fun b e=>bC⟩
 obtain⟨z,_,rfl⟩:=jZ.1 hu;exact⟨.int _ _,fun b e=>bC⟩
theorem ahe(C:Cm w D ps ts A B' c ct)(hc:Fx ps ts)(hP:Ct w0 PA pc ps.length (D4 ps) (D6 SB w) w){DD:lF}(hD:∀b,D b->DD b)(hD6:∀b,D6 SB w b->DD b)(t:ze):∃g b1 o1,Se (wL (SF nE) DD (w.tp t)) ps.length (xK ps ts) PA B' g b1 o1:=by
 have vc:=hc;obtain⟨h6,hn,LX,Je⟩:=vc;have tm:∀k,k<ps.length->ts.getD k (none,0,[])∈ts/\ts[k]?=some (ts.getD k (none,0,[])):=fun k hk=>I7 aa;have pm:∀k,k<ps.length->ps.getD k ⟨0,0,0,0,false,[],[],0,[]⟩∈ps:=fun k hk=>(I7 hk).1;obtain⟨g,hg⟩:∃g,0<ps.length->PA=some ⟨g,0,none⟩/\∀(j:Nat) u,(D4 ps)[j]?=some u->w.cell? ⟨g,j,none⟩=some u:=by
  by_cases h0:0<ps.length
  .have⟨g,h1,h2⟩:=hP.at_ h0;exact⟨g,fun _=>⟨h1,h2⟩⟩
  exact⟨0,fun h=>ll h h0⟩
 obtain⟨b1,o1,hb⟩:∃b1 o1,0<ps.length->B'=some ⟨b1,o1,none⟩/\D b1/\∀(j:Nat) u,(ts.map xE)[j]?=some u->w.cell? ⟨b1,o1+j,none⟩=some u:=by
  by_cases h0:0<ps.length
  .have⟨A',c',hv,_,_,_,h5⟩:=C.ht;injection hv with e1 e2 e3;subst e1;have⟨b,o,e,hd,oz⟩:=h5 aa;exact⟨b,o,fun _=>⟨e,hd,oz⟩⟩
  exact⟨0,0,fun h=>ll h h0⟩
 refine⟨g,b1,o1,fun h=>(hg h).1,fun h=>(hb h).1,fun k hk j u hu=>?_,fun k hk=>?_,fun k hk=>?_,fun k hk=>?_,?_,?_,aa⟩
 .have⟨q1,q2⟩:=hg aa;subst q1;have⟨p,hp,he⟩:=ahW (ts:=ts) hk;have hj:j<8:=(oS hu).1;have hf:=TR hj hp (by rw[he];exact hu);rw[kg];exact BY (w:=w.tp t) (a:=⟨g,k*8+j,none⟩) (hD6 g (hP.blk (by have:=hP.le;omega) g Z).2.1) (q2 _ u hf) (XQ (F:=SF nE) (D:=DD) u<|mZ hf).1 (XQ (F:=SF nE) (D:=DD) u<|mZ hf).2
 .have⟨q1,q2,q3⟩:=hb aa;have⟨i1,i2⟩:=C.ti _ (tm k hk).1;refine⟨_,_,BY (w:=w.tp t) (a:=⟨b1,o1+k,none⟩) (hD b1 q2) (q3 k _<|by rw[gW,(tm k hk).2];rfl) (NX (adH i1) fun vc b sV=>?_)<|fun b e=>bC,DD,adG (adI i1 hD:pL (w.tp t) DD _ _)⟩;obtain⟨a,ha,rfl⟩:=ft.1 sV;exact hD _ (i2 vc a ha).1
 .have:=Je _<|pm k hk;show(ps.getD k _).gen.length<=_;omega
 .have:=LX _ (tm k hk).1;show(ts.getD k _).2.2.length<=_;omega
 .have f:=C.fa.mono hD;exact yo.view (w:=w.tp t) ⟨⟨⟨f.fa.num.EY,f.fa.num.EN,f.fa.num.tab⟩,f.fa.err,f.fa.kn⟩,f.xQ,f.EY,f.EN⟩
 have⟨mm,hm⟩:=C.mx;exact⟨mm,BY (w:=w.tp t) (hD _<|C.fa.xQ _<|show(1:Nat)<10+1 by decide) hm<|.int _ _⟩
end
theorem abh{z:Int}(h:Cn Q w v z)(hQ:∀b,Q b->(∃cs x f,w.heap[b]?=some (.cells cs x f))->Q' b):Cn Q' w v z:=by
 rcases h with h|⟨b,o,h1,h2,h3⟩
 .exact .inl h
 refine .inr ⟨b,o,h1,hQ b h2 ?_,h3⟩;unfold World.cell? at h3;split at h3
 .next c0 e0 f0 hh=>exact⟨_,_,_,hh⟩
 cases h3
theorem af2{cc:Nat}{us:mb}(h:Cu Q w A n cc us)(hQ:∀b,Q b->(∃cs x f,w.heap[b]?=some (.cells cs x f))->Q' b):Cu Q' w A n cc us:=⟨h.1,h.2.1,fun a ha hc=>⟨hQ _ (h.2.2.1 a ha hc).1 (h.2.2.1 a ha hc).2.2,(h.2.2.1 a ha hc).2⟩,h.2.2.2⟩
theorem aug{t:ox}{rv:lW}{ev:lH}(hQ:∀b,Q b->(∃cs x f,w.heap[b]?=some (.cells cs x f))->Q' b):∀{o:vZ},uC Q w t rv ev o->uC Q' w t rv ev o
 |.bad z,⟨h1,h2⟩=>⟨h1,abh h2 hQ⟩
 |.u9 evs code ord mG,⟨A1,c1,A2,c2,h1,h2,h3,h4⟩=>⟨A1,c1,A2,c2,h1,h2,af2 h3 hQ,af2 h4 hQ⟩
theorem aeI{x:Nat->mA}{m:Nat}(h:DC x m Q u w)(hQ:∀b,Q b->(∃cs x f,w.heap[b]?=some (.cells cs x f))->Q' b):DC x m Q' u w:=by
 obtain⟨o,h1,h2⟩:=h;refine⟨o,h1,h2.imp ?_ ?_⟩
 .rintro⟨k,z,ev,a1,a2,a3,a4,a5⟩;exact⟨k,z,ev,a1,a2,a3,a4,abh a5 hQ⟩
 rintro⟨a1,cr,a2,a3,⟨cs,e,a4⟩,a5⟩
 exact⟨a1,cr,a2,hQ _ a3 ⟨_,_,_,a4⟩,⟨cs,e,a4⟩,fun k hk=>by
  have⟨rv,ev,b1,b2⟩:=a5 k hk
  exact⟨rv,ev,aug hQ b1,b2⟩⟩
section
variable{W0 w:lE}{D:lF}{ps:List mA}{ts:List wh}{A B' PA:lO}{c ct pc:Nat}{SB:lF}{wk0 ot0:Int}
theorem alp{z:Nat}{wk ot:Int}{e v2 e2:lH}(C:Cm w D ps ts A B' c ct)(hc:Fx ps ts)(hP:Ct w0 PA pc ps.length (D4 ps) (D6 SB w) w)(BK:∀b,D b->¬SB b)(hK:lD (fun _=>False) W0 w)(Pp:∀b,SB b->W0.heap.size<=b/\b<w.heap.size)(hT:T.size=196)
  (hH:lA (fun i=>T.getD i undef) ((12,v2)::(13,e2)::(10,v)::(11,e)::KF PA B' ps.length pc ts.length ct wk ot)) (r1:DC (xK ps ts) ps.length (D6 SB w) (.tuple #[v,e]) w) (r2:DC (xK ps ts) ps.length (D6 SB w) (.tuple #[v2,e2]) w):
  tQ prog SB z z (G (fm 3 T [.code u7]) []) w (N9 W0):=by
 have hn:=hc.2.1;have hD:∀b,D b->D6 SB w b:=fun b hb=>by have⟨cs,x,f,hh⟩:=C.row b hb;exact⟨⟨(eg.1 hh).1,BK b hb⟩,cs,x,f,hh⟩
 have hC:Closed (RK SB w) w (D6 SB w):=⟨fun b h=>h.1,fun b h=>h.2⟩
 have fin:(∀t,W prog Tryz.f3.ntmps u7 (QF prog Tryz.f3) (fun i=>(Cf (SF nE) (D6 SB w) T).getD i undef)<|wL (SF nE) (D6 SB w)<|w.tp t)->tQ prog SB z z (G (fm 3 T [.code u7]) []) w (N9 W0):=fun hW=>by
  refine tQ.mono (MB.x<|MB.own (fun _ _ h=>h) (asR hC (fun g hg=>hD g<|C.fa.xQ g hg) C.BA hT hW) (fun M a' w' h=>?_) (fun k hk=>hk.elim) (fun k hk=>hk)<|fun k hk=>(Pp k hk).2) ?_
  .obtain⟨_,t',pR,rfl,_⟩:=h
   rfl
  rintro ZO g3 w3 ⟨rfl,zC,M3,LY,BO,t',pR,rfl,ht⟩;exact abv ht (hK.trans BO fun b hb hs=>by have:=(Pp b hs).1;omega)
 have slot:∀{q:Nat} {v:lH},T.getD q undef=v->q<196->T[q]?=some v:=fun {q v} hv hq=>by
  rw[ed]at hv;have e3:q<T.size:=by rw[hT];exact hq
  rw[eB e3]at hv|-;exact kY some hv
 obtain⟨q12,q13,Gl,H8,q0,q1,q2,q3, -⟩:=hH;dsimp only at q12 q13 Gl H8 q0 q1;rw[hn]at q1;have t12:=slot q12 aa;have t13:=slot q13 aa;have t10:=slot Gl aa;have t11:=slot H8 aa;have t0:=slot q0 aa;have t1:=slot q1 aa;have v0:VR (SF nE) (pZ (D6 SB w) 0) (.slice PA ps.length pc) (.slice PA ps.length pc):=NX hP.le fun hc b hb=>(hP.blk hc b hb).2.1;have v1:VR (SF nE) (pZ (D6 SB w) 0) (.slice B' ps.length ct) (.slice B' ps.length ct):=E4 fun b hb=>hD b<|C.ta b hb;have xm:∀k,k<ps.length->(xK ps ts k).nums.length<=2000:=fun k hk=>by have:=hc.2.2.1 _ (I7 (l:=ts) (k:=k) (d:=(none,0,[])) aa).1;show(ts.getD k _).2.2.length<=_;omega
 obtain⟨o,ho,h1⟩:=r1;obtain⟨o',MC,h2⟩:=r2;have same:∀k,k<ps.length->o k=o' k:=fun k hk=>rR.qf (xm k hk) (ho k hk)<|MC k hk;rcases h1 with⟨k,zz,ev,hk,hz,BF,hu,he⟩|⟨nG,cr,hu,Ed,_,CY⟩
 .rcases h2 with⟨k',RY,CG,nY,oM,anC,Em,sW⟩|⟨ano,_⟩
  rotate_left
  .exact ll ((same k hk).symm.trans hz)<|ano k hk zz
  injection hu with hu;injection Em with Em;obtain⟨rfl,rfl⟩:v=.slice none 0 0/\e=ev:=⟨kY (·.getD 0 undef) hu,kY (·.getD 1 undef) hu⟩
  obtain⟨rfl,rfl⟩:v2=.slice none 0 0/\e2=CG:=⟨kY (·.getD 0 undef) Em,kY (·.getD 1 undef) Em⟩
  have ek:k'=k:=by
   rcases hU k k' with h|h|h
   .exact ll ((same k hk).symm.trans hz)<|anC k h zz
   .exact h.symm
   exact ll ((same k' nY).trans oM)<|BF k' h RY
  subst ek;have ez:zz=RY:=by have:=(hz.symm.trans (same k' hk)).trans oM;injection this
  subst ez;refine fin fun t=>?_;have⟨g,b1,o1,G⟩:=ahe C hc hP hD (fun b h=>h) t;exact awR G ho hk hz BF (adK he (fun b h=>h) t) (adK sW (fun b h=>h) t) ⟨y8 t0 v0,y8 t1 v1,y8 t10<|.qI _ _,y8 t11<|abi he fun b h=>h,y8 t12<|.qI _ _,y8 t13<|abi sW fun b h=>h,trivial⟩
 rcases h2 with⟨k',RY,CG,nY,oM,_⟩|⟨_,cr',Em,ach,_,aps⟩
 .exact ll ((same k' nY).trans oM)<|nG k' nY RY
 injection hu with hu;injection Em with Em;obtain⟨rfl,rfl⟩:v=me cr 0 ps.length ps.length/\e=.nilIface:=⟨kY (·.getD 0 undef) hu,kY (·.getD 1 undef) hu⟩
 obtain⟨rfl,rfl⟩:v2=me cr' 0 ps.length ps.length/\e2=.nilIface:=⟨kY (·.getD 0 undef) Em,kY (·.getD 1 undef) Em⟩
 refine fin fun t=>?_;have⟨g,b1,o1,G⟩:=ahe C hc hP hD (fun b h=>h) t;refine awS G ho (fun k hk=>?_) ⟨y8 t0 v0,y8 t1 v1,y8 t10 (E4 fun b hb=>by cases hb;exact Ed),y8 t11 .nilIface,y8 t12 (E4 fun b hb=>by cases hb;exact ach),y8 t13 .nilIface,trivial⟩;have⟨rv,ev,hr,oz⟩:=CY k hk;have⟨Ig,CG,qF,anU⟩:=aps k hk;have hs:=same k hk;cases mH:o k with
 |bad z=>exact ll mH<|nG k hk z|u9 evs code ord mG=>rw[<-hs,mH]at qF;rw[mH]at hr;exact⟨evs,code,ord,mG,Z,afT hr Ed oz (fun b h=>h) t,afT qF ach anU (fun b h=>h) t⟩
theorem aqi(C:Cm W0 D ps ts A B' c ct)(hT:T.size=Tryz.f3.ntmps)(Ma:(fun i=>T.getD i undef)=entry #[.slice A ps.length c,.slice B' ts.length ct,Y wk0,Y ot0])(BE:∀u∈T,VR (SF nE) (pZ D 0) u u):
  ∃z',tQ prog (fun _=>False) 1 z' (G (fm 3 T [.code yu]) []) W0 (N9 W0):=by
 have Wj:=Nn wk0 (n:=16) aa;have Wm:=Nn ot0 (n:=16) aa
 have first:=MB.x (MB.own (z:=1) (fun _ _ h=>h) (asI C hT Ma BE) (fun M a' w' h=>by
  rcases h with⟨_,_,t',pR,rfl,_⟩|⟨_,_,_,_,_,_,_,_,rfl⟩
  .rfl
  rfl) (fun k hk=>hk.elim) (fun k hk=>hk) (fun k hk=>hk.elim))
 by_cases hc:Fx ps ts;rotate_left
 .refine⟨1,first.mono ?_⟩;rintro Sc g1 w1 ⟨rfl,nZ,M1,Hk,⟨_,sG,t',pR,rfl,ht⟩|⟨h,_⟩⟩
  .exact abv ht sG
  exact ll h hc
 have TJ:(1+(sq wk0 16:Int))=((1+sq wk0 16:Nat):Int):=aa;have TF:(1+(sq ot0 16:Int))=((1+sq ot0 16:Nat):Int):=aa;rw[TJ,TF]at first
 generalize 1+sq wk0 16=wk at first TJ Wj
 generalize 1+sq ot0 16=ot at first TF Wm
 have BU:1<=wk/\wk<=16:=aa;have MG:1<=ot/\ot<=16:=aa;clear TJ TF Wj Wm;have hn:=hc.2.1;refine⟨1+wk+ot,first.bind ?_⟩;rintro Sc g1 w1 ⟨rfl,nZ,M1,Hk,⟨h,_⟩|⟨_,PA,pc,⟨sG,hP⟩,ρ,a,hf,hH,rfl⟩⟩
 .exact ll hc h
 rw[hn]at hH|-;have C1:=C.kept sG<|fun b _=>id;have ZE:=aks (pc:=pc) C1 hc hP;refine tQ.bind (aaz ZE BU.1 BU.2 aa aa) ?_;rintro Sd g2 w2 ⟨Wg,u,rfl,apT,apU,rfl,nO,x9⟩;have ZF:=ZE.kept (SB':=fun b=>False\/b=Wg) nO fun b hb=>hb.elim (fun h=>h.elim) fun e=>.inr (by rw[e];exact⟨apT,apU⟩);have l12:=nO.size;obtain⟨v,e,rfl⟩:∃v e,u=.tuple #[v,e]:=by obtain⟨_,_,⟨_,_,_,_,_,_,rfl,_⟩|⟨_,_,rfl,_⟩⟩:=x9<;>exact⟨_,_,rfl⟩
 have second:=MB.x (z:=1+wk) (MB.own (SB:=fun b=>False\/b=Wg) (fun _ _ h=>h) (asP (SB:=fun b=>False\/b=Wg) (w:=w2) (v:=v) (e:=e) hf hH) (fun M a' w' h=>by
  obtain⟨_,_,_,_,_,rfl⟩:=h
  rfl) (fun k hk=>hk.elim) (fun k hk=>hk) (fun b hb=>(ZF.sb b hb).1))
 apply tQ.bind second;rintro ZO g3 w3 ⟨rfl,zC,M3,LY,BO,ρ2,a2,VI,hH2,rfl⟩;have ZG:=ZF.kept (SB':=fun b=>False\/b=Wg) BO fun b hb=>.inl hb;have l23:=BO.size;refine tQ.bind (aaz ZG MG.1 MG.2 aa aa) ?_;rintro SB4 g4 w4 ⟨DO,u2,rfl,apV,apW,rfl,CR,acY⟩;have M4m:=ZG.kept (SB':=fun b=>(False\/b=Wg)\/b=DO) CR fun b hb=>hb.imp id fun e=>by rw[e];exact⟨apV,apW⟩
 have l34:=CR.size;obtain⟨v2,e2,rfl⟩:∃v e,u2=.tuple #[v,e]:=by obtain⟨_,_,⟨_,_,_,_,_,_,rfl,_⟩|⟨_,_,rfl,_⟩⟩:=acY<;>exact⟨_,_,rfl⟩
 have aw3:=MB.x (z:=1+wk+ot) (MB.own (SB:=fun b=>(False\/b=Wg)\/b=DO) (fun _ _ h=>h) (asQ (SB:=fun b=>(False\/b=Wg)\/b=DO) (w:=w4) (v2:=v2) (e2:=e2) VI hH2) (fun M a' w' h=>by
  obtain⟨_,_,_,_,rfl⟩:=h
  rfl) (fun k hk=>hk.elim) (fun k hk=>hk) (fun b hb=>(M4m.sb b hb).1))
 apply tQ.bind aw3;rintro SB5 g5 w5 ⟨rfl,hs5,M5,hM5,Hu,T',D9,hH',rfl⟩;have l45:=Hu.size;have l01:=sG.size;have b2:∀b,b<w2.heap.size->b≠Wg->w5.heap[b]?=w2.heap[b]?:=fun b h1 h2=>((Hu.blk b aa<|fun h=>h.elim (fun h=>h.elim id h2) aa).trans<|CR.blk b aa<|fun h=>h.elim id h2).trans (BO.blk b h1<|fun h=>h.elim id h2)
 have b4:∀b,b<w4.heap.size->b≠Wg->b≠DO->w5.heap[b]?=w4.heap[b]?:=fun b h1 h2 h3=>Hu.blk b h1<|fun h=>h.elim (fun h=>h.elim id h2) h3;have b1:∀b,b<w1.heap.size->w5.heap[b]?=w1.heap[b]?:=fun b h1=>(b2 b aa aa).trans<|nO.blk b h1 id;have ZB:lD (fun _=>False) w1 w5:=⟨aa,fun b h1 _=>b1 b h1,((Hu.tape.trans CR.tape).trans BO.tape).trans nO.tape,((Hu.os.trans CR.os).trans BO.os).trans nO.os,((Hu.out.trans CR.out).trans BO.out).trans nO.out⟩
 have C5:=C1.kept ZB<|fun b _=>id;have Yw:∀b,b<w5.heap.size->b≠Wg->b≠DO->(∃cs x f,w5.heap[b]?=some (.cells cs x f))->D6 (fun b=>(False\/b=Wg)\/b=DO) w5 b:=fun b h1 h2 h3 h4=>⟨⟨h1,fun h=>h.elim (fun h=>h.elim id h2) h3⟩,h4⟩
 have hP5:Ct W0 PA pc ps.length (D4 ps) (D6 (fun b=>(False\/b=Wg)\/b=DO) w5) w5:=by
  refine⟨hP.le,fun hc b hb=>?_,fun h0=>?_⟩
  .have⟨h1,h2,h3⟩:=hP.blk hc b hb;have lX:=(Hk b h2).1;have LW:∃cs x f,w5.heap[b]?=some (.cells cs x f):=by rw[b1 b lX];exact h3
   exact⟨h1,Yw b aa aa aa LW,LW⟩
  have xU:pc≠0:=by have:=hP.le;omega
  obtain⟨g,rfl,oz⟩:=hP.at_ h0;exact⟨g,Z,fun j u hu=>(yx<|b1 g (Hk g (hP.blk xU g Z).2.1).1).trans<|oz j u hu⟩
 refine alp (w0:=W0) C5 hc hP5 (fun b hd=>?_) (sG.trans ZB fun _ _ h=>h) (fun b hb=>?_) D9 (by rw[hn];exact hH') (aeI (x9.keep (Q':=fun b=>b<w5.heap.size/\b≠Wg/\b≠DO) (fun b hb=>?_)<|fun b hb=>?_) fun b hb h=>Yw b hb.1 hb.2.1 hb.2.2 h)<|aeI (acY.keep (Q':=fun b=>b<w5.heap.size/\b≠Wg/\b≠DO) (fun b hb=>?_)<|fun b hb=>?_) fun b hb h=>Yw b hb.1 hb.2.1 hb.2.2 h
 .have⟨cs,x,f,hh⟩:=C1.row b hd;have:=(eg.1 hh).1;exact fun h=>h.elim (fun h=>h.elim id aa) aa
 .rcases hb with(h|rfl)|rfl
  .exact h.elim
  .omega
  omega
 .obtain⟨h1,h2,h3⟩:=hb;exact⟨aa,h3,aa⟩
 .obtain⟨h1,h2,h3⟩:=hb;exact b2 b h2 h3
 .obtain⟨h1,h2,h3⟩:=hb;exact⟨aa,aa,h3⟩
 obtain⟨h1,h2,h3⟩:=hb;exact b4 b h2 aa h3
theorem aAg(C:Cm W0 D ps ts A B' c ct):∃M last o' w' t',runNT prog (M+1) (solo (G (Frame.enter prog 3 #[.slice A ps.length c,.slice B' ts.length ct,Y wk0,Y ot0] .normal) []) W0) #[]=(.ended o' w',t')/\runN prog M (solo (G (Frame.enter prog 3 #[.slice A ps.length c,.slice B' ts.length ct,Y wk0,Y ot0] .normal) []) W0)=.next last/\step prog last=.ended o' w'/\Go.Conc.Good prog (ZL W0) last o' w' t':=by
 have hbF:Tryz.f3.body=some yu:=by
  unfold yu;cases h:Tryz.f3.body with
  |some c=>rfl|none=>exact ll (show Tryz.f3.body.isSome=true by kernel_rfl) (by rw[h];simp)
 rw[enter_at _ func3 hbF]
 have⟨z',h⟩:=aqi (wk0:=wk0) (ot0:=ot0) C (T:= #[.slice A ps.length c,.slice B' ts.length ct,Y wk0,Y ot0]++Array.replicate (Tryz.f3.ntmps-(#[.slice A ps.length c,.slice B' ts.length ct,Y wk0,Y ot0]:lW).size) undef) (by rw[XC];simp) (abJ _ _) (fun u hu=>by
  rcases ig.1 hu with h|h
  .simp only[iB,jM,iD,ld]at h;rcases h with rfl|rfl|rfl|rfl
   .exact E4 C.pa
   .exact E4 C.ta
   .exact .int _ _
   exact .int _ _
  rw[(gf.1 h).2];exact VR.undef)
 exact als h
end
open Go Go.Conc Go.RowKit
open Go.ChangeShapes Go.WideShapes Go.Deep
section
variable{H:Type}{enc:TypeId×Value->H}{w:lE}{base:Nat}{spare:pw}{held:Bool}
theorem asz{aBo:Nat}{y:mb}{x:DataW H×List MemPlace}(hf:DataW.trod enc prog w base spare held aBo 29 y=some x):∃p:mA,y=p.pl:=by
 have⟨ys,n',_,_,aBn,zD,tE⟩:=DataW.trod_struct underlying29 hf;have hC:prog.cellsOf 29=8:=ai;have hC0:prog.cellsOf 27=5:=ai;have hC1:prog.cellsOf 9=1:=ai;have hC3:prog.cellsOf 3=1:=ai;rw[hC]at aBn;have hg:∀(i:Nat),i<4->∃y,ys[i]?=some y:=fun i hi=>⟨_,nM<|by rw[zD];exact hi⟩
 match y,aBn with
 |[c0,c1,c2,c3,c4,c5,c6,c7],_=>have f0:=tE 0 _ rfl;have f1:=tE 1 _ rfl;have f2:=tE 2 _ rfl;have f3:=tE 3 _ rfl;have⟨y0,g0⟩:=hg 0 aa;have⟨y1,g1⟩:=hg 1 aa;have⟨y2,g2⟩:=hg 2 aa;have⟨y3,g3⟩:=hg 3 aa;rw[g0]at f0;rw[g1]at f1;rw[g2]at f2;rw[g3]at f3;replace f0:DataW.trod enc prog w base spare held n' 27 (List.take (prog.cellsOf 27)<|List.drop 0 [c0,c1,c2,c3,c4,c5,c6,c7])=some y0:=f0;rw[hC0]at f0;replace f1:DataW.trod enc prog w base spare held n' 9 (List.take (prog.cellsOf 9)<|List.drop 5 [c0,c1,c2,c3,c4,c5,c6,c7])=some y1:=f1;rw[hC1]at f1;replace f2:DataW.trod enc prog w base spare held n' 9 (List.take (prog.cellsOf 9)<|List.drop 6 [c0,c1,c2,c3,c4,c5,c6,c7])=some y2:=f2;rw[hC1]at f2;replace f3:DataW.trod enc prog w base spare held n' 3 (List.take (prog.cellsOf 3)<|List.drop 7 [c0,c1,c2,c3,c4,c5,c6,c7])=some y3:=f3;rw[hC3]at f3;have⟨n,k,a,t,b,e0⟩:=asA f0;have⟨s1,e1,_⟩:=DataW.trod_string nS f1;have⟨s2,e2,_⟩:=DataW.trod_string nS f2;have⟨z3,e3,_⟩:=jr sM f3;simp only[ju,gi,gp,jA,iV,and_true]at e0 e1 e2 e3;obtain⟨rfl,rfl,rfl,rfl,rfl⟩:=e0;subst e1 e2 e3;exact⟨⟨n,k,a,t,b,s1.data.toList,s2.data.toList,z3,[]⟩,Z⟩
abbrev DF(w:World)(b:Nat):Prop:=b<w.heap.size/\∃cs e f,w.heap[b]?=some (.cells cs e f)
theorem ON{a:Addr}(h:w.cell? a=some u):DF w a.block/\a.spot=none:=by
 refine⟨⟨fc w _ h,?_⟩,agE h⟩;unfold World.cell? at h;split at h
 .next c0 e0 f0 hh=>exact⟨_,_,_,hh⟩
 cases h
theorem Yr(h:Rd w D s v n xs)(hs:0<s):Rd w (DF w) s v n xs:=by
 obtain⟨A',c',h1,h2,h3,h4,h5⟩:=h;refine⟨A',c',h1,h2,h3,h4,fun hn=>?_⟩;have⟨b,o,e,hb,hc⟩:=h5 hn;have hl:0<xs.length:=by rw[h4];exact Nat.mul_pos hn hs
 exact⟨b,o,e,(ON<|hc 0 _<|nM hl).1,hc⟩
theorem aAn{d:DataW H}{p:List MemPlace}(h:DataW.Trod enc prog w base spare held 22 v d p)(hv:v.cells= #[v]):∃(A:lO) (c:Nat) (ps:List mA),v=.slice A ps.length c/\Rd w (DF w) 8 (.slice A ps.length c) ps.length (ps.flatMap mA.pl):=by
 obtain⟨aBo,hf⟩:=h;rw[hv]at hf;obtain⟨A,n,c,ys,rfl,_,_,zD,Ek,HR⟩:=XJ (size:=8) rC ai aa hf
 have⟨l,hl,tE,_⟩:=decode (f:=mA.pl) (R:=fun _=>True) ys (fun y hy=>by
  have⟨_,n',d,hd⟩:=HR y hy;have⟨s,hs⟩:=asz hd
  exact⟨s,hs,trivial⟩)
 refine⟨A,c,l,by rw[hl,zD],?_⟩;rw[hl,zD,<-tE];exact Yr Ek aa
theorem asB{aBo:Nat}{x:DataW H×List MemPlace}(h:DataW.trod enc prog w base (fun _=>true) held aBo 25 [v]=some x):∃t:wh,v=xE t/\pL w (DF w) (xE t) t.2.2/\(t.2.1≠0->∀a,t.1=some a->DF w a.block/\a.spot=none):=by
 have⟨l,hl,_⟩:=asy nz sM ai h;have Hv:=hl;obtain⟨A,c,rfl,_⟩:=Hv;refine⟨(A,c,l),Z,Yr hl aa,fun hc a ha=>?_⟩;have ha:A=some a:=ha;have hc:c≠0:=hc;subst ha;rcases open_slice nz h with⟨mL,_⟩|⟨a',len,cap,m,n,D,Pl,mL,_,_,_,hm,_,hi⟩
 .injection mL with mL;injection mL with q;cases q
 injection mL with mL;injection mL with q1 q2 q3;injection q1 with q1;subst q1;rw[lq rfl]at hm;have⟨cs',h1,_⟩:=hi 0 aa;rw[show prog.cellsOf 3=1 by kernel_rfl]at h1;have⟨_,h3,h4⟩:=World.cells?_some h1;have h2:=h4 0 aa;rw[nM aa]at h2;have h5:=ON h2;obtain⟨b,o,sp⟩:=a;exact h5
theorem aAo{d:DataW H}{p:List MemPlace}(h:DataW.Trod enc prog w base (fun _=>true) held 23 v d p)(hv:v.cells= #[v]):∃(B':lO) (ct:Nat) (ts:List wh),v=.slice B' ts.length ct/\Rd w (DF w) 1 (.slice B' ts.length ct) ts.length (ts.map xE)/\∀t∈ts,pL w (DF w) (xE t) t.2.2/\(t.2.1≠0->∀a,t.1=some a->DF w a.block/\a.spot=none):=by
 obtain⟨aBo,hf⟩:=h;rw[hv]at hf;obtain⟨A,n,c,ys,rfl,_,_,zD,Ek,HR⟩:=XJ (size:=1) E5 ai aa hf
 have⟨l,hl,tE,hR⟩:=decode (f:=fun t:wh=>[xE t]) (R:=fun t=>pL w (DF w) (xE t) t.2.2/\(t.2.1≠0->∀a,t.1=some a->DF w a.block/\a.spot=none)) ys (fun y hy=>by
  have⟨h1,n',d,hd⟩:=HR y hy
  match y,h1 with
  |[r],_=>
   obtain⟨t,rfl,h2⟩:=asB hd
   exact⟨t,Z,h2⟩)
 refine⟨A,c,l,by rw[hl,zD],?_,hR⟩;have:l.map xE=ys.flatten:=by rw[tE];clear tE hl hR;induction l with|nil=>rfl|cons a l ih=>simp[ih]
 rw[this,hl,zD];exact Yr Ek aa
end
theorem amd:((List.range 10).all fun g=>(((begin prog (fun _ _=>0) default).world.heap[g]?).bind Obj.row?).isSome):=ai
theorem Pb:prog.globals.size=10:=ai
def aqr:Option Obj->Bool
 |some (.cells _ _ _)=>true|_=>false
theorem abL:aqr ((begin prog (fun _ _=>0) default).world.heap[10]?)/\10<(begin prog (fun _ _=>0) default).world.heap.size:=⟨ai,ib ai⟩
section
variable{w:lE}
theorem abK(xq:w.ShapedOpen prog):∀g,g<10+1->DF w g:=fun g hg=>by
 rcases j6 g 10 with lX|oh
 .have h1:=iq.1 amd g<|jy.2 lX;have⟨⟨zero,t⟩,hz⟩:=eO.1 h1;have⟨cs,hc,_⟩:=xq.1 g zero t (by rw[Pb];exact lX) hz;exact⟨(eg.1 hc).1,_,_,_,hc⟩
 obtain rfl:g=10:=aa;have⟨o,o',h1,h2,h3⟩:=xq.2 10 (by rw[Pb];exact ku _) abL.2;rw[Pb,j8,lp aw]at h3;subst h3;have hr:=abL.1;rw[h2]at hr;cases o with
 |cells cs e f=>exact⟨(eg.1 h1).1,_,_,_,h1⟩|_=>cases hr
theorem alM(xq:w.ShapedOpen prog)(h:laidMetH prog JI w):yo (DF w) w:=by
 have h0:laidMet prog [("math/bits.deBruijn32tab",Rows.laid_math_bits_deBruijn32tab),("math/bits.deBruijn64tab",Rows.laid_math_bits_deBruijn64tab),("internal/strconv.uint64pow10",Rows.laid_internal_strconv_uint64pow10),("unicode/utf8.acceptRanges",Rows.laid_unicode_utf8_acceptRanges),("strconv.ErrRange",Rows.laid_strconv_ErrRange),("strconv.ErrSyntax",Rows.laid_strconv_ErrSyntax),("testimony/model.knows",Rows.laid_testimony_model_knows),("unicode/utf8.first",Rows.laid_unicode_utf8_first)] w:=h.1;refine⟨⟨asc h,ant h,aqI h⟩,abK xq,?_,?_⟩
 .obtain⟨a,s,hv,hc, -⟩:=laid_sentinel (tp:=310) (te:=312) (ti:=32) (h0.tail.tail.tail.tail.tail) LQ ai mY OW underlying310 underlying312 rfl rfl nS ai ai;have⟨h1,h2⟩:=ON hc;obtain⟨b,o,sp⟩:=a;dsimp only at h1 h2;subst h2;exact⟨_,b,o,hv,h1⟩
 obtain⟨a,s,hv,hc, -⟩:=laid_sentinel (tp:=310) (te:=312) (ti:=32) (h0.tail.tail.tail.tail) LP ai mY OW underlying310 underlying312 rfl rfl nS ai ai;have⟨h1,h2⟩:=ON hc;obtain⟨b,o,sp⟩:=a;dsimp only at h1 h2;subst h2;exact⟨_,b,o,hv,h1⟩
theorem ahs{base:Nat}{c e:Nat}{t:lT}(ht:prog.underlying t=some (.slice e))(ho:Value.okWide prog w .any base t (.slice A n c))(b:Nat)(hb:A.map (·.block)=some b):DF w b:=by
 obtain⟨a,rfl,rfl⟩:=ft.1 hb;simp only[Value.okWide,Cell.okWide,ht,Cell.ok]at ho;obtain⟨_,_,_,_,row,cells,hs,_⟩:=ho;unfold World.shape? at hs;split at hs
 .next c0 e0 f0 hh=>exact⟨(eg.1 hh).1,_,_,_,hh⟩
 cases hs
theorem ayL{base:Nat}{ps:List mA}{ts:List wh}{B':lO}{c ct:Nat}(hp:Rd w (DF w) 8 (.slice A ps.length c) ps.length (ps.flatMap mA.pl))(ht:Rd w (DF w) 1 (.slice B' ts.length ct) ts.length (ts.map xE))(HJ:∀t∈ts,pL w (DF w) (xE t) t.2.2/\(t.2.1≠0->∀a,t.1=some a->DF w a.block/\a.spot=none))
  (o0:Value.okWide prog w .any base 22 (.slice A ps.length c)) (o1:Value.okWide prog w .any base 23 (.slice B' ts.length ct)) (xq:w.ShapedOpen prog) (h:laidMetH prog JI w):Cm w (DF w) ps ts A B' c ct:=
 ⟨fun b hb=>hb.2,by rw[Pb];exact j4 (abK xq 10<|iH _).1,alM xq h,vX.of xq,hp,ht,HJ,ahs rC o0,ahs E5 o1⟩
theorem lD.below{w1:lE}(h:lD (fun _=>False) w w1):Below w.heap.size w w1:=⟨h.os,h.tape,h.out,h.size,fun k hk=>h.blk k hk id⟩
end
open Go Go.Conc
theorem aAr{H:Type}{enc:TypeId×Value->H}{a:Assume}{C:Checked}{os:Os}{f:FuncId}{fn:Func}{s:ChangeSpec}{conds:List PathCond}{apart fresh handsOn again:Bool}{X:World->Array Value->Prop}
  (hX:∀(w w':lE) (args:lW),w.heap=w'.heap->X w args->X w' args)
  (own:ownKnob C.prog.godebug=none) (started:os.Started) (qh:C.prog.funcs[f]?=some fn)
  (witness:∃(w:lE) (tape:Tape) (i:Input),w.os=os/\(w.forCall tape i).Shaped C.prog/\i.vars=[]/\Input.okWide C.prog (w.forCall tape i) .any w.heap.size f i/\
   ((s.pre enc C.prog fn conds apart (w.forCall tape i).memory i.args/\X (w.forCall tape i).memory i.args)/\sizedMet enc C.prog fn (OpenSpec.ofChange s) apart (w.forCall tape i).memory i.args)/\a.holds C.prog (lone (Frame.enter C.prog f i.args .normal) [] (w.forCall tape i)))
  (runs:∀(W:lE) (base:Nat) (args:lW) (ds gs:List (DataW H)) (before:List MemPlace),W.ShapedOpen C.prog->
   (∀(j:Nat) t v,fn.params[j]?=some t->args[j]?=some v->Value.okWide C.prog W .any base t v)->
   DataW.Whole enc C.prog fn.params.toList s.vars apart W args.toList ds gs before->
   conds.all (PathCond.test C.prog ⟨fn.params.toList,ds,s.plain.varTypes C.prog,gs⟩)->
   (DataW.weightsEach C.prog (fn.params.toList++s.plain.varTypes C.prog)<|ds++gs).all (· <=reachBytes)->X W args->
   a.holds C.prog (lone (Frame.enter C.prog f args .normal) [] W)->
   ∃M last o w' t',runNT C.prog (M+1) (solo (G (Frame.enter C.prog f args .normal) []) W) #[]=(.ended o w',t')/\runN C.prog M (solo (G (Frame.enter C.prog f args .normal) []) W)=.next last/\
    step C.prog last=.ended o w'/\Conc.Good C.prog (fun v W'=>s.post enc C.prog fn apart fresh handsOn again W args v W') last o w' t'):
  ReturnsInLeavingWide a C os f .any (fun w args=>(s.pre enc C.prog fn conds apart w args/\X w args)/\sizedMet enc C.prog fn (OpenSpec.ofChange s) apart w args) (s.post enc C.prog fn apart fresh handsOn again):=by
 apply returnsInLeavingWide_of_good own started witness;intro w tape i _ xq _ mH Wu aos;obtain⟨_,_,_,FG,Jn,_,_,_,_,apM⟩:=mH;have e:FG=fn:=jl<|Jn.symm.trans qh;subst e;obtain⟨⟨⟨ds,gs,before,hw,hc⟩,hx⟩,hz⟩:=Wu;have HP:=DataW.Whole.of_heap (w':=w.forCall tape i) (by rfl) hw;have⟨M,last,o,w',t',h1,h2,h3,h4⟩:=runs (w.forCall tape i) w.heap.size i.args ds gs before xq apM HP hc (hz.weights hw) (hX _ _ _ (by rfl) hx) aos;exact⟨M,last,o,w',t',h1,h2,h3,h4.mono fun v hp=>ChangeSpec.post_blind hp⟩
theorem azM(Lk:Looks){p:Pinned}{s:OpenSpec}{c:OpenClaim}(kinds:List LaidKind)(aho:Bool)(Eb:Bool×String)(lk:Bool)
  (hc:c.holds p s) (hw:c.wfByText s)
  (apI:c.laidByTextAt Lk p kinds aho)
  (mo:c.start=.entering) (Ei:c.noBlocks=false/\c.again=false) (hm:p.checked.prog.mainIs=some (Eb.1,Eb.2.toList)) (hn:(!Eb.1&&Eb.2.isEmpty&& !lk)=false)
  (hl:∀f fn,p.checked.prog.funcNamed c.func=some f->p.checked.prog.funcs[f]?=some fn->lk=p.checked.prog.looks []/\∀(j:Nat) t,fn.params[j]?=some t->p.checked.prog.wantsStandIn t=false)
  (hg:true=c.goesBy p.checked.prog):
  Claim7.holds p (.plain s) {stood:={row:=c,standIns:=[],harness:=Eb,looks:=lk},kinds:=[],alts:=[],goes:=true,laidByText:=true,laidKinds:=kinds,laidTests:=aho,laidLooks:=Lk}:=by
 have h6:Claim7.isSixth {stood:={row:=c,standIns:=[],harness:=Eb,looks:=lk},kinds:=[]}=false:=by simpa[Claim7.isSixth]using hn
 refine⟨?_,(fun D hD=>by cases hD),apI,(fun h=>by cases h),hg⟩;have⟨_,rest⟩:=Claim7.new_of_sixth hc Eb lk mo Ei hm h6 hl;exact⟨hw,rest⟩
end
end Go.Proofs.YtfjcghhjlmfggaaGreatDoor
