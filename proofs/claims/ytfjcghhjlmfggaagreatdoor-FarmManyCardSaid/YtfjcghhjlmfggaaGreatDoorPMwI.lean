/- FarmMany: lemmas. -/
import Derived.Test.YtfjcghhjlmfggaaGreatDoorPWgl
import Derived.Test.YtfjcghhjlmfggaaGreatDoorPBse
import Derived.Conc.CrowdMono
import Derived.Test.YtfjcghhjlmfggaaGreatDoorPFarJ
set_option linter.defProp false
set_option linter.unusedSectionVars false
set_option maxRecDepth 100000
set_option maxHeartbeats 4000000
set_option linter.unusedVariables false
set_option linter.unusedSimpArgs false
namespace Go.Proofs.YtfjcghhjlmfggaaGreatDoor
noncomputable section
theorem ba{p:Prop}(h:p:=by unfold mg.cs;rw[hz,hzo];simp[Goroutine.finishComm,Go.Conc.served,commResult,rcase,goInt,List.zipIdx]):p:=h
theorem da{p:Prop}(h:p:=by simp[oW,DZ,EL,yQ,Aa,Tryz.f12]):p:=h
theorem bg{p:Prop}(h:p:=by simp[o5,oW,DZ,EL,yQ,Aa,Tryz.f12]):p:=h
theorem bJ{p:Prop}(h:p:=by rw[List.getElem?_map,List.getElem?_range (by omega)];rfl):p:=h
theorem cn{p:Prop}(h:p:=by rw[dd];decide):p:=h
def ic:=@Go.setCell_eq_setRow
open Tryz
open Go Go.Conc Go.Conc.Lib Go.ConcR.Gen Go.RowKit
open Go.ConcR (stA smA rd wr KK WgAt Bk DC0)
variable{V:mb}{i n:Nat}{D M:lF}{P:lY}{e:lT}{v:lH}{w w1:lE}
def wZ:Frame:={(default:Frame)with fn:=prog.funcs.size,defers:=[],mode:=.panicking [goexitEntry]}
abbrev bW:Frame:=baseD 12
def Aa:Code:=Tryz.f12.body.getD .skip
def yQ:Code:=match Aa with|.seq _ (.block _ (.loop c))=>c|_=>.skip
structure LM where
 Wg:Nat
 Ch:Nat
 Ov:Nat
 Bj:Nat
 Bo:Nat
 Bp:Nat
 Bt:Nat
 Br:Nat
 Be:Nat
 Cr:Nat
 Ce:Nat
 Ap:Nat
 pc:Nat
 At:Nat
 ao:Nat
 tc:Nat
 m:Nat
 AI:Nat->Array Value
 tape:Nat->Value
 Kn:World->Prop
def LM.Ab(l:LM):List Value:=[.pointer (some ⟨l.Wg,0,none⟩),.pointer (some ⟨l.Bj,0,none⟩),.pointer (some ⟨l.Bp,0,none⟩),.pointer (some ⟨l.Bt,0,none⟩),.pointer (some ⟨l.Br,0,none⟩),.pointer (some ⟨l.Be,0,none⟩),.pointer (some ⟨l.Bo,0,none⟩)]
def LM.call(l:LM):Deferred:={target:=.fn (.func 12) l.Ab.toArray,args:= #[]}
abbrev dW(l:LM):List Deferred:=[dcall 13 #[.pointer (some ⟨l.Wg,0,none⟩)]]
structure oF(l:LM)(w:lE):Prop where
 Xj:w.cell? ⟨l.Bj,0,none⟩=some (.chan<|some l.Ch)
 over:w.cell? ⟨l.Bo,0,none⟩=some (.chan<|some l.Ov)
 aeZ:0<l.m->w.cell? ⟨l.Bp,0,none⟩=some (.slice (some ⟨l.Ap,0,none⟩) l.m l.pc)
 ahl:0<l.m->w.cell? ⟨l.Bt,0,none⟩=some (.slice (some ⟨l.At,l.ao,none⟩) l.m l.tc)
 afU:0<l.m->w.cell? ⟨l.Br,0,none⟩=some (.slice (some ⟨l.Cr,0,none⟩) l.m l.m)
 abj:0<l.m->w.cell? ⟨l.Be,0,none⟩=some (.slice (some ⟨l.Ce,0,none⟩) l.m l.m)
 AI:∀k,k<l.m->∀(i:Nat) u,(l.AI k)[i]?=some u->w.cell? ⟨l.Ap,8*k+i,none⟩=some u
 tape:∀k,k<l.m->w.cell? ⟨l.At,l.ao+k,none⟩=some (l.tape k)
 kn:l.Kn w
structure oP(c:mg)(l:LM):Prop where
 wg:c.A.Wg=l.Wg
 ch:c.A.Ch=l.Ch
 ov:c.A.Ov=l.Ov
 rj:c.A.R l.Bj
 ro:c.A.R l.Bo
 rp:c.A.R l.Bp
 rt:c.A.R l.Bt
 rr:c.A.R l.Br
 re:c.A.R l.Be
 ra:0<l.m->c.A.R l.Ap
 rb:0<l.m->c.A.R l.At
 p8:∀k,(l.AI k).size=8
 kn:∀w w1:lE,w.heap.size<=w1.heap.size->(∀b,c.A.R b->w1.heap[b]?=w.heap[b]?)->l.Kn w->l.Kn w1
theorem oF.keep{c:mg}{l:LM}(h:oF l w)(k:oP c l)(hs:w.heap.size<=w1.heap.size)(hb:∀b,c.A.R b->w1.heap[b]?=w.heap[b]?):oF l w1:=
 ⟨(mg.cell_of (hb _ k.rj)).trans h.Xj,(mg.cell_of (hb _ k.ro)).trans h.over,fun hm=>(mg.cell_of (hb _ k.rp)).trans (h.aeZ hm),fun hm=>(mg.cell_of (hb _ k.rt)).trans (h.ahl hm),fun hm=>(mg.cell_of (hb _ k.rr)).trans (h.afU hm),fun hm=>(mg.cell_of (hb _ k.re)).trans (h.abj hm),
 fun j hj i u hu=>(mg.cell_of (hb _ (k.ra aa))).trans (h.AI j hj i u hu),fun j hj=>(mg.cell_of (hb _ (k.rb aa))).trans (h.tape j hj),k.kn _ _ hs hb h.kn⟩
theorem oF.rely{c:mg}{l:LM}(h:oF l w)(k:oP c l)(r:c.Rel M w w1):oF l w1:=h.keep k r.size fun b hb=>r.mine b (.inr hb)
theorem aju(l:LM)(w:lE):stepG prog false (born prog l.call) w=
  .go (G (bW.at ⟨(l.Ab++List.replicate 26 undef).toArray,[]⟩ [.code Aa]) [wZ]) w #[]:=by
 simp[born,LM.call,LM.Ab,stepG,unwind,callDeferred,invoke,callFunc,func12,Tryz.f12,seen,GStep.after,G,Frame.enter,Frame.at,bW,baseD,wZ,Aa]
theorem ato(T:lW)(td:nA):QuitsD prog 2 0 (G {bW.at ⟨T,[]⟩ td with mode:=.returning} [wZ]):=by
 refine QuitsD.ctl (g':=G wZ []) Z (fun w=>?_) ?_
 .simp[G,stepG,unwind,doReturn,results,Frame.at,bW,baseD,wZ,func12,Tryz.f12,seen,GStep.after,goexitEntry]
 refine QuitsD.ctl (g':={G wZ []with status:=.finished}) Z (fun w=>?_) ⟨Z,Z⟩;simp[G,stepG,unwind,wZ,goexitEntry,Frame.catches]
 rfl
theorem adV(h:V.length=26):∃a0 a1 a2 a3 a4 a5 a6 a7 a8 a9 b0 b1 b2 b3 b4 b5 b6 b7 b8 b9 c0 c1 c2 c3 c4 c5:lH,V=[a0,a1,a2,a3,a4,a5,a6,a7,a8,a9,b0,b1,b2,b3,b4,b5,b6,b7,b8,b9,c0,c1,c2,c3,c4,c5]:=by
 match V,h with
 |[a0,a1,a2,a3,a4,a5,a6,a7,a8,a9,b0,b1,b2,b3,b4,b5,b6,b7,b8,b9,c0,c1,c2,c3,c4,c5],_=>exact⟨_,_,_,_,_,_,_,_,_,_,_,_,_,_,_,_,_,_,_,_,_,_,_,_,_,_,rfl⟩
def Ob(l:LM)(g:lZ)(w:lE):Prop:=∃V:mb,V.length=26/\g=G (bW.at ⟨(l.Ab++V).toArray,dW l⟩ [.code yQ,.inLoop yQ,.inBlock 0]) [wZ]/\oF l w
def DW(c:mg)(w w':lE)(es:Array Event):Prop:=w'=w/\∀e∈es,oc none_ c.A.R e
theorem GY{c:mg}{w':lE}{es:Array Event}(h:DC0 w w' es):DW c w w' es:=⟨h.1,fun e he=>by rw[h.2]at he;simp at he⟩
theorem Uy{P:lY}{main:Bool}{R:World->World->Prop}{D:World->World->Array Event->Prop}{S:vo}{m:Nat}:∀{n:Nat} {g:lZ} {w:lE},Goes P main R D S m g w->Goes P main R D S (n+m) g w
 |0,_,_,h=>by rw[kg];exact h
 |n+1,_,_,h=>by rw[Nat.add_right_comm];exact(Uy (n:=n) h).more
theorem Ux{P:lY}{main:Bool}{R:World->World->Prop}{D:World->World->Array Event->Prop}{S:vo}(hD:∀w w' es,DC0 w w' es->D w w' es)(hR:∀w,R w w){m:Nat}:
  ∀{n:Nat} {g:lZ} {w:lE},Goes P main R DC0 (fun g w=>Goes P main R D S m g w) n g w->Goes P main R D S (n+m) g w
 |0,g,w,h=>Uy<|h w<|hR w|n+1,g,w,h=>by
  rcases h with h|⟨hs,h⟩
  .exact Uy<|h w<|hR w
  rw[Nat.add_right_comm];refine Goes.step hs fun qJ r=>?_;have⟨g',w',es,e,hd,hn⟩:=goes_elim<|h qJ r;rw[e];exact⟨hD _ _ _ hd,Ux hD hR hn⟩
section
variable{c:mg}{l:LM}
theorem kw(k:oP c l)(h:oF l w)(r:c.Rel none_ w w1):oF l w1:=h.rely k r
theorem aw8(hP:c.P=prog)(k:oP c l)(w:lE)(hK:oF l w):Goes prog false (c.Rel none_) (DW c) (Ob l) 10 (born prog l.call) w:=by
 refine Hb (fun _ _ _ h=>GY h)<|Goes.step Z fun qJ qj=>?_;replace hK:=kw k hK qj;rw[aju];refine⟨by u_nil,?_⟩;simp only[Aa,Tryz.f12,iK,LM.Ab,List.replicate,ir,je];u_c kW (kw k) hK;u_reg (kw k) hK
 u_defer (kw k) hK
 u_c iM (kw k) hK;u_c kE (kw k) hK;u_c kR (kw k) hK;exact kV fun AP ub=>⟨_,Z,Z,kw k hK ub⟩
theorem ahM{S:vo}{g:lZ}(hP:c.P=prog)(h:Goes prog false (c.Rel none_) (DW c) S n g w):c.WO (fun _=>S) g w:=by
 refine XK (E:=oc none_ c.A.R) (fun e h M=>.inl ?_) (fun M w w1 h=>mg.Dh h)<|hP▸h;unfold oc at h|-;cases hl:e.loc with
 |cell a=>rw[hl]at h;exact .inr<|h.resolve_left id|obj r=>rw[hl]at h;exact h.elim|mark m=>rw[hl]at h;exact h|_=>rw[hl]at h;exact h.elim
theorem kb(k:oP c l)(h:oF l w/\c.Sh w)(r:c.Rel none_ w w1):oF l w1/\c.Sh w1:=⟨h.1.rely k r,r.sh h.2⟩
theorem ak3(K:c.Ok0)(hP:c.P=prog)(oE:c.ty=link.tWg)(k:oP c l)(T:lW)(td:nA)(w:lE)(hS:c.Sh w):
  Goes prog false (c.Rel none_) DC0 (c.AtR0 none_) 23 (G ((baseD link.done).at ⟨#[lJ l.Wg 0,undef,undef,undef],[]⟩ [.code (body_done link)])<|{bW.at ⟨T,[]⟩ td with mode:=.returning}::[wZ]) w:=by
 have hA:=mg.ak4 (L:=link) K (hP▸Iv) oE (cf:={bW.at ⟨T,[]⟩ td with mode:=.returning}) (cs:=[wZ]) (qt:=2) rfl (by rw[hP];exact ato T td) w hS;rw[k.wg,hP]at hA;exact hA
theorem ak5(p:lH):(#[p]++Array.replicate ((doneFn link).ntmps-(#[p]:lW).size) undef:lW)= #[p,undef,undef,undef]:=by rfl
def aeE:Array Oper:=match yQ with|.block _ (.seq _ (.seq (.region _ o _) _))=>o|_=> #[]
def EL:Code:=match yQ with|.block _ (.seq _ (.seq _ r))=>r|_=>.skip
abbrev KM:Value:=.agg #[]
def Od(l:LM)(j:Nat)(g:lZ):Prop:=∃V:mb,V.length=26/\V[3]?=some (.tuple #[.int .i64 0,.bool true,.int .i64 j,KM])/\g=G (bW.at ⟨(l.Ab++V).toArray,dW l⟩ [.inRegion aeE [1,2,3],.code EL,.inBlock 1,.inLoop yQ,.inBlock 0]) [wZ]
theorem awV(K:c.Ok0)(hP:c.P=prog)(oE:c.ty=link.tWg)(hz:c.z=.int .i64 0)(hzo:c.zo=KM)(k:oP c l)(wD:∀(j:Nat) (g:lZ) (w:lE),j<c.m->oF l w->c.Sh w->Od l j g->c.WO (c.Dx j) g w)(g:lZ)(w:lE)(h:Ob l g w)(hS:c.Sh w):
  Goes prog false (c.Rel none_) (DW c) (c.Cl none_) 30 g w:=by
 have aoe:∀(g:lZ) (v:lH),g.finishComm c.P c.cs .select 0 v true=Go.Conc.served g (.tuple #[.int .i64 0,.bool true,v,KM]):=fun g v=>ba;have aof:∀g:lZ,g.finishComm c.P c.cs .select 1 c.zo false=Go.Conc.served g (.tuple #[.int .i64 1,.bool false,.int .i64 0,KM]):=fun g=>ba;obtain⟨V,hV,rfl,hK⟩:=h;obtain⟨a0,a1,a2,a3,a4,a5,a6,a7,a8,a9,b0,b1,b2,b3,b4,b5,b6,b7,b8,b9,c0,c1,c2,c3,c4,c5,rfl⟩:=adV hV;replace hK:=And.intro hK hS;clear hS hV;refine Ux (n:=8) (m:=22) (fun _ _ _ h=>GY h) (fun w=>oe.refl _ _ _ _) ?_;simp only[yQ,Aa,Tryz.f12,iK,LM.Ab,ir,je];u_c kE (kb k) hK;u_c kW (kb k) hK;u_c kW (kb k) hK;u_reg (kb k) hK;refine kV fun AP ub=>?_;replace hK:=kb k hK ub;clear ub
 u_in (kb k) hK
 refine kB Z Z aw<|fun Y uJ=>?_;have h1:=hK.1.Xj
 go_simp
 refine uJ _ _ ⟨⟨Z,fun e he=>?_⟩,?_⟩
 .have hm:=kO he;simp[go_sem, *]at hm;subst hm;exact .inr ⟨k.rj,Z⟩
 clear uJ Y h1;refine Ux (n:=4) (m:=17) (fun _ _ _ h=>GY h) (fun w=>oe.refl _ _ _ _) ?_;u_c iM (kb k) hK;u_reg (kb k) hK;refine kV fun AP ub=>?_;replace hK:=kb k hK ub;clear ub
 u_in (kb k) hK
 refine kB Z Z aw<|fun Y uJ=>?_;have h1:=hK.1.over
 go_simp
 refine uJ _ _ ⟨⟨Z,fun e he=>?_⟩,?_⟩
 .have hm:=kO he;simp[go_sem, *]at hm;subst hm;exact .inr ⟨k.ro,Z⟩
 clear uJ Y h1;refine Hb (fun _ _ _ h=>GY h) ?_;u_c iM (kb k) hK;u_c kW (kb k) hK;u_reg (kb k) hK;refine kV fun qJ qj=>?_;replace hK:=kb k hK qj;clear qj;refine⟨Z,Z,?_,fun j hj=>?_,?_⟩
 .rw[hP];unfold mg.cs;rw[hz,hzo,k.ch,k.ov];rw[stepG_comm (cases:= #[rcase l.Ch (.int .i64 0),rcase l.Ov KM]) (blocking:=true) (shape:=.select) (w':=qJ) rfl rfl aw (by unfold execOp;go_simp;simp[rcase])];unfold listed;rw[show(execOp _ _).events prog qJ #[]= #[]from by unfold execOp;simp[go_sem],seen_none]
 .refine wD j _ _ hj hK.1 hK.2 ?_;rw[aoe];show Od l j (Go.Conc.served _ _);rw[served_G];exact⟨_,Z,Z,Z⟩
 refine ahM hP (n:=32)<|Hb (fun _ _ _ h=>GY h) ?_;rw[aof];rw[served_G]
 walk_nrm
 iterate 3 u_op (kb k) hK
 u_c iM (kb k) hK;u_c kE (kb k) hK
 u_cond false (kb k) hK
 u_cond true (kb k) hK
 u_c kS (kb k) hK
 u_in (kb k) hK
 rw[stepG_unwind_enter (c:=body_done link) rfl Iv.f_done (nm_done link) rfl];simp only[goes_go];refine⟨by u_nil,?_⟩;rw[ak5];exact ak3 K hP oE k _ _ _ hK.2
end
open Go Go.Conc Go.Conc.Lib Go.ConcR.Gen Go.RowKit
def DZ:Code:=match EL with|.block _ (.cond _ (.seq _ c) _)=>c|_=>.skip
def oW:Array Oper:=match DZ with|.region _ o _=>o|_=> #[]
def LM.DX(l:LM)(j:Nat):List Value:=l.Ab++[.int .i64 j]
abbrev M9:List Item:=[.inBlock 2,.inBlock 1,.inLoop yQ,.inBlock 0]
def Zv(l:LM)(j:Nat)(g:lZ)(w:lE):Prop:=∃V:mb,V.length=25/\g=G (bW.at ⟨(l.DX j++V).toArray,dW l⟩ (.code DZ::M9)) [wZ]/\oF l w
section
variable{c:mg}{l:LM}
theorem aqD(k:oP c l){j:Nat}{g:lZ}(h:Od l j g)(hK:oF l w):Goes prog false (c.Rel none_) (DW c) (Zv l j) 20 g w:=by
 refine Hb (fun _ _ _ h=>GY h) ?_;obtain⟨V,hV,h3,rfl⟩:=h;obtain⟨a0,a1,a2,a3,a4,a5,a6,a7,a8,a9,b0,b1,b2,b3,b4,b5,b6,b7,b8,b9,c0,c1,c2,c3,c4,c5,rfl⟩:=adV hV;injection h3 with h3;subst h3;simp only[aeE,EL,yQ,Aa,Tryz.f12,iK,LM.Ab,ir,je]
 iterate 3 u_op (kw k) hK
 u_c iM (kw k) hK;u_c kE (kw k) hK
 u_cond true (kw k) hK
 u_c kW (kw k) hK;u_reg (kw k) hK;u_op (kw k) hK;u_op (kw k) hK;u_c iM (kw k) hK;exact kV fun AP ub=>⟨_,Z,Z,kw k hK ub⟩
end
theorem akj:DZ=.region 5 oW true:=da
theorem B9:oW.size=20:=da
abbrev o5(i:Nat):Oper:=oW.getD i default
theorem Nf(h:i<20):oW[i]?=some (o5 i):=by
 have e:=B9;unfold o5;rw[ed,eB aa]
 rfl
theorem G1:(List.range 20).map (oR oW)=[[],[],[],[],[],[],[4,5],[6],[],[],[8,9],[10],[7,11],[12],[13],[13],[0,1,0,1,2,4,5,6,7,8,9,10,11,12,13,14],[16,14,12,0,1,2,4,5,6,7,8,9,10,11,12,13,14],[2,3,0,1,2,3,4,5,6,7,8,9,10,11,12,13,14,15,16,17],[18,15,17,0,1,2,3,4,5,6,7,8,9,10,11,12,13,14,15,16,17]]:=ai
theorem ajk:((List.range oW.size).all fun i=>(oR oW i).all fun d=>Nat.blt d i):=ai
def xc(i:Nat):Nat:=[16,17,18,19,20,21,22,23,24,25,26,27,28,15,29,30,31,0,32,0].getD i 0
theorem alc:((List.range 20).all fun i=>match (o5 i).dst with|some d=>Nat.beq d (xc i)|none=>Nat.beq i 17||Nat.beq i 19)=true:=ai
theorem axw:((List.range 20).all fun i=>(o5 i).guard.isNone):=ai
structure mA where
 n:Int
 k:Int
 a:Int
 t:Int
 bk:Bool
 title:ox
 gen:ox
 lP:Int
 nums:mq
def mA.AJ(x:mA):Array Value:= #[.int .i64 x.n,.int .i64 x.k,.int .i64 x.a,.int .i64 x.t,.bool x.bk,ma x.title,ma x.gen,.int .i64 x.lP]
inductive vZ where
 |bad (z:Int)|u9 (evs:List Ev) (code:Int) (ord:mq) (mG:Int)
def rR(x:mA):vZ->Prop
 |.bad z=>DI x.nums x.n x.k x.a x.t x.bk x.gen x.lP z|.u9 evs code ord mG=>∃(n' k' a' t':Nat) (t2:Tr) (aBi:List l9),x.n=n'/\x.k=k'/\x.a=a'/\x.t=t'/\we x.n x.k x.a x.t/\(0<=x.lP/\x.lP<=1000000)/\DJ x.nums n' k' a' t' x.bk x.gen t2/\wv t2.st.evs=some aBi/\vt 1 aBi x.lP/\
   evs=t2.st.evs/\code=(tu 1 aBi sD x.lP.toNat).1/\ord=Gk (tu 1 aBi sD x.lP.toNat)/\mG=((tu 1 aBi sD x.lP.toNat).2.mG.length:Int)
theorem rR.qf{x:mA}(hl:x.nums.length<=2000){o o':vZ}(h:rR x o)(h':rR x o'):o=o':=by
 have no:∀{z evs code ord mG},rR x (.bad z)->rR x (.u9 evs code ord mG)->False:=by rintro z evs code ord mG hb ⟨n',k',a',t',t2,aBi,e1,e2,e3,e4,hs,Jg,hr,he,ho,_⟩;unfold rR at hb;rw[e1,e2,e3,e4]at hb hs;exact hb.not hl hs Jg hr he ho
 cases o with
 |bad z=>
  cases o' with
  |bad z'=>rw[DI.qf h h']|u9 evs code ord mG=>exact(no h h').elim
 |u9 evs code ord mG=>
  cases o' with
  |bad z'=>exact(no h' h).elim|u9 ayN ayK aAp ayM=>
   obtain⟨n1,k1,a1,t1,t2,aBi,e1,e2,e3,e4,hs,Jg,hr,he,ho,rfl,rfl,rfl,rfl⟩:=h;obtain⟨n2,k2,a2,t3,t4,aeD,f1,f2,f3,f4,_,_,qF,sW,_,rfl,rfl,rfl,rfl⟩:=h';obtain rfl:n1=n2:=aa;obtain rfl:k1=k2:=aa;obtain rfl:a1=a2:=aa;obtain rfl:t1=t3:=aa;obtain rfl:=hr.qf qF;rw[he]at sW;cases sW
   rfl
def Cu(M:lF)(w:lE)(A:lO)(n cc:Nat)(us:mb):Prop:=
 n<=cc/\cc<=9223372036854775807/\(∀a,A=some a->cc≠0->M a.block/\a.spot=none/\∃cs e f,w.heap[a.block]?=some (.cells cs e f))/\
  (0<n->∃b,A=some ⟨b,0,none⟩/\∀(i:Nat) u,us[i]?=some u->w.cell? ⟨b,i,none⟩=some u)
theorem Cu.keep{M':lF}{A:lO}{cc:Nat}{us:mb}(h:Cu M w A n cc us)(hM:∀b,M b->M' b)(hw:∀b,M b->w1.heap[b]?=w.heap[b]?):Cu M' w1 A n cc us:=by
 obtain⟨h1,h2,h3,h4⟩:=h;refine⟨h1,h2,fun a e hc=>?_,fun hn=>?_⟩
 .have⟨g1,g2,g3⟩:=h3 a e hc;exact⟨hM _ g1,g2,by rw[hw _ g1];exact g3⟩
 have⟨b,e,hc⟩:=h4 hn;exact⟨b,e,fun i u hu=>(mg.cell_of<|hw b (h3 _ e aa).1).trans<|hc i u hu⟩
def Cn(M:lF)(w:lE)(v:lH)(z:Int):Prop:=v=.iface 36 (.int .i64 z)\/∃b o:Nat,v=.iface Dd (.pointer (some ⟨b,o,none⟩))/\M b/\w.cell? ⟨b,o,none⟩=some (.int .i64 z)
theorem Cn.keep{M':lF}{z:Int}(h:Cn M w v z)(hM:∀b,M b->M' b)(hw:∀b,M b->w1.heap[b]?=w.heap[b]?):Cn M' w1 v z:=by
 rcases h with h|⟨b,o,h1,h2,h3⟩
 .exact .inl h
 exact .inr ⟨b,o,h1,hM _ h2,(mg.cell_of (a:=⟨b,o,none⟩)<|hw b h2).trans h3⟩
def uC(M:lF)(w:lE)(title:ox)(rv:lW)(ev:lH):vZ->Prop
 |.bad z=>rv=vU/\Cn M w ev z|.u9 evs code ord mG=>∃(A1:lO) (c1:Nat) (A2:lO) (c2:Nat),rv= #[ma title,.slice A1 evs.length c1,.int .i64 code,.slice A2 ord.length c2,.int .i64 mG]/\ev=.nilIface/\
   Cu M w A1 evs.length c1 (evs.flatMap nu)/\Cu M w A2 ord.length c2 (mW ord)
theorem uC.keep{M':lF}{title:ox}{rv:lW}{ev:lH}:∀{o:vZ},uC M w title rv ev o->(∀b,M b->M' b)->(∀b,M b->w1.heap[b]?=w.heap[b]?)->uC M' w1 title rv ev o
 |.bad z,⟨h1,h2⟩,hM,hw=>⟨h1,h2.keep hM hw⟩
 |.u9 evs code ord mG,⟨A1,c1,A2,c2,h1,h2,h3,h4⟩,hM,hw=>⟨A1,c1,A2,c2,h1,h2,h3.keep hM hw,h4.keep hM hw⟩
theorem uC.size{title:ox}{rv:lW}{ev:lH}:∀{o:vZ},uC M w title rv ev o->rv.size=5/\rv.toList.all (·.oneCell')/\ev.oneCell'
 |.bad z,⟨h1,h2⟩=>by subst h1;refine⟨Z,Z,?_⟩;rcases h2 with rfl|⟨b,o,rfl,_⟩<;>rfl
 |.u9 evs code ord mG,⟨A1,c1,A2,c2,h1,h2,h3,h4⟩=>by subst h1;subst h2;exact⟨rfl,rfl,rfl⟩
section
variable{F:nj}{D:lF}{w:lE}
theorem Xc{O:lF}{name:String}{g:Nat}{cs:lW}(hg:prog.globalNamed name=some g)(hD:D g)(h:w.var? prog name=some cs)(hs:∀u∈cs,VR F (pZ D 0) u u)(h8:∀u∈cs,∀b,u≠.int .u8 b):(sJ F D O w).var? prog name=some cs:=by
 unfold World.var? at h|-;rw[hg,iI]at h|-;rw[Qf hD];cases hb:w.heap[g]? with
 |none=>rw[hb]at h;cases h
 |some o=>
  rw[hb]at h;cases o with
  |cells c e f=>
   injection h with h;subst h;have k1:c.map (vw F D)=c:=by
    apply kU
    .simp
    intro i h1 h2;simp only[Array.getElem_map];exact RO<|hs _<|gN _
   have k2:c.map (Dr F D)=c:=by
    apply kU
    .simp
    intro i h1 h2;simp only[Array.getElem_map];exact ahH (hs _<|gN _)<|h8 _<|gN _
   by_cases hO:O g
   .rw[jk,lq hO];simp only[keep,k1]
   rw[jk,lp hO];simp only[full,k2]
  |_=>cases h
structure yo(D:lF)(w:lE):Prop where
 fa:Cp w
 xQ:∀g,g<10+1->D g
 EY:∃tp b o,w.var? prog "strconv.ErrSyntax" =some #[.iface tp (.pointer<|some ⟨b,o,none⟩)]/\D b
 EN:∃tp b o,w.var? prog "strconv.ErrRange" =some #[.iface tp (.pointer<|some ⟨b,o,none⟩)]/\D b
theorem yo.view{O:lF}(h:yo D w):Cp (sJ F D O w):=by
 have⟨tp1,b1,o1,s1,d1⟩:=h.EY;have⟨tp2,b2,o2,s2,d2⟩:=h.EN;have lt:∀{g:Nat},g<10+1->D g:=fun hg=>h.xQ _ hg;have one:∀(tp b o:Nat),D b->∀u∈(#[.iface tp (lJ b o)]:lW),VR F (pZ D 0) u u:=fun tp b o hd u hu=>by simp only[iB,jM,iD,ld]at hu;subst hu;exact .iface _<|.ptr ⟨zE hd,Z,Z⟩
 have aew:∀(tp b o:Nat),∀u∈(#[.iface tp (lJ b o)]:lW),∀z,u≠.int .u8 z:=fun tp b o u hu z e=>by simp only[iB,jM,iD,ld]at hu;subst hu;cases e
 refine⟨⟨⟨_,_,Xc LQ (lt aw) s1 (one _ _ _ d1)<|aew _ _ _⟩,⟨_,_,Xc LP (lt aw) s2 (one _ _ _ d2)<|aew _ _ _⟩,?_⟩,?_,fun i hi=>?_⟩
 .refine Xc Pc (lt aw) h.fa.num.tab (fun u hu=>?_) fun u hu z e=>?_
  .obtain⟨z,_,rfl⟩:=jZ.1<|iB.1 hu;exact .int _ _
  obtain⟨y,_,rfl⟩:=jZ.1<|iB.1 hu;cases e
 .exact BY (lt<|show(0:Nat)<10+1 by decide) h.fa.err<|.iface _<|.Bd<|AR.nil.push<|.ptr ⟨zE<|lt aw,rfl,rfl⟩
 exact BY (lt<|show(2:Nat)<10+1 by decide) (h.fa.kn i hi)<|.int _ _
theorem adG{O:lF}{l:mq}(h:pL w D v l):pL (sJ F D O w) D v l:=by obtain⟨A,c,h1,h2,h3,h4,h5⟩:=h;refine⟨A,c,h1,h2,h3,h4,fun hn=>?_⟩;have⟨b,o,e,hD,hc⟩:=h5 hn;refine⟨b,o,e,hD,fun j u hu=>?_⟩;obtain⟨x,_,rfl⟩:=jZ.1<|mZ hu;exact BY hD (hc j _ hu)<|.int _ _
end
structure K5(c:mg)(l:LM)(x:Nat->mA)(D:lF)(w:lE):Prop where
 sub:∀b,D b->c.A.R b
 row:∀b,D b->∃cs e f,w.heap[b]?=some (.cells cs e f)
 BA:prog.globals.size<=w.heap.size
 b0:c.A.B0<=w.heap.size
 fa:yo D w
 AI:∀k,k<l.m->l.AI k=(x k).AJ/\(x k).gen.length<=1000000000
 tape:∀k,k<l.m->∃A n cc,l.tape k=.slice A n cc/\(∀a,A=some a->cc≠0->D a.block/\a.spot=none)/\pL w D (.slice A n cc) (x k).nums
theorem ai0(c:lW)(h:2=c.size):∃a b,c= #[a,b]:=by
 obtain⟨l⟩:=c
 match l,h with
 |[a,b],_=>exact⟨a,b,rfl⟩
theorem Z7(c:lW)(h:5=c.size):∃a b d e f,c= #[a,b,d,e,f]:=by
 obtain⟨l⟩:=c
 match l,h with
 |[a,b,d,e,f],_=>exact⟨a,b,d,e,f,rfl⟩
theorem RN{F:nj}{U:Ren}{a b u:lH}(h:VR F U (.tuple #[a,b]) u):∃a' b',u=.tuple #[a',b']/\VR F U a a'/\VR F U b b':=by
 cases h with
 |tuple hs hc=>obtain⟨a',b',rfl⟩:=ai0 _ hs;exact⟨a',b',Z,hc 0 _ _ Z Z,hc 1 _ _ Z Z⟩
theorem ahD{F:nj}{U:Ren}{a b d e f u:lH}(h:VR F U (.agg #[a,b,d,e,f]) u):∃a' b' d' e' f',u=.agg #[a',b',d',e',f']/\VR F U a a'/\VR F U b b'/\VR F U d d'/\VR F U e e'/\VR F U f f':=by
 cases h with
 |agg hs hc=>obtain⟨a',b',d',e',f',rfl⟩:=Z7 _ hs;exact⟨a',b',d',e',f',Z,hc 0 _ _ Z Z,hc 1 _ _ Z Z,hc 2 _ _ Z Z,hc 3 _ _ Z Z,hc 4 _ _ Z Z⟩
section
variable{R M:lF}{B0:Nat}{F:nj}{U:Ren}{v w1:lE}{b0:Nat}
theorem aeN(hR:∀b,R b->b<B0)(sj:B0<=b0)(sF:U.base=b0)(hW:nB F U R v w1){a a':Addr}(ha:mE U a a')(oh:b0<=a.block):U.own a.block:=by apply eD;intro mI;have⟨hr,_⟩:=hW.ro _ _ ha.1 mI;have h1:=hR _ hr;have:=U.low _ _ ha.1<|.inr aa;omega
theorem af7(hR:∀b,R b->b<B0)(sj:B0<=b0)(sF:U.base=b0)(hW:nB F U R v w1)(hM:∀k k',U.to k=some k'->U.own k->M k'){e sz c:Nat}{A:lO}{us:mb}{u':lH}(Jw:v.ownsRow 0 e sz (.slice A n c) n us)(oh:∀a,A=some a->b0<=a.block)
  (hu:VR F U (.slice A n c) u') (mR:us.length=n*sz) (hs:∀u∈us,∀y,VR F U u y->y=u):∃A',u'=.slice A' n c/\Cu M w1 A' n c us:=by
 obtain⟨aBn,Al⟩:=Jw;cases hu with
 |tn a=>exact⟨some a,rfl,ku _,aa,fun x hx hc=>ll rfl hc,fun hn=>ll hn<|Nat.lt_irrefl _⟩|qI=>
  refine⟨none,Z,?_⟩;rcases Al with⟨e1,e2⟩|⟨g,cap,aBl,e1,_⟩
  .injection e1 with _ e3 e4;exact⟨aa,aa,fun a ha _=>(by cases ha),fun hn=>aa⟩
  injection e1 with e1;cases e1
 |slice lx cx ha=>
  rename_i a a';rcases Al with⟨e1,e2⟩|⟨g,cap,aBl,e1,hb,anW,hn,acf,adh,vi⟩
  .injection e1 with e1;cases e1
  injection e1 with e1 e2 e3;cases e1;subst e3;have ho:=aeN hR sj sF hW ha<|oh _ rfl;have uI:=hM _ _ ha.1 ho;have⟨oo,oo',q1,q2,q3⟩:=hW.mine _ _ ha.1 ho;rw[anW]at q1;injection q1 with q1;subst q1;cases q3 with
  |cells e f UC=>
   rename_i aaQ;have xn:a'.off=0:=ha.2.1;have nP:a'.spot=none:=ha.2.2;obtain⟨ab,ao,IT⟩:=a';dsimp only at xn nP q2 uI;subst xn;subst nP;have e63:maxLen<=9223372036854775807:=aw;refine⟨some ⟨ab,0,none⟩,Z,hn,aa,fun x hx _=>?_,fun uq=>⟨ab,rfl,fun i z hz=>?_⟩⟩
   .cases hx;exact⟨uI,Z,_,_,_,q2⟩
   have CQ:i<us.length:=(oS hz).1;have hci:aBl[i]?=some z:=by
    have e5:(aBl.toList.take<|n*sz)[i]?=us[i]?:=by rw[vi]
    rw[eM aa,fx]at e5;rw[e5,hz]
   have⟨y,hy,MV⟩:=UC.get hci;obtain rfl:=hs z (mZ hz) y MV;simp only[World.cell?,q2,hy]
   rfl
end
theorem alH{F:nj}{U:Ren}{evs:List Ev}:∀u∈evs.flatMap nu,∀y,VR F U u y->y=u:=by intro u hu y hy;have⟨e,_,he⟩:=iA.1 hu;simp only[nu,jM,iD,ld]at he;rcases he with rfl|rfl|rfl|rfl|rfl|rfl|rfl<;>cases hy<;>rfl
theorem aqd{F:nj}{U:Ren}{l:mq}:∀u∈mW l,∀y,VR F U u y->y=u:=by intro u hu y hy;obtain⟨x,_,rfl⟩:=jZ.1 hu;cases hy;rfl
theorem abq(evs:List Ev):(evs.flatMap nu).length=evs.length*7:=by
 induction evs with
 |nil=>rfl|cons e l ih=>simp only[gU,gD,ih,ix];show 7+_=_;omega
theorem auj{c:mg}{l:LM}{x:Nat->mA}{v:lE}{j:Nat}{U:Ren}{u u':lH}{t:ze}(KN:K5 c l x D w)(hR:∀b,c.A.R b->b<c.A.B0)(aBm:(pZ D w.heap.size).Le U)(hu:VR (SF nE) U u u')
  (hK:Oj (x j).nums (x j).n (x j).k (x j).a (x j).t (x j).bk (x j).title (x j).gen (x j).lP (wL (SF nE) D<|w.tp t) (.returned u) v) (hW:nB (SF nE) U c.A.R v w1) (hM:∀k k',U.to k=some k'->U.own k->M k'):
  ∃o rv ev,rR (x j) o/\u'=.tuple #[.agg rv,ev]/\uC M w1 (x j).title rv ev o:=by
 have sF:U.base=w.heap.size:=aBm.base;have adg:(wL (SF nE) D<|w.tp t).heap.size=w.heap.size:=M7;rcases hK with⟨z,T,v0,rT,e,hI⟩|⟨n',k',a',t',t2,aBi,A1,c1,A2,c2,e1,e2,e3,e4,hs,hb,nK,aBn,mj,mH,e,hI⟩
 .injection e with e;subst e;obtain⟨y0,y1,rfl,h0,h1⟩:=RN hu;obtain⟨z0,z1,z2,z3,z4,rfl,g0,g1,g2,g3,g4⟩:=ahD (a:=ma []) (b:=.slice none 0 0) (d:=Y 0) (e:=.slice none 0 0) (f:=Y 0) h0;cases g0;cases g1;cases g2;cases g3;cases g4;refine⟨.bad z,vU,y1,rT,Z,Z,?_⟩;have hE:uU v (.iface T v0) z:=hI.ok _ (gF.2 rfl) |>.1;cases h1 with
  |iface T' hv=>
   rcases hE with hE|⟨b,o,hE,hc⟩
   .injection hE with e1 e2;subst e1;subst e2;cases hv;exact .inl Z
   injection hE with e1 e2;subst e1;subst e2;cases hv with
   |ptr ha=>
    rename_i a';have oh:w.heap.size<=b:=by have:=(hI.own _ (gF.2 rfl) b ⟨o,rfl⟩).resolve_left<|fun h=>h;omega
    have ho:=aeN hR KN.b0 sF hW ha oh;have⟨y,hy,MV⟩:=hW.cell ha hc.cell;cases MV;obtain⟨ab,ao,IT⟩:=a';have nP:IT=none:=ha.2.2;subst nP;exact .inr ⟨ab,ao,Z,hM _ _ ha.1 ho,hy⟩
 injection e with e;subst e;obtain⟨y0,y1,rfl,h0,h1⟩:=RN hu;obtain⟨z0,z1,z2,z3,z4,rfl,g0,g1,g2,g3,g4⟩:=ahD h0;cases g0;cases g2;cases g4;cases h1;have wI:v.ownsRow 0 66 7 (.slice A1 t2.st.evs.length c1) t2.st.evs.length (t2.st.evs.flatMap nu):=hI.ok _ (gE ..) |>.1;have ua:v.ownsRow 0 3 1 (.slice A2 (Gk<|tu 1 aBi sD (x j).lP.toNat).length c2) (Gk<|tu 1 aBi sD (x j).lP.toNat).length (mW<|Gk<|tu 1 aBi sD (x j).lP.toNat):=hI.ok _ (fT _<|gE ..) |>.1;have yK:∀a,A1=some a->w.heap.size<=a.block:=fun a ha=>by have:=(hI.own _ (gE ..) a.block<|by simp[lz,ha]).resolve_left<|fun h=>h;omega
 have hg2:∀a,A2=some a->w.heap.size<=a.block:=fun a ha=>by have:=(hI.own _ (fT _<|gE ..) a.block<|by simp[mM,lz,ha]).resolve_left<|fun h=>h;omega
 obtain⟨B1,rfl,BB⟩:=af7 (M:=M) hR KN.b0 sF hW hM wI yK g1 (abq _) alH;obtain⟨B2,rfl,UD⟩:=af7 (M:=M) hR KN.b0 sF hW hM ua hg2 g3 (by simp[mW]) aqd;exact⟨.u9 _ _ _ _,_,_,⟨n',k',a',t',t2,aBi,e1,e2,e3,e4,hs,hb,nK,mj,mH,Z,Z,Z,Z⟩,Z,B1,c1,B2,c2,Z,Z,BB,UD⟩
theorem Qn(h:V.length=25):∃v8 v9 v10 v11 v12 v13 v14 v15 v16 v17 v18 v19 v20 v21 v22 v23 v24 v25 v26 v27 v28 v29 v30 v31 v32:lH,V=[v8,v9,v10,v11,v12,v13,v14,v15,v16,v17,v18,v19,v20,v21,v22,v23,v24,v25,v26,v27,v28,v29,v30,v31,v32]:=by
 match V,h with
 |[v8,v9,v10,v11,v12,v13,v14,v15,v16,v17,v18,v19,v20,v21,v22,v23,v24,v25,v26,v27,v28,v29,v30,v31,v32],_=>exact⟨_,_,_,_,_,_,_,_,_,_,_,_,_,_,_,_,_,_,_,_,_,_,_,_,_,rfl⟩
theorem ai1(c:lW)(h:c.size=8):∃a0 a1 a2 a3 a4 a5 a6 a7,c= #[a0,a1,a2,a3,a4,a5,a6,a7]:=by
 obtain⟨l⟩:=c
 match l,h with
 |[a0,a1,a2,a3,a4,a5,a6,a7],_=>exact⟨a0,a1,a2,a3,a4,a5,a6,a7,rfl⟩
abbrev T5(l:LM)(j:Nat)(v8 v9 v10 v11 v12 v13 v14 v15 v16 v17 v18 v19 v20 v21 v22 v23 v24 v25 v26 v27 v28 v29 v30 v31 v32:Value):Act:=⟨#[.pointer (some ⟨l.Wg,0,none⟩),.pointer<|some ⟨l.Bj,0,none⟩,.pointer<|some ⟨l.Bp,0,none⟩,.pointer<|some ⟨l.Bt,0,none⟩,.pointer<|some ⟨l.Br,0,none⟩,.pointer<|some ⟨l.Be,0,none⟩,.pointer<|some ⟨l.Bo,0,none⟩,.int .i64 j,v8,v9,v10,v11,v12,v13,v14,v15,v16,v17,v18,v19,v20,v21,v22,v23,v24,v25,v26,v27,v28,v29,v30,v31,v32],dW l⟩
section
variable{c:mg}{l:LM}{M:lF}{w1:lE}{j:Nat}{v8 v9 v10 v11 v12 v13 v14 v15 v16 v17 v18 v19 v20 v21 v22 v23 v24 v25 v26 v27 v28 v29 v30 v31 v32:lH}
abbrev uS(c:mg)(M:Nat->Prop)(a:Act)(i:Nat)(v:Value)(w1:World):Prop:=(execOp a.eval<|o5 i).run prog w1=.ok (.value v) w1/\∀e∈(execOp a.eval<|o5 i).events prog w1 #[],oc M c.A.R e
theorem wm{p:Prop}(h:p:=by unfold uS execOp;simp only[o5,oW,DZ,EL,yQ,Aa,Tryz.f12,iK];constructor;(focus go_simp);intro e he;simp[go_sem, *]at he;(try (rcases he with rfl|rfl|rfl|rfl|rfl|rfl|rfl|rfl));(try subst he);all_goals (try (first|exact .inr ⟨(‹oP _ _›).rp,rfl⟩|exact .inr ⟨(‹oP _ _›).rt,rfl⟩|exact .inr ⟨(‹oP _ _›).rr,rfl⟩|exact .inr ⟨(‹oP _ _›).re,rfl⟩|exact .inr ⟨(‹oP _ _›).ra aa,rfl⟩|exact .inr ⟨(‹oP _ _›).rb aa,rfl⟩))):p:=h
theorem aky(k:oP c l)(h:oF l w1)(hj:j<l.m):uS c M (T5 l j v8 v9 v10 v11 v12 v13 v14 v15 v16 v17 v18 v19 v20 v21 v22 v23 v24 v25 v26 v27 v28 v29 v30 v31 v32) 0 (me l.Cr 0 l.m l.m) w1:=by have h1:=h.afU aa;exact wm
theorem akz(k:oP c l)(h:oF l w1)(hj:j<l.m):uS c M (T5 l j v8 v9 v10 v11 v12 v13 v14 v15 v16 v17 v18 v19 v20 v21 v22 v23 v24 v25 v26 v27 v28 v29 v30 v31 v32) 1 (lI j) w1:=by exact wm
theorem akK(k:oP c l)(h:oF l w1)(hj:j<l.m):uS c M (T5 l j v8 v9 v10 v11 v12 v13 v14 v15 v16 v17 v18 v19 v20 v21 v22 v23 v24 v25 v26 v27 v28 v29 v30 v31 v32) 2 (me l.Ce 0 l.m l.m) w1:=by have h1:=h.abj aa;exact wm
theorem akL(k:oP c l)(h:oF l w1)(hj:j<l.m):uS c M (T5 l j v8 v9 v10 v11 v12 v13 v14 v15 v16 v17 v18 v19 v20 v21 v22 v23 v24 v25 v26 v27 v28 v29 v30 v31 v32) 3 (lI j) w1:=by exact wm
theorem akM(k:oP c l)(h:oF l w1)(hj:j<l.m):uS c M (T5 l j v8 v9 v10 v11 v12 v13 v14 v15 v16 v17 v18 v19 v20 v21 v22 v23 v24 v25 v26 v27 v28 v29 v30 v31 v32) 4 (me l.Ap 0 l.m l.pc) w1:=by have h1:=h.aeZ aa;exact wm
theorem akN(k:oP c l)(h:oF l w1)(hj:j<l.m):uS c M (T5 l j v8 v9 v10 v11 v12 v13 v14 v15 v16 v17 v18 v19 v20 v21 v22 v23 v24 v25 v26 v27 v28 v29 v30 v31 v32) 5 (lI j) w1:=by exact wm
theorem akO(k:oP c l)(h:oF l w1)(hj:j<l.m):uS c M (T5 l j v8 v9 v10 v11 v12 v13 v14 v15 v16 v17 v18 v19 (me l.Ap 0 l.m l.pc) (lI j) v22 v23 v24 v25 v26 v27 v28 v29 v30 v31 v32) 6 (lJ l.Ap (8*j)) w1:=by exact wm
theorem akP(k:oP c l)(h:oF l w1)(hj:j<l.m):uS c M (T5 l j v8 v9 v10 v11 v12 v13 v14 v15 v16 v17 v18 v19 v20 v21 (lJ l.Ap (8*j)) v23 v24 v25 v26 v27 v28 v29 v30 v31 v32) 7 (.agg (l.AI j)) w1:=by obtain⟨a0,a1,a2,a3,a4,a5,a6,a7,hp⟩:=ai1 _<|k.p8 j;have hc:=h.AI j hj;rw[hp]at hc|-;have h0:=hc 0 a0 rfl;have h1:=hc 1 a1 rfl;have h2:=hc 2 a2 rfl;have h3:=hc 3 a3 rfl;have h4:=hc 4 a4 rfl;have h5:=hc 5 a5 rfl;have h6:=hc 6 a6 rfl;have h7:=hc 7 a7 rfl;rw[j1]at h0;clear hc hp;exact wm
theorem akQ(k:oP c l)(h:oF l w1)(hj:j<l.m):uS c M (T5 l j v8 v9 v10 v11 v12 v13 v14 v15 v16 v17 v18 v19 v20 v21 v22 v23 v24 v25 v26 v27 v28 v29 v30 v31 v32) 8 (me l.At l.ao l.m l.tc) w1:=by have h1:=h.ahl aa;exact wm
theorem akR(k:oP c l)(h:oF l w1)(hj:j<l.m):uS c M (T5 l j v8 v9 v10 v11 v12 v13 v14 v15 v16 v17 v18 v19 v20 v21 v22 v23 v24 v25 v26 v27 v28 v29 v30 v31 v32) 9 (lI j) w1:=by exact wm
theorem akA(k:oP c l)(h:oF l w1)(hj:j<l.m):uS c M (T5 l j v8 v9 v10 v11 v12 v13 v14 v15 v16 v17 v18 v19 v20 v21 v22 v23 (me l.At l.ao l.m l.tc) (lI j) v26 v27 v28 v29 v30 v31 v32) 10 (lJ l.At (l.ao+j)) w1:=by exact wm
theorem akB(k:oP c l)(h:oF l w1)(hj:j<l.m):uS c M (T5 l j v8 v9 v10 v11 v12 v13 v14 v15 v16 v17 v18 v19 v20 v21 v22 v23 v24 v25 (lJ l.At (l.ao+j)) v27 v28 v29 v30 v31 v32) 11 (l.tape j) w1:=by have h1:=h.tape j hj;exact wm
theorem akD(k:oP c l)(h:oF l w1)(hj:j<l.m):uS c M (T5 l j v8 v9 v10 v11 v12 v13 v14 v15 v16 v17 v18 v19 v20 v21 v22 v23 v24 v25 v26 v27 v28 v29 v30 v31 v32) 13 (v28) w1:=by exact wm
theorem akE(k:oP c l)(h:oF l w1)(hj:j<l.m){x y:lH}:uS c M (T5 l j v8 v9 v10 v11 v12 v13 v14 (.tuple #[x,y]) v16 v17 v18 v19 v20 v21 v22 v23 v24 v25 v26 v27 v28 v29 v30 v31 v32) 14 (x) w1:=by exact wm
theorem akF(k:oP c l)(h:oF l w1)(hj:j<l.m){x y:lH}:uS c M (T5 l j v8 v9 v10 v11 v12 v13 v14 (.tuple #[x,y]) v16 v17 v18 v19 v20 v21 v22 v23 v24 v25 v26 v27 v28 v29 v30 v31 v32) 15 (y) w1:=by exact wm
theorem akG(k:oP c l)(h:oF l w1)(hj:j<l.m):uS c M (T5 l j v8 v9 v10 v11 v12 v13 v14 v15 (me l.Cr 0 l.m l.m) (lI j) v18 v19 v20 v21 v22 v23 v24 v25 v26 v27 v28 v29 v30 v31 v32) 16 (lJ l.Cr (5*j)) w1:=by exact wm
theorem akI(k:oP c l)(h:oF l w1)(hj:j<l.m):uS c M (T5 l j v8 v9 v10 v11 v12 v13 v14 v15 v16 v17 (me l.Ce 0 l.m l.m) (lI j) v20 v21 v22 v23 v24 v25 v26 v27 v28 v29 v30 v31 v32) 18 (lJ l.Ce j) w1:=by exact wm
end
theorem EX{g k:Nat}{cs:lW}(hg:w.heap[g]?=some (.cells cs e (0,0)))(hk:k<cs.size)(h1:v.oneCell'):
  (store ⟨g,k,none⟩ v).run P w=.ok () (w.setCell ⟨g,k,none⟩ v)/\(∀es,(store ⟨g,k,none⟩ v).events P w es=es.push ⟨.cell ⟨g,k,none⟩,true,false⟩)/\
   (w.setCell ⟨g,k,none⟩ v).heap[g]?=some (.cells (cs.setIfInBounds k v) e (0,0)):=by
 have nU:w.cell? ⟨g,k,none⟩=some cs[k]:=by simp[World.cell?,hg,hk]
 have PE:w.frozen? ⟨g,k,none⟩=false:=by simp[World.frozen?,hg]
 have HG:=ic w g k cs e (0,0) v hg;refine⟨?_,fun es=>?_,?_⟩
 .rw[Go.run_store P w _ v _ h1,nU];simp[PE]
 .rw[Go.events_store P w es _ v _ h1,nU];simp only[PE,gy,kZ]
  rfl
 rw[HG];exact setRow_heap w g cs _ e _ hg
def uw(g j:Nat):List Value->World->World
 |[],w=>w|v::vs,w=>uw g (j+1) vs<|w.setCell ⟨g,j,none⟩ v
theorem Xl(g:Nat):∀(vs:mb) (j:Nat) (w:lE),w.setCells g j vs=uw g j vs w
 |[],j,w=>by rfl
 |v::vs,j,w=>by
  rw[uw,<-Xl g vs]
  rfl
theorem Qm(g:Nat):∀(vs:mb) (j:Nat) (w:lE),(uw g j vs w).heap.size=w.heap.size/\(∀b,b≠g->(uw g j vs w).heap[b]?=w.heap[b]?)/\(uw g j vs w).tape=w.tape/\(uw g j vs w).os=w.os/\(uw g j vs w).output=w.output
 |[],j,w=>⟨rfl,fun _ _=>rfl,rfl,rfl,rfl⟩
 |v::vs,j,w=>by have⟨h1,h2,h3,h4,h5⟩:=Qm g vs (j+1)<|w.setCell ⟨g,j,none⟩ v;exact⟨h1.trans (by simp[World.setCell]),fun b hb=>(h2 b hb).trans<|Rm _ _ _ _ hb,h3,h4,h5⟩
theorem Ql(g:Nat):∀(vs:mb) (j:Nat) (w:lE) {cs:lW} {e:lT},w.heap[g]?=some (.cells cs e (0,0))->j+vs.length<=cs.size->vs.all (·.oneCell')->
  ∃cs',(uw g j vs w).heap[g]?=some (.cells cs' e (0,0))/\cs'.size=cs.size/\(∀i,i<j\/j+vs.length<=i->cs'[i]?=cs[i]?)/\∀(i:Nat) u,vs[i]?=some u->cs'[j+i]?=some u
 |[],j,w,cs,e,hg,hn,h1=>⟨cs,hg,rfl,fun _ _=>rfl,fun i u h=>by simp at h⟩
 |v::vs,j,w,cs,e,hg,hn,h1=>by
  simp only[jK,ij]at h1;simp only[ix]at hn;have⟨_,_,s1⟩:=EX (P:=prog) (v:=v) hg (show j<cs.size by omega) h1.1;have⟨cs',h2,h3,h4,h5⟩:=Ql g vs (j+1) _ s1 aF h1.2;refine⟨cs',h2,by simpa using h3,fun i hi=>?_,fun i u hu=>?_⟩
  .simp only[ix]at hi;rw[h4 i aa,dZ,lp aa]
  cases i with
  |zero=>simp only[eU,ia]at hu;subst hu;rw[j1,h4 j aa,dZ,lq rfl,lq aa]|succ i=>
   have:=h5 i u (by simpa using hu)
   rwa [show j+(i+1)=j+1+i by omega]
section
variable{c:mg}{l:LM}{M:lF}{w1:lE}{j:Nat}{v8 v9 v10 v11 v12 v13 v14 v15 v16 v17 v18 v19 v20 v21 v22 v23 v24 v25 v26 v27 v28 v29 v30 v31 v32:lH}
theorem akH{x0 x1 x2 x3 x4:lH}{cs:lW}(hC:w1.heap[l.Cr]?=some (.cells cs e (0,0)))(hn:5*j+5<=cs.size)(h1: #[x0,x1,x2,x3,x4].toList.all (·.oneCell')=true):
  (execOp (T5 l j v8 v9 v10 v11 v12 v13 v14 v15 v16 v17 v18 v19 v20 v21 v22 v23 v24 v25 v26 v27 v28 (.agg #[x0,x1,x2,x3,x4]) v30 (.pointer<|some ⟨l.Cr,5*j,none⟩) v32).eval<|o5 17).run prog w1=.ok .skip (uw l.Cr (5*j) [x0,x1,x2,x3,x4] w1)/\
   ∀ev∈(execOp (T5 l j v8 v9 v10 v11 v12 v13 v14 v15 v16 v17 v18 v19 v20 v21 v22 v23 v24 v25 v26 v27 v28 (.agg #[x0,x1,x2,x3,x4]) v30 (.pointer<|some ⟨l.Cr,5*j,none⟩) v32).eval<|o5 17).events prog w1 #[],∃i,i<5/\ev.loc=.cell ⟨l.Cr,5*j+i,none⟩:=by
 have mj:ev (fun i=>(T5 l j v8 v9 v10 v11 v12 v13 v14 v15 v16 v17 v18 v19 v20 v21 v22 v23 v24 v25 v26 v27 v28 (.agg #[x0,x1,x2,x3,x4]) v30 (.pointer<|some ⟨l.Cr,5*j,none⟩) v32).tmps.getD i undef)=(T5 l j v8 v9 v10 v11 v12 v13 v14 v15 v16 v17 v18 v19 v20 v21 v22 v23 v24 v25 v26 v27 v28 (.agg #[x0,x1,x2,x3,x4]) v30 (.pointer<|some ⟨l.Cr,5*j,none⟩) v32).eval:=by funext q;cases q<;>rfl
 constructor
 .rw[<-mj,<-Xl];exact run_store (P:=prog) (o:=o5 17) (w:=w1) (g:=l.Cr) (j:=5*j) (n:=5) (u:=.agg #[x0,x1,x2,x3,x4]) (vs:= #[x0,x1,x2,x3,x4]) (cs:=cs) (t:=e) (ρ:=fun i=>(T5 l j v8 v9 v10 v11 v12 v13 v14 v15 v16 v17 v18 v19 v20 v21 v22 v23 v24 v25 v26 v27 v28 (.agg #[x0,x1,x2,x3,x4]) v30 (.pointer<|some ⟨l.Cr,5*j,none⟩) v32).tmps.getD i undef)
   (tt:=42) (x:=.tmp 31) (y:=.tmp 29) bg rfl rfl rfl ai rfl hC aa (by simpa using h1)
 intro ev mj;unfold execOp at mj;simp only[o5,oW,DZ,EL,yQ,Aa,Tryz.f12,iK]at mj;simp[go_sem]at mj;simp only[jK,List.all_nil,Bool.and_true,ij]at h1;obtain⟨r1,e1,s1⟩:=EX (P:=prog) (v:=x0) hC (show 5*j<cs.size by omega) h1.1;obtain⟨r2,e2,s2⟩:=EX (P:=prog) (v:=x1) s1 (show 5*j+1<_ by simp;omega) h1.2.1;obtain⟨r3,e3,s3⟩:=EX (P:=prog) (v:=x2) s2 (show 5*j+2<_ by simp;omega) h1.2.2.1;obtain⟨r4,e4,s4⟩:=EX (P:=prog) (v:=x3) s3 (show 5*j+3<_ by simp;omega) h1.2.2.2.1;obtain⟨r5,e5,s5⟩:=EX (P:=prog) (v:=x4) s4 (show 5*j+4<_ by simp;omega) h1.2.2.2.2;rw[r1,e1]at mj;simp only[Result.evThen_ok,r2,e2,r3,e3,r4,e4,e5]at mj;simp only[Array.mem_push,Array.not_mem_empty,false_or]at mj;rcases mj with(((rfl|rfl)|rfl)|rfl)|rfl
 .exact⟨0,aa,rfl⟩
 .exact⟨1,aa,rfl⟩
 .exact⟨2,aa,rfl⟩
 .exact⟨3,aa,rfl⟩
 exact⟨4,aa,rfl⟩
theorem akJ{x:lH}{cs:lW}(hC:w1.heap[l.Ce]?=some (.cells cs e (0,0)))(hn:j<cs.size)(h1:x.oneCell'=true)(hx:x.cells= #[x]):
  (execOp (T5 l j v8 v9 v10 v11 v12 v13 v14 v15 v16 v17 v18 v19 v20 v21 v22 v23 v24 v25 v26 v27 v28 v29 (x) v31<|.pointer<|some ⟨l.Ce,j,none⟩).eval<|o5 19).run prog w1=.ok .skip (uw l.Ce j [x] w1)/\
   ∀ev∈(execOp (T5 l j v8 v9 v10 v11 v12 v13 v14 v15 v16 v17 v18 v19 v20 v21 v22 v23 v24 v25 v26 v27 v28 v29 (x) v31<|.pointer<|some ⟨l.Ce,j,none⟩).eval<|o5 19).events prog w1 #[],ev.loc=.cell ⟨l.Ce,j,none⟩:=by
 have mj:ev (fun i=>(T5 l j v8 v9 v10 v11 v12 v13 v14 v15 v16 v17 v18 v19 v20 v21 v22 v23 v24 v25 v26 v27 v28 v29 (x) v31<|.pointer<|some ⟨l.Ce,j,none⟩).tmps.getD i undef)=(T5 l j v8 v9 v10 v11 v12 v13 v14 v15 v16 v17 v18 v19 v20 v21 v22 v23 v24 v25 v26 v27 v28 v29 (x) v31<|.pointer<|some ⟨l.Ce,j,none⟩).eval:=by funext q;cases q<;>rfl
 constructor
 .rw[<-mj,<-Xl];exact run_store (P:=prog) (o:=o5 19) (w:=w1) (g:=l.Ce) (j:=j) (n:=1) (u:=x) (vs:= #[x]) (cs:=cs) (t:=e) (ρ:=fun i=>(T5 l j v8 v9 v10 v11 v12 v13 v14 v15 v16 v17 v18 v19 v20 v21 v22 v23 v24 v25 v26 v27 v28 v29 (x) v31<|.pointer<|some ⟨l.Ce,j,none⟩).tmps.getD i undef)
   (tt:=32) (x:=.tmp 32) (y:=.tmp 30) bg rfl rfl hx ai rfl hC aa (by simpa using h1)
 intro ev mj;unfold execOp at mj;simp only[o5,oW,DZ,EL,yQ,Aa,Tryz.f12,iK]at mj;simp[go_sem]at mj;have hm:=hx;unfold Value.cells at hm;rw[hm]at mj;simp[go_sem]at mj;obtain⟨r1,e1,s1⟩:=EX (P:=prog) (v:=x) hC hn h1;rw[e1]at mj;simp only[Array.mem_push,Array.not_mem_empty,false_or]at mj;subst mj
 rfl
theorem akC{A:lO}{cc:Nat}{p:lW}:(execOp (T5 l j v8 v9 v10 v11 v12 v13 v14 v15 v16 v17 v18 v19 v20 v21 v22 (.agg p) v24 v25 v26 (.slice A n cc) v28 v29 v30 v31 v32).eval (o5 12)).run prog w1=.ok (.enter 8 #[.agg p,.slice A n cc]) w1/\
  ∀e∈(execOp (T5 l j v8 v9 v10 v11 v12 v13 v14 v15 v16 v17 v18 v19 v20 v21 v22 (.agg p) v24 v25 v26 (.slice A n cc) v28 v29 v30 v31 v32).eval<|o5 12).events prog w1 #[],oc M c.A.R e:=by
 have hf:=func8;unfold execOp;simp only[o5,oW,DZ,EL,yQ,Aa,Tryz.f12,iK];constructor
 .simp[resolve,invoke,Deferred.ofValue,callFunc,hf,Tryz.f8,Act.eval]
 intro e he;simp[resolve,invoke,Deferred.ofValue,callFunc,hf,Tryz.f8,Act.eval]at he
end
def RJ(l:LM)(j:Nat)(rv:lW)(ev:lH):List Value:=[.slice (some ⟨l.Cr,0,none⟩) l.m l.m,.int .i64 j,.slice (some ⟨l.Ce,0,none⟩) l.m l.m,.int .i64 j,.slice (some ⟨l.Ap,0,none⟩) l.m l.pc,.int .i64 j,.pointer (some ⟨l.Ap,8*j,none⟩),.agg (l.AI j),
 .slice (some ⟨l.At,l.ao,none⟩) l.m l.tc,.int .i64 j,.pointer (some ⟨l.At,l.ao+j,none⟩),l.tape j,.tuple #[.agg rv,ev],.tuple #[.agg rv,ev],.agg rv,ev,.pointer (some ⟨l.Cr,5*j,none⟩),undef,.pointer (some ⟨l.Ce,j,none⟩),undef]
def Ft(L:pe)(V vals:mb):Prop:=∀i,On L i->i<20->i≠17->i≠19->V[xc i-8]?=vals[i]?
structure I5(c:mg)(l:LM)(x:Nat->mA)(j:Nat)(rv:lW)(ev:lH)(o:vZ)(L:pe)(a:Act)(M:lF)(w:lE):Prop where
 cl:zd oW L
 k:oF l w
 sh:c.Sh w
 m:∀b,M b->c.A.B0<=b
 b0:c.A.B0<=w.heap.size
 act:∃V:mb,V.length=25/\a=⟨(l.DX j++V).toArray,dW l⟩/\Ft L V (RJ l j rv ev)
 rep:On L 12->rR (x j) o/\uC M w (x j).title rv ev o
theorem OS(hi:i<20)(o9:i≠17)(pD:i≠19):(o5 i).dst=some (xc i)/\8<=xc i/\xc i-8<25:=by
 have h:=iq.1 alc i<|jy.2 hi;have h2:((List.range 20).all fun i=>Nat.beq i 17||Nat.beq i 19||(Nat.ble 8 (xc i)&&Nat.blt (xc i-8) 25)):=aw;have h3:=iq.1 h2 i<|jy.2 hi;cases hd:(o5 i).dst with
 |none=>
  rw[hd]at h;simp only[iP]at h;rcases h with h|h
  .exact ll (fM h) o9
  exact ll (fM h) pD
 |some d=>
  rw[hd]at h;have e:=fM h;subst e;simp only[iP,ij]at h3;rcases h3 with(h3|h3)|⟨h4,h5⟩
  .exact ll (fM h3) o9
  .exact ll (fM h3) pD
  exact⟨Z,fN h4,by simpa using h5⟩
theorem alb{k:Nat}(hi:i<20)(hk:k<20)(h:xc i=xc k)(o9:i≠17)(pD:i≠19)(JE:k≠17)(JF:k≠19):i=k:=by
 have h2:((List.range 20).all fun i=>(List.range 20).all fun k=> !(Nat.beq (xc i)<|xc k)||Nat.beq i k||Nat.beq i 17||Nat.beq i 19):=aw;have h3:=iq.1 (iq.1 h2 i<|jy.2 hi) k<|jy.2 hk;have e:Nat.beq (xc i) (xc k):=by rw[h];exact j2 _
 rw[e]at h3;simp only[jH,jG,iP]at h3;rcases h3 with(h3|h3)|h3
 .exact fM h3
 .exact ll (fM h3) o9
 exact ll (fM h3) pD
theorem RR(hi:i<20)(y:Nat->Option Bool):Region.wanted (o5 i) y:=by
 have h:=iq.1 axw i<|jy.2 hi;have:(o5 i).guard=none:=by simpa using h
 unfold Region.wanted;rw[this]
theorem Qj:bW.kind≠.early:=by simp[bW,baseD,base]
theorem ae9{l:LM}{j:Nat}{d:Nat}(hd:8<=d):Act.put ⟨(l.DX j++V).toArray,dW l⟩ (some d) v=⟨(l.DX j++V.set (d-8) v).toArray,dW l⟩:=by
 simp only[Act.put,List.setIfInBounds_toArray,fK _ _<|show(l.DX j).length<=d from hd]
 rfl
theorem Ft.set{L:pe}{vals:mb}(h:Ft L V vals)(hn:L.size=20)(hi:i<20)(o9:i≠17)(pD:i≠19)(hV:V.length=25)(hv:vals[i]?=some v):Ft (L.setIfInBounds i true) (V.set (xc i-8) v) vals:=by
 intro k hk Mo JE JF;rw[EC aa]at hk;have⟨_,oh,lX⟩:=OS hi o9 pD;have⟨_,azv,_⟩:=OS Mo JE JF;rcases jV (k=i)with rfl|mK
 .rw[hv,List.getElem?_set_self aa]
 have nY:=hk.resolve_left mK;rw[List.getElem?_set_ne (fun e=>mK<|alb Mo hi aa JE JF o9 pD)];exact h k nY Mo JE JF
section
variable{c:mg}{l:LM}{x:Nat->mA}{j:Nat}{rv:lW}{ev:lH}{o:vZ}{L:pe}{a:Act}{M:lF}{w:lE}{i:Nat}{rest:nN}{Stop:qz}{v:lH}
abbrev W5(c:mg)(Stop:qz)(rest:nN)(a:Act)(M:lF)(w:lE):Prop:=Own prog false c.A.R c.Sh (fun _=>False) Stop M (G (bW.at a (.inRegion oW rest::M9)) [wZ]) w
theorem wx(hi:i<20)(o9:i≠17)(pD:i≠19)(rk:i≠12)(I:I5 c l x j rv ev o L a M w)(hd:∀d∈oR oW i,On L d)(hdo:∀w1,c.Rel M w w1->uS c M a i v w1)(hv:(RJ l j rv ev)[i]?=some v)
  (next:∀a',I5 c l x j rv ev o (L.setIfInBounds i true) a' M w->W5 c Stop rest a' M w):W5 c Stop (i::rest) a M w:=by
 have hn:L.size=20:=I.cl.n.trans B9;apply AH (Nf hi) (RR hi _) Qj hdo;obtain⟨V,hV,rfl,hT⟩:=I.act;have⟨e,oh,lX⟩:=OS hi o9 pD;rw[e,ae9 oh];exact next _ ⟨I.cl.step (by rw[B9];exact hi) hd,I.k,I.sh,I.m,I.b0,⟨_,by simpa using hV,rfl,hT.set hn hi o9 pD hV hv⟩,fun h=>I.rep<|((EC aa).1 h).resolve_left<|fun e=>rk e.symm⟩
end
section
variable{c:mg}{l:LM}
theorem Ze{ty:lT}{g:Nat}(h:Go.ConcN.WgLive ty g w)(e:w1.heap[g]?=w.heap[g]?):Go.ConcN.WgLive ty g w1:=by obtain⟨st,sm,h⟩:=h;exact⟨st,sm,h.of_block e⟩
theorem agv(K:c.Ok0)(h:nJ M w w1)(hM:∀b,M b->c.A.B0<=b)(hB:c.A.B0<=w.heap.size)(hS:c.Sh w):c.Sh w1:=by have hb:∀b,b<c.A.B0->w1.heap[b]?=w.heap[b]?:=fun b hb=>h.rest b (fun hm=>by have:=hM b hm;omega) aa;obtain⟨h1,h2,h3,h4⟩:=hS;exact⟨Ze h1<|hb _ K.nq.wB,by rw[hb _ K.nq.cB];exact h2,by rw[hb _ K.nq.oB];exact h3,K.qD w w1 h.size (fun b sV _ _ _=>hb b sV) h4⟩
theorem ad3(K:c.Ok0)(k:oP c l)(h:nJ M w w1)(hM:∀b,M b->c.A.B0<=b)(hB:c.A.B0<=w.heap.size)(hS:oF l w):oF l w1:=
 hS.keep k h.size fun b hR=>by have:=K.nq.rB b hR;exact h.rest b (fun hm=>by have:=hM b hm;omega) aa
variable{x:Nat->mA}{j:Nat}{rv:lW}{ev:lH}{o:vZ}{L:pe}{a:Act}{M:lF}{w w1:lE}{i:Nat}{rest:nN}{Stop:qz}{v:lH}
theorem I5.rely(k:oP c l)(I:I5 c l x j rv ev o L a M w)(r:c.Rel M w w1):I5 c l x j rv ev o L a M w1:=⟨I.cl,I.k.rely k r,r.sh I.sh,I.m,j5 I.b0 r.size,I.act,fun h=>⟨(I.rep h).1,(I.rep h).2.keep (fun _ h=>h) fun b hb=>r.mine b<|.inl hb⟩⟩
theorem ahB(k:oP c l)(hj:j<l.m)(hi:i<20)(o9:i≠17)(pD:i≠19)(rk:i≠12)(I:I5 c l x j rv ev o L a M w)(hd:∀d∈oR oW i,On L d)
  (next:∀a',I5 c l x j rv ev o (L.setIfInBounds i true) a' M w->W5 c Stop rest a' M w):W5 c Stop (i::rest) a M w:=by
 have⟨V,hV,ha,hT⟩:=I.act;have hK:∀w1,c.Rel M w w1->oF l w1:=fun w1 r=>I.k.rely k r;have dp:∀{d:Nat},d∈oR oW i->d<20->d≠17->d≠19->V[xc d-8]?=(RJ l j rv ev)[d]?:=fun h h1 h2 h3=>hT _ (hd _ h) h1 h2 h3;have dd:oR oW i=((List.range 20).map<|oR oW)[i]?.getD []:=by rw[gW,gm hi];rfl
 rw[G1]at dd;rw[dd]at dp;obtain⟨v8,v9,v10,v11,v12,v13,v14,v15,v16,v17,v18,v19,v20,v21,v22,v23,v24,v25,v26,v27,v28,v29,v30,v31,v32,rfl⟩:=Qn hV;subst ha
 match i,hi with
 |0,_=>exact wx aa o9 pD rk I hd (fun w1 r=>aky k (hK w1 r) hj) rfl next
 |1,_=>exact wx aa o9 pD rk I hd (fun w1 r=>akz k (hK w1 r) hj) rfl next
 |2,_=>exact wx aa o9 pD rk I hd (fun w1 r=>akK k (hK w1 r) hj) rfl next
 |3,_=>exact wx aa o9 pD rk I hd (fun w1 r=>akL k (hK w1 r) hj) rfl next
 |4,_=>exact wx aa o9 pD rk I hd (fun w1 r=>akM k (hK w1 r) hj) rfl next
 |5,_=>exact wx aa o9 pD rk I hd (fun w1 r=>akN k (hK w1 r) hj) rfl next
 |6,_=>have e1:=dp (d:=4) aw aa aa aa;have e2:=dp (d:=5) aw aa aa aa;injection e1 with e1;injection e2 with e2;subst e1;subst e2;exact wx aa o9 pD rk I hd (fun w1 r=>akO k (hK w1 r) hj) Z next
 |7,_=>have e1:=dp (d:=6) aw aa aa aa;injection e1 with e1;subst e1;exact wx aa o9 pD rk I hd (fun w1 r=>akP k (hK w1 r) hj) Z next
 |8,_=>exact wx aa o9 pD rk I hd (fun w1 r=>akQ k (hK w1 r) hj) rfl next
 |9,_=>exact wx aa o9 pD rk I hd (fun w1 r=>akR k (hK w1 r) hj) rfl next
 |10,_=>have e1:=dp (d:=8) aw aa aa aa;have e2:=dp (d:=9) aw aa aa aa;injection e1 with e1;injection e2 with e2;subst e1;subst e2;exact wx aa o9 pD rk I hd (fun w1 r=>akA k (hK w1 r) hj) Z next
 |11,_=>have e1:=dp (d:=10) aw aa aa aa;injection e1 with e1;subst e1;exact wx aa o9 pD rk I hd (fun w1 r=>akB k (hK w1 r) hj) Z next
 |12,_=>exact ll rfl rk|13,_=>have e1:=dp (d:=12) aw aa aa aa;injection e1 with e1;subst e1;exact wx aa o9 pD rk I hd (fun w1 r=>akD k (hK w1 r) hj) Z next
 |14,_=>have e1:=dp (d:=13) aw aa aa aa;injection e1 with e1;subst e1;exact wx aa o9 pD rk I hd (fun w1 r=>akE k (hK w1 r) hj) Z next
 |15,_=>have e1:=dp (d:=13) aw aa aa aa;injection e1 with e1;subst e1;exact wx aa o9 pD rk I hd (fun w1 r=>akF k (hK w1 r) hj) Z next
 |16,_=>have e1:=dp (d:=0) aw aa aa aa;have e2:=dp (d:=1) aw aa aa aa;injection e1 with e1;injection e2 with e2;subst e1;subst e2;exact wx aa o9 pD rk I hd (fun w1 r=>akG k (hK w1 r) hj) Z next
 |17,_=>exact ll rfl o9|18,_=>have e1:=dp (d:=2) aw aa aa aa;have e2:=dp (d:=3) aw aa aa aa;injection e1 with e1;injection e2 with e2;subst e1;subst e2;exact wx aa o9 pD rk I hd (fun w1 r=>akI k (hK w1 r) hj) Z next
 |19,_=>exact ll rfl pD|_+20,h=>exact ll h aa
theorem asF(K:c.Ok0)(k:oP c l)(nC:∀w,l.Kn w->K5 c l x D w)(hj:j<l.m)(I:I5 c l x j rv ev o L a M w)(mI:¬On L 12)(hd:∀d∈oR oW 12,On L d)
  (next:∀rv ev o a' M' w',(∀b,M b->M' b)->I5 c l x j rv ev o (L.setIfInBounds 12 true) a' M' w'->W5 c Stop rest a' M' w'):W5 c Stop (12::rest) a M w:=by
 have⟨V,hV,ha,hT⟩:=I.act;have hn:L.size=20:=I.cl.n.trans B9;have dd:oR oW 12=[7,11]:=by have:oR oW 12=((List.range 20).map<|oR oW)[12]?.getD []:=bJ;rw[this,G1];rfl
 have e1:=hT 7 (hd _ cn) aa aa aa;have e2:=hT 11 (hd _ cn) aa aa aa;have⟨A,n,cc,hp,hpD,hpO⟩:=(nC w I.k.kn).tape j hj;have MH:=((nC w I.k.kn).AI j hj)
 have oz:=I.cl;have D9:∀Ig CG,Ft L V (RJ l j Ig CG):=fun Ig CG i hi Jd o9 pD=>by
  have wz:∀d,d∈oR oW i->On L d:=fun d hd=>oz.cl i hi d hd;have dd:oR oW i=((List.range 20).map<|oR oW)[i]?.getD []:=by rw[gW,gm Jd];rfl
  rw[G1]at dd;rw[dd]at wz;rw[hT i hi Jd o9 pD]
  match i,Jd with
  |0,_|1,_|2,_|3,_|4,_|5,_|6,_|7,_|8,_|9,_|10,_|11,_|16,_|17,_|18,_|19,_=>rfl|12,_=>exact ll hi mI|13,_=>exact ll (wz 12 aw) mI
  |14,_=>exact ll (oz.cl 13 (wz 13 aw) 12 (by
    have:oR oW 13=((List.range 20).map<|oR oW)[13]?.getD []:=bJ
    rw[this,G1];decide)) mI
  |15,_=>exact ll (oz.cl 13 (wz 13 aw) 12 (by
    have:oR oW 13=((List.range 20).map<|oR oW)[13]?.getD []:=bJ
    rw[this,G1];decide)) mI
  |_+20,h=>exact ll h aa
 obtain⟨v8,v9,v10,v11,v12,v13,v14,v15,v16,v17,v18,v19,v20,v21,v22,v23,v24,v25,v26,v27,v28,v29,v30,v31,v32,rfl⟩:=Qn hV;injection e1 with e1;injection e2 with e2;subst e1;subst e2;rw[hp]at D9 ha;subst ha;unfold W5;refine QR (Nf aa) (RR aa _) Qj func8 Z (fun w1 r=>akC) fun w1 r=>?_;have h1:oF l w1:=I.k.rely k r;have L6:c.Sh w1:=r.sh I.sh;have KN:=nC w1 h1.kn;have⟨A',n',cc',Jt,aph,Wh⟩:=KN.tape j hj;rw[hp]at Jt;injection Jt with e1 e2 e3;subst e1;subst e2;subst e3;have aBn:n=(x j).nums.length:=by obtain⟨A0,c0,hv,_⟩:=Wh;injection hv
 rw[MH.1]at D9|-;refine asG (K:=fun u v=>∃t,Oj (x j).nums (x j).n (x j).k (x j).a (x j).t (x j).bk (x j).title (x j).gen (x j).lP (wL (SF nE) D<|w1.tp t) (.returned u) v) (D:=D) (fun w=>oF l w/\c.Sh w/\c.A.B0<=w.heap.size) (fun M2 w2 w3 r2 hJ=>⟨hJ.1.rely k r2,r2.sh hJ.2.1,j5 hJ.2.2 r2.size⟩)
  (fun M2 w2 w3 UJ sp hJ=>?_) ⟨h1,L6,KN.b0⟩ Lv func8 rfl aw KN.BA (fun g hg=>KN.fa.xQ g<|by simpa[nE]using hg) ⟨KN.sub,KN.row⟩ (fun u hu=>?_) (fun t=>?_) ?_
 .have LY:∀b,M2 b->c.A.B0<=b:=fun b hb=>(UJ b hb).elim (I.m b) fun h=>j5 KN.b0 h;exact⟨ad3 K k sp LY hJ.2.2 hJ.1,agv K sp LY hJ.2.2 hJ.2.1,j5 hJ.2.2 sp.size⟩
 .simp only[iB,jM,iD,ld]at hu;rcases hu with rfl|rfl
  .refine .Bd<|AR.self fun u hu=>?_;simp only[mA.AJ,iB,jM,iD,ld]at hu;rcases hu with rfl|rfl|rfl|rfl|rfl|rfl|rfl|rfl
   .exact .int _ _
   .exact .int _ _
   .exact .int _ _
   .exact .int _ _
   .exact .bool _
   .exact .string _
   .exact .string _
   exact .int _ _
  cases A with
  |none=>exact .qI _ _|some a=>
   by_cases xU:cc=0
   .subst xU;obtain⟨A0,c0,hv,aBm,_⟩:=Wh;injection hv with q1 q2 q3;have e0:n=0:=aa;subst e0;exact .tn a
   exact .slice _ _ ⟨zE (aph a Z xU).1,Z,Z⟩
 .refine(O5 (x j).n (x j).k (x j).a (x j).t (x j).bk (x j).title (x j).gen (x j).lP A n cc (x j).nums D (wL (SF nE) D<|w1.tp t) (adG (Wh:pL (w1.tp t) D _ _)) (yo.view (w:=w1.tp t) ⟨⟨⟨KN.fa.fa.num.EY,KN.fa.fa.num.EN,KN.fa.fa.num.tab⟩,KN.fa.fa.err,KN.fa.fa.kn⟩,KN.fa.xQ,KN.fa.EY,KN.fa.EN⟩) MH.2).mono fun e w' hh=>?_;rcases hh with⟨z,T,v0,rT,rfl,hI⟩|hg
  .exact⟨_,Z,t,.inl ⟨z,T,v0,rT,Z,hI⟩⟩
  obtain⟨n',k',a',t',t2,aBi,A1,c1,A2,c2,q1,q2,q3,q4,q5,q6,q7,q8,q9,Gl,rfl,H8⟩:=hg;exact⟨_,Z,t,.inr ⟨n',k',a',t',t2,aBi,A1,c1,A2,c2,q1,q2,q3,q4,q5,q6,q7,q8,q9,Gl,Z,H8⟩⟩
 rintro U u u' v w2 M' aBm hu ⟨t,hK⟩ hW qc xS uI ⟨g1,g2,g3⟩;obtain⟨o',Ig,CG,x9,rfl,CY⟩:=auj KN K.nq.rB aBm hu hK hW qc;rw[iQ,Nf aa];have⟨e,oh,lX⟩:=OS (i:=12) aa aa aa;have e':((some<|o5 12).bind fun x=>x.dst)=some (xc 12):=e;rw[e'];have hp5:=ae9 (l:=l) (j:=j) (V:=[v8,v9,v10,v11,v12,v13,v14,v15,v16,v17,v18,v19,v20,v21,v22,.agg (x j).AJ,v24,v25,v26,.slice A n cc,v28,v29,v30,v31,v32]) (v:=.tuple #[.agg Ig,CG]) oh;refine next Ig CG o' _ M' w2 xS ⟨oz.step (by rw[B9];omega) hd,g1,g2,fun b hb=>(uI b hb).elim (I.m b) fun h=>j5 KN.b0 h,g3,⟨_,?_,hp5,(D9 Ig CG).set (i:=12) hn aa aa aa Z Z⟩,fun _=>⟨x9,CY⟩⟩
 simp
end
def GL(c:mg)(l:LM)(M:lF)(g:lZ)(w:lE):Prop:=M=none_/\Ob l g w/\c.Sh w
structure K2(c:mg)(l:LM)(x:Nat->mA):Prop where
 QD:∀j,j<l.m->∀i,i<5->c.A.tR j ⟨l.Cr,5*j+i,none⟩
 Xs:∀j,j<l.m->c.A.tR j ⟨l.Ce,j,none⟩
 ne:l.Cr≠l.Ce
 aao:∀w,c.tv w->∃cs e,w.heap[l.Cr]?=some (.cells cs e (0,0))/\5*l.m<=cs.size
 aan:∀w,c.tv w->∃cs e,w.heap[l.Ce]?=some (.cells cs e (0,0))/\l.m<=cs.size
 aaP:∀w j vs,j<l.m->vs.length=5->vs.all (·.oneCell')->c.tv w->c.tv (uw l.Cr (5*j) vs w)
 aaO:∀w j v,j<l.m->v.oneCell'->c.tv w->c.tv (uw l.Ce j [v] w)
 res:∀j M w rv ev o,j<l.m->rR (x j) o->uC M w (x j).title rv ev o->(∀(i:Nat) u,rv[i]?=some u->w.cell? ⟨l.Cr,5*j+i,none⟩=some u)->w.cell? ⟨l.Ce,j,none⟩=some ev->c.DG j M w
 head:∀g w,c.WO (GL c l) g w->c.Head g w
def Qw(l:LM)(j:Nat)(rv:lW):List (Addr×Value):=(List.range 5).map fun i=>(⟨l.Cr,5*j+i,none⟩,rv.getD i undef)
section
variable{c:mg}{l:LM}{x:Nat->mA}{j:Nat}{rv:lW}{ev:lH}{o:vZ}{L:pe}{a:Act}{M:lF}{w w1:lE}{i:Nat}{rest:nN}{Stop:qz}{v:lH}
theorem AG{R:lF}{e:Event}(h:oc none_ R e):oc M R e:=by
 unfold oc at h|-;cases hl:e.loc with
 |cell a=>rw[hl]at h;exact .inr<|h.resolve_left id|obj r=>rw[hl]at h;exact h.elim|mark m=>rw[hl]at h;exact h|_=>rw[hl]at h;exact h.elim
theorem QS{P:lY}{main:Bool}{R:lF}{Sh:oQ}{X:Event->Prop}{E:Event->Prop}(hE:∀e,E e->∀M,oc M R e\/X e){Rl:World->World->Prop}(yO:∀M w w1,oe M R Sh w w1->Rl w w1){S:vo}:∀{n:Nat} {M:lF} {g:lZ} {w:lE},Goes P main Rl (fun w w' es=>w'=w/\∀e∈es,E e) S n g w->Sh w->Own P main R Sh X (fun M' g w=>M'=M/\S g w/\Sh w) M g w
 |0,M,g,w,h,hS=>.stop fun w1 hr=>⟨rfl,h w1<|yO _ _ _ hr,hr.sh hS⟩
 |n+1,M,g,w,h,hS=>by
  rcases h with h|⟨hs,h⟩
  .exact .stop fun w1 hr=>⟨Z,h w1<|yO _ _ _ hr,hr.sh hS⟩
  refine Own.mk hs fun w1 hr=>?_;have:=h w1<|yO _ _ _ hr;cases hg:stepG P main g w1 with
  |go g' w' es=>rw[hg,goes_go]at this;have⟨⟨e1,e2⟩,hn⟩:=this;subst e1;refine⟨g',w',es,Z,nJ.refl _ _,fun e he=>hE e (e2 e he) _,?_⟩;rw[Bz];exact QS hE yO hn<|hr.sh hS
  |_=>rw[hg]at this;exact this.elim
theorem uC.evc:∀{o:vZ} {t:ox},uC M w t rv ev o->ev.cells= #[ev]
 |.bad z,_,⟨h1,h2⟩=>by rcases h2 with rfl|⟨b,o,rfl,_⟩<;>rfl
 |.u9 evs code ord mG,_,⟨A1,c1,A2,c2,h1,h2,h3,h4⟩=>by subst h2;rfl
theorem adT(K:c.Ok0)(k:oP c l){g off:Nat}{vs:mb}{cs:lW}(hC:w.heap[g]?=some (.cells cs e (0,0)))(hn:off+vs.length<=cs.size)(h1:vs.all (·.oneCell'))(uq:0<vs.length)
  (hm:∀i,i<vs.length->c.A.tR j ⟨g,off+i,none⟩) (hK:oF l w) (hS:c.Sh w) (wy:c.tv (uw g off vs w)):
  c.Lays j w (uw g off vs w)/\oF l (uw g off vs w)/\c.Sh (uw g off vs w)/\(∀(i:Nat) u,vs[i]?=some u->(uw g off vs w).cell? ⟨g,off+i,none⟩=some u)/\g<c.A.B0/\(uw g off vs w).heap.size=w.heap.size/\∀b,b≠g->(uw g off vs w).heap[b]?=w.heap[b]?:=by
 have⟨mR,uK,ht,HC,x9⟩:=Qm g vs off w;have⟨cs',FL,adg,xo,xk⟩:=Ql g vs off w hC hn h1;have Av:=hm 0 uq;have hB:=K.nq.mB j _ Av;dsimp only at hB;have hR:∀b,c.A.R b->b≠g:=fun b hb e=>K.nq.rM j _ Av<|e▸hb;have BD:c.Sh (uw g off vs w):=⟨Ze hS.1<|uK _<|lg hB.2.1,by rw[uK _ (lg hB.2.2.1)];exact hS.2.1,by rw[uK _ (lg hB.2.2.2)];exact hS.2.2.1,wy⟩
 refine⟨⟨mR,fun b hb=>uK b (fun e=>hb _ Av<|by rw[e]),fun a ha=>?_,ht,HC,x9⟩,hK.keep k (j3 mR.symm)<|fun b hb=>uK b<|hR b hb,BD,fun i u hu=>?_,hB.1,mR,uK⟩
 .by_cases hb:a.block=g
  .obtain⟨ab,ao,IT⟩:=a;dsimp only at hb;subst hb;simp only[World.cell?,FL,hC];cases IT with
   |some s=>rfl|none=>
    simp only[Option.isSome_none,gy,kZ];apply xo ao;apply eD;intro mI;have hx:∃i,i<vs.length/\ao=off+i:=⟨ao-off,aa,aa⟩
    obtain⟨i,hi,rfl⟩:=hx;exact ha<|hm i hi
  exact mg.cell_of<|uK _ hb
 simp only[World.cell?,FL,xk i u hu]
 rfl
theorem Ft.Rk{vals:mb}(h:Ft L V vals)(hn:L.size=20)(hi:i<20)(o9:i=17\/i=19):Ft (L.setIfInBounds i true) V vals:=by intro k hk Mo JE JF;rw[EC aa]at hk;exact h k (hk.resolve_left aa) Mo JE JF
theorem aa2(hi:i<20){l:nN}(h:((List.range 20).map (oR oW))[i]?.getD []=l):oR oW i=l:=by rw[<-h,gW,gm hi];rfl
theorem aa1:oR oW 17=[16,14,12,0,1,2,4,5,6,7,8,9,10,11,12,13,14]:=aa2 aa (by rw[G1];rfl)
theorem S6:oR oW 19=[18,15,17,0,1,2,3,4,5,6,7,8,9,10,11,12,13,14,15,16,17]:=aa2 aa (by rw[G1];rfl)
theorem ak9:(o5 17).dst=none:=bg
theorem ala:(o5 19).dst=none:=bg
theorem ai4(K:c.Ok0)(k:oP c l)(H:K2 c l x)(hP:c.P=prog)(hj:j<l.m)(I:I5 c l x j rv ev o L a M w)(mI:¬On L 17)(hd:∀d∈oR oW 17,On L d)
  (next:∀a' w',I5 c l x j rv ev o (L.setIfInBounds 17 true) a' M w'->W5 c (c.Iz j<|Qw l j rv) rest a' M w'):W5 c (c.Dx j) (17::rest) a M w:=by
 have dd:=aa1;have aoS:L.size=20:=I.cl.n.trans B9;refine .stop fun w1 r=>?_;have I1:=I.rely k r;obtain⟨V,hV,rfl,hT⟩:=I1.act;have S8:=hT 14 (hd _ cn) aa aa aa;have Tk:=hT 16 (hd _ cn) aa aa aa;have⟨x9,CY⟩:=I1.rep<|hd _ cn;have⟨hs,h1,h2⟩:=CY.size;obtain⟨x0,x1,x2,x3,x4,rfl⟩:=Z7 _ hs.symm;have⟨cs,e,hC,hn⟩:=H.aao w1 I1.sh.2.2.2;have FL:=H.aaP w1 j [x0,x1,x2,x3,x4] hj rfl h1 I1.sh.2.2.2;have⟨q1,q2,q3,q4,q5,q6,q7⟩:=adT K k (j:=j) hC (off:=5*j) (vs:=[x0,x1,x2,x3,x4]) (by show 5*j+5<=_;omega) h1 (by show 0<5;omega) (fun i hi=>H.QD j hj i hi) I1.k I1.sh FL;have BE:=hT.Rk (i:=17) aoS aa<|.inl rfl;have Mb:=hV;obtain⟨v8,v9,v10,v11,v12,v13,v14,v15,v16,v17,v18,v19,v20,v21,v22,v23,v24,v25,v26,v27,v28,v29,v30,v31,v32,rfl⟩:=Qn hV;injection S8 with S8;injection Tk with Tk;subst S8;subst Tk;have⟨hr,mj⟩:=akH (l:=l) (w1:=w1) (v8:=v8) (v9:=v9) (v10:=v10) (v11:=v11) (v12:=v12) (v13:=v13) (v14:=v14) (v15:=v15) (v16:=v16) (v17:=v17) (v18:=v18) (v19:=v19) (v20:=v20) (v21:=v21) (v22:=v22) (v23:=v23) (v24:=v24) (v25:=v25) (v26:=v26) (v27:=v27) (v28:=v28) (v30:=v30) (v32:=v32) (j:=j) hC (show 5*j+5<=cs.size by omega) h1;have mo:=stepG_none (P:=prog) (main:=false) (b:=bW) (k:=M9) (cs:=[wZ]) (rest:=rest) (Nf<|show 17<20 by omega) (RR aa _) Qj hr;rw[ak9]at mo;refine⟨Z,_,_,_,Qw l j #[x0,x1,x2,x3,x4],by rw[hP];exact mo,q1,fun ev he=>?_,FL,fun p hp=>?_,?_⟩
 .have⟨i,hi,e⟩:=mj ev<|kO he;exact⟨_,e,H.QD j hj i hi⟩
 .obtain⟨i,hi,rfl⟩:=jZ.1 hp;have PH:i<5:=jy.1 hi;refine⟨H.QD j hj i PH,q4 i _ ?_⟩
  match i,PH with
  |0,_|1,_|2,_|3,_|4,_=>rfl
 rw[hP];refine next _ _ ⟨I1.cl.step (by rw[B9];omega) hd,q2,q3,I1.m,by rw[q6];exact I1.b0,⟨_,Mb,rfl,BE⟩,fun _=>⟨x9,CY.keep (fun _ h=>h) fun b hb=>q7 b (fun e=>by have:=I1.m b hb;omega)⟩⟩
def J5(c:mg)(l:LM)(a:Act)(w:lE):Prop:=oF l w/\c.Sh w/\∃(j:Nat) (V:mb),V.length=25/\a=⟨(l.DX j++V).toArray,dW l⟩
theorem ai5(K:c.Ok0)(k:oP c l)(H:K2 c l x)(hP:c.P=prog)(hj:j<l.m)(I:I5 c l x j rv ev o L a M w)(hd:∀d∈oR oW 19,On L d)
  (next:∀a' w',J5 c l a' w'->W5 c (GL c l) rest a' none_ w'):W5 c (c.Iz j<|Qw l j rv) (19::rest) a M w:=by
 have dd:=S6;refine .stop fun w1 r=>?_;have I1:=I.rely k r;obtain⟨V,hV,rfl,hT⟩:=I1.act;have S9:=hT 15 (hd _ cn) aa aa aa;have To:=hT 18 (hd _ cn) aa aa aa;have⟨x9,CY⟩:=I1.rep<|hd _ cn;have⟨hs,_,h1⟩:=CY.size;have uG:[ev].all (·.oneCell'):=by simp[h1]
 have⟨cs,e,hC,hn⟩:=H.aan w1 I1.sh.2.2.2;have FL:=H.aaO w1 j ev hj h1 I1.sh.2.2.2
 have⟨q1,q2,q3,q4,q5,q6,q7⟩:=adT K k (j:=j) hC (off:=j) (vs:=[ev]) (by show j+1<=_;omega) uG (by show 0<1;omega) (fun i hi=>by
  have:i=0:=by simpa using hi
  subst this
  exact H.Xs j hj) I1.k I1.sh FL
 have Mb:=hV;obtain⟨v8,v9,v10,v11,v12,v13,v14,v15,v16,v17,v18,v19,v20,v21,v22,v23,v24,v25,v26,v27,v28,v29,v30,v31,v32,rfl⟩:=Qn hV;injection S9 with S9;injection To with To;subst S9;subst To;have⟨hr,mj⟩:=akJ (l:=l) (w1:=w1) (v8:=v8) (v9:=v9) (v10:=v10) (v11:=v11) (v12:=v12) (v13:=v13) (v14:=v14) (v15:=v15) (v16:=v16) (v17:=v17) (v18:=v18) (v19:=v19) (v20:=v20) (v21:=v21) (v22:=v22) (v23:=v23) (v24:=v24) (v25:=v25) (v26:=v26) (v27:=v27) (v28:=v28) (v29:=v29) (v31:=v31) (j:=j) hC (show j<cs.size by omega) h1 CY.evc;have mo:=stepG_none (P:=prog) (main:=false) (b:=bW) (k:=M9) (cs:=[wZ]) (rest:=rest) (Nf<|show 19<20 by omega) (RR aa _) Qj hr;rw[ala]at mo;refine⟨Z,fun hl=>⟨_,_,_,by rw[hP];exact mo,q1,fun ev he=>?_,FL,?_,?_⟩⟩
 .exact⟨_,mj ev<|kO he,H.Xs j hj⟩
 .refine H.res j M _ rv _ o hj x9 (CY.keep (fun _ h=>h) fun b hb=>q7 b (fun e=>by have:=I1.m b hb;omega)) (fun i u hu=>?_)<|q4 0 _ rfl;have PH:i<5:=by have:=(eg.1 hu).1;omega
  rw[mg.cell_of (w:=w1) (q7 _ H.ne)];refine hl (⟨l.Cr,5*j+i,none⟩,u)<|jZ.2 ⟨i,jy.2 PH,?_⟩;rw[ed,hu];rfl
 refine H.head _ _ ?_;unfold mg.WO;rw[hP];exact next _ _ ⟨q2,q3,_,_,Mb,Z⟩
theorem asC(hP:c.P=prog)(k:oP c l)(h:J5 c l a w):W5 c (GL c l) [] a none_ w:=by
 obtain⟨hK,hS,j,V,hV,rfl⟩:=h;have key:Goes prog false (c.Rel none_) (DW c) (Ob l) 10 (G (bW.at ⟨(l.DX j++V).toArray,dW l⟩ (.inRegion oW []::M9)) [wZ]) w:=?_
 .exact QS (E:=oc none_ c.A.R) (fun e h M=>.inl<|AG h) (fun M w w1 h=>mg.Dh h) key hS
 refine Hb (fun _ _ _ h=>GY h) ?_;u_c iM (kw k) hK;u_c jS (kw k) hK;u_c jS (kw k) hK;u_c kj (kw k) hK;exact kV fun AP ub=>⟨Y j::V,by simp[hV],by simp[LM.DX],kw k hK ub⟩
theorem auc(K:c.Ok0)(k:oP c l)(nC:∀w,l.Kn w->K5 c l x D w)(H:K2 c l x)(hP:c.P=prog)(hj:j<l.m){g:lZ}(h5:Zv l j g w)(hS:c.Sh w):
  Own prog false c.A.R c.Sh (fun _=>False) (c.Dx j) none_ g w:=by
 obtain⟨V,hV,rfl,hK⟩:=h5;rw[akj];have Sp:∀{L:pe},zd oW L->On L 19->∀i,i<20->On L i:=by
  intro L hc h i hi;have dd:=S6;by_cases e:i=19
  .subst e;exact h
  apply hc.cl 19 h i;rw[dd]
  match i,hi with
  |0,_|1,_|2,_|3,_|4,_|5,_|6,_|7,_|8,_|9,_|10,_|11,_|12,_|13,_|14,_|15,_|16,_|17,_|18,_=>decide|19,_=>exact ll rfl e|_+20,h=>exact ll h aa
 have d17:∀{L:pe},zd oW L->On L 17->On L 12:=fun hc h=>hc.cl 17 h 12 (by rw[aa1];decide);refine aeK (by rfl) fun w1 r t w2 xu=>?_;have BC:oF l w2/\c.Sh w2/\c.A.B0<=w2.heap.size:=by
  have h1:oF l w1:=hK.rely k r;have hb:=(nC w1 h1.kn).b0;rcases xu with rfl|rfl
  .exact⟨h1,r.sh hS,hb⟩
  have sp:nJ none_ w1 w1.drew:=⟨ku _,fun _ _ _=>rfl,rfl,rfl,rfl⟩
  exact⟨ad3 K k sp (fun b h=>h.elim) hb h1,agv K sp (fun b h=>h.elim) hb<|r.sh hS,hb⟩
 have key:=ago (aBi:=oW) (fun _ _ _ _=>True) (fun L rest a M w=>
   (¬On L 17->∀rv ev o,I5 c l x j rv ev o L a M w->W5 c (c.Dx j) rest a M w)/\
   (On L 17->¬On L 19->∀rv ev o,I5 c l x j rv ev o L a M w->W5 c (c.Iz j<|Qw l j rv) rest a M w)/\
   (On L 19->zd oW L->M=none_->J5 c l a w->W5 c (GL c l) rest a M w)) (fun L a M w hr _=>?_) (fun L a M w i rest hi _ sY=>?_) oW.size t (Array.replicate oW.size false) ⟨(l.DX j++V).toArray,dW l⟩ none_ w2 (by simp[zR]) trivial
 .refine key.1 (HY _ _) #[] undef (.bad 0) ⟨zd.none _,BC.1,BC.2.1,fun b h=>h.elim,BC.2.2,⟨V,hV,Z,fun i hi=>ll hi<|HY _ _⟩,fun h=>ll h<|HY _ _⟩
 .have pD:∀{rv ev o},I5 c l x j rv ev o L a M w->On L 19:=fun I=>eD fun mI=>afR I.cl.n ajk (x:=19) (by rw[B9];omega) mI hr;refine⟨fun mI rv ev o I=>ll (Sp I.cl (pD I) 17 aa) mI,fun _ mI rv ev o I=>ll (pD I) mI,fun _ _ hM hJ=>?_⟩;subst hM;exact asC hP k hJ
 have⟨lX,PV,hd⟩:=afQ hi;rw[B9]at lX;have J8:∀{n},L.size=oW.size->(On (L.setIfInBounds i true) n↔n=i\/On L n):=fun hn=>EC (by rw[hn,B9];exact lX);refine⟨fun o9 rv ev o I=>?_,fun o9 pD rv ev o I=>?_,fun pD hc hM hJ=>ll (Sp hc pD i lX) PV⟩
 .by_cases LH:i=17
  .subst LH
   exact ai4 K k H hP hj I o9 hd fun a' w' I'=>(sY a' M w' trivial).2.1 ((J8 I.cl.n).2 (.inl Z)) (fun h=>by
    rcases(J8 I.cl.n).1 h with h|h
    .omega
    exact o9 (Sp I.cl h 17 aa)) rv ev o I'
  have pD:i≠19:=fun e=>by subst e;exact o9 (hd 17<|by rw[S6];decide)
  have acU:¬On (L.setIfInBounds i true) 17:=fun h=>((J8 I.cl.n).1 h).elim (fun e=>LH e.symm) o9;by_cases OT:i=12
  .subst OT;exact asF K k nC hj I PV hd fun rv ev o a' M' w' hM I'=>(sY a' M' w' trivial).1 acU rv ev o I'
  exact ahB k hj lX LH pD OT I hd fun a' I'=>(sY a' M w trivial).1 acU rv ev o I'
 have LH:i≠17:=fun e=>PV<|e▸o9;have OT:i≠12:=fun e=>PV<|e▸d17 I.cl o9;by_cases TB:i=19
 .subst TB;have vc:=I.cl.step (by rw[B9];exact lX) hd;refine ai5 K k H hP hj I hd fun a' w' hJ=>(sY a' none_ w' trivial).2.2 ((J8 I.cl.n).2<|.inl Z) vc Z hJ
 exact ahB k hj lX LH TB OT I hd fun a' I'=>(sY a' M w trivial).2.1 ((J8 I.cl.n).2<|.inr o9) (fun h=>((J8 I.cl.n).1 h).elim (fun e=>TB e.symm) pD) rv ev o I'
theorem aoD(K:c.Ok0)(k:oP c l)(nC:∀w,l.Kn w->K5 c l x D w)(H:K2 c l x)(hP:c.P=prog)(j:Nat)(g:lZ)(w:lE)(hj:j<l.m)(hK:oF l w)(hS:c.Sh w)(h:Od l j g):c.WO (c.Dx j) g w:=by have h1:=QS (R:=c.A.R) (Sh:=c.Sh) (X:=fun _=>False) (M:=none_) (E:=oc none_ c.A.R) (fun e h M=>.inl<|AG h) (fun M w w1 h=>mg.Dh h) (aqD k h hK) hS;unfold mg.WO;rw[hP];refine h1.bind fun M g w hh=>?_;obtain⟨rfl,h5,UL⟩:=hh;exact auc K k nC H hP hj h5 UL
end
end
end Go.Proofs.YtfjcghhjlmfggaaGreatDoor
