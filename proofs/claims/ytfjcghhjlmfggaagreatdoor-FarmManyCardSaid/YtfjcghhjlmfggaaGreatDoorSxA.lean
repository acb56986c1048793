/- FarmMany: lemmas. -/
import Derived.Test.YtfjcghhjlmfggaaGreatDoorPZ
import Derived.WalkKit
import Derived.Lib.Hide
import Derived.Deep.Draws
import Derived.Deep.RegionLaw
import Derived.Deep.AppendLies
import Derived.Deep.QuietTactic
import Derived.BigQuiet
import Derived.Deep.LoopGhost
import Derived.Deep.Light
import Derived.Maps.AppendAt
import Derived.StillTailTactics
import Derived.OrdersHeld
import Derived.StillTactics
import Derived.OwnWalk
import Derived.Laws.StructEq
import Derived.ChangeKeysEq
set_option linter.defProp false
set_option linter.unusedSectionVars false
set_option linter.unusedVariables false
set_option linter.unusedSimpArgs false
namespace Go.Proofs.YtfjcghhjlmfggaaGreatDoor
def fc:=@Go.World.block_lt_of_cell?
def fY:=@Go.World.cell?_of_block
def jD:=@Go.run_underlying
def kI:=@Go.Calls.mono
section
theorem rV{K:Value->Prop}{v:lH}(h:K v):∃u,Ending.returned v=.returned u/\K u:=⟨v,rfl,h⟩
abbrev NF:Nat->Prop:=fun _=>False
abbrev vT:Array Value:= #[.int .i64 0,.int .i64 0,.int .i64 0,.int .i64 0,.int .i64 0,.int .i64 0,.int .i64 0,.int .i64 0]
abbrev za:Array Value:= #[.int .i64 0,.int .i64 0,.int .i64 0,.int .i64 0,.int .i64 0,.int .i64 0,.int .i64 0]
abbrev KL:Array Value:= #[.int .i64 0,.int .i64 0,.int .i64 0,.int .i64 0,.int .i64 0,.int .i64 0,.int .i64 0,.int .i64 0,.int .i64 0]
abbrev ahZ:Array Value:= #[.int .u8 0,.int .u8 0,.int .u8 0,.int .u8 0,.int .u8 0,.int .u8 0,.int .u8 0,.int .u8 0,.int .u8 0,.int .u8 0,.int .u8 0,.int .u8 0,.int .u8 0,.int .u8 0,.int .u8 0,.int .u8 0,.int .u8 0,.int .u8 0,.int .u8 0,.int .u8 0,.int .u8 0,.int .u8 0,.int .u8 0,.int .u8 0,.int .u8 0,.int .u8 0,.int .u8 0,.int .u8 0,.int .u8 0,.int .u8 0,.int .u8 0,.int .u8 0,.int .u8 0,.int .u8 0,.int .u8 0,.int .u8 0,.int .u8 0,.int .u8 0,.int .u8 0,.int .u8 0,.int .u8 0,.int .u8 0,.int .u8 0,.int .u8 0,.int .u8 0,.int .u8 0,.int .u8 0,.int .u8 0,.int .u8 0,.int .u8 0,.int .u8 0,.int .u8 0,.int .u8 0,.int .u8 0,.int .u8 0,.int .u8 0,.int .u8 0,.int .u8 0,.int .u8 0,.int .u8 0,.int .u8 0,.int .u8 0,.int .u8 0,.int .u8 0,.int .u8 0]
open Go.RowKit
structure mC(S:lF)(w w':lE):Prop where
 os:w'.os=w.os
 tape:w'.tape=w.tape
 output:w'.output=w.output
 size:w.heap.size<=w'.heap.size
 block:∀k,k<w.heap.size->¬S k->w'.heap[k]?=w.heap[k]?
abbrev Pure(w w':World):Prop:=Below w.heap.size w w'
section
variable{S T:lF}{a w w':lE}
theorem q1{α β:Type}{a c:α}{b d:β}(h:@Eq (α×β) (a,b) (c,d)):a=c:=(Prod.mk.inj h).1
theorem q2{α β:Type}{a c:α}{b d:β}(h:@Eq (α×β) (a,b) (c,d)):b=d:=(Prod.mk.inj h).2
theorem mC.refl(S:lF)(w:lE):mC S w w:=⟨rfl,rfl,rfl,ku _,fun _ _ _=>rfl⟩
theorem mC.trans'(h:mC S a w)(k:mC T w w')(hT:∀i,i<a.heap.size->T i->S i):mC S a w':=
 ⟨k.os.trans h.os,k.tape.trans h.tape,k.output.trans h.output,j5 h.size k.size,
  fun i hi hs=>(k.block i (gK hi h.size) (fun ht=>hs (hT i hi ht))).trans (h.block i hi hs)⟩
theorem mC.mono(h:mC S a w)(hT:∀i,i<a.heap.size->S i->T i):mC T a w:=⟨h.os,h.tape,h.output,h.size,fun i hi ht=>h.block i hi<|fun hs=>ht<|hT i hi hs⟩
theorem mC.drew(h:mC S a w):mC S a w.drew:=⟨h.os,h.tape,h.output,h.size,h.block⟩
theorem mC.drewN(h:mC S a w)(n:Nat):mC S a (w.drewN n):=⟨h.os,h.tape,h.output,h.size,h.block⟩
theorem mC.setCell(h:mC S a w){p:Addr}(hp:S p.block\/a.heap.size<=p.block)(u:lH):mC S a (w.setCell p u):=
 ⟨h.os,h.tape,h.output,by simpa[World.setCell]using h.size,fun i hi hs=>(Below.heap_setCell w p u i (by
  rintro rfl;rcases hp with hp|hp
  .exact hs hp
  omega)).trans (h.block i hi hs)⟩
theorem mC.setCells{b:Nat}(hp:S b\/a.heap.size<=b):∀(vs:mb) (o:Nat) {w:lE},mC S a w->mC S a (w.setCells b o vs)
 |[],_,_,h=>h|v::r,o,_,h=>mC.setCells hp r (o+1)<|h.setCell (p:=⟨b,o,none⟩) hp v
theorem mC.grown{row:Option Nat}(h:mC S a w)(hg:w.grownBy w' row)(hr:∀k,row=some k->S k\/a.heap.size<=k):mC S a w':=
 ⟨hg.os.trans h.os,hg.tape.trans h.tape,hg.output.trans h.output,j5 h.size hg.size,fun k hk hs=>
  (hg.block k (gK hk h.size) (fun e=>by rcases hr k e.symm with h1|h1;exact hs h1;omega)).trans (h.block k hk hs)⟩
theorem mC.pure(h:mC S a w)(hg:Pure w w'):mC S a w':=
 ⟨hg.os.trans h.os,hg.tape.trans h.tape,hg.output.trans h.output,j5 h.size hg.size,fun k hk hs=>
  (hg.block k (gK hk h.size)).trans (h.block k hk hs)⟩
theorem mC.toPure(h:mC NF a w):Pure a w:=⟨h.os,h.tape,h.output,h.size,fun k hk=>h.block k hk id⟩
theorem Pure.ni(h:Pure a w)(S:lF):mC S a w:=(mC.refl S a).pure h
theorem Pure.refl(w:lE):Pure w w:=Below.refl _ _
theorem Pure.trans(h:Pure a w)(k:Pure w w'):Pure a w':=((mC.refl NF a).pure h |>.pure k).toPure
theorem Pure.drew(h:Pure a w):Pure a w.drew:=Below.drew h
theorem Pure.drewN(h:Pure a w)(n:Nat):Pure a (w.drewN n):=⟨h.os,h.tape,h.output,h.size,h.block⟩
theorem Pure.alloc(h:Pure a w)(o:Obj):Pure a (w.alloc o):=Below.alloc h h.size o
theorem Pure.grown{row:Option Nat}(h:Pure a w)(hg:w.grownBy w' row)(hr:∀k,row=some k->a.heap.size<=k):Pure a w':=Below.grown h hg h.size hr
end
def mV(w:lE)(g:Nat)(t:lT)(cs:lW):Prop:=w.heap[g]?=some (.cells cs t (0,0))
section
variable{w w':lE}{g:Nat}{t:lT}{cs:lW}{S:lF}
theorem mV.lt(h:mV w g t cs):g<w.heap.size:=by
 rcases j6 g w.heap.size with lX|oh
 .exact lX
 unfold mV at h;rw[fg oh]at h;cases h
theorem mV.cell(h:mV w g t cs)(i:Nat):w.cell? ⟨g,i,none⟩=cs[i]?:=cell_of_row w g i cs t (0,0) h
theorem mV.frozen(h:mV w g t cs)(i:Nat):w.frozen? ⟨g,i,none⟩=false:=by unfold mV at h;simp[World.frozen?,h]
theorem mV.new(w:lE)(t:lT)(cs:lW):mV (w.alloc (.cells cs t)) w.heap.size t cs:=heap_alloc_new w _
theorem mV.drew(h:mV w g t cs):mV w.drew g t cs:=h
theorem mV.drewN(h:mV w g t cs)(n:Nat):mV (w.drewN n) g t cs:=h
theorem mV.YH(h:mV w g t cs)(i:Nat)(u:lH):mV (w.setCell ⟨g,i,none⟩ u) g t (cs.setIfInBounds i u):=by unfold mV at h|-;simp[World.setCell,fw,h]
theorem mV.ni(h:mV w g t cs)(hb:mC S w w')(hg:¬S g):mV w' g t cs:=(hb.block g h.lt hg).trans h
def sd(cs:lW):Nat->List Value->Array Value
 |_,[]=>cs|o,v::r=>sd (cs.setIfInBounds o v) (o+1) r
theorem mV.setCells:∀(vs:mb) (o:Nat) {w:lE} {cs:lW},mV w g t cs->mV (w.setCells g o vs) g t (sd cs o vs)
 |[],_,_,_,h=>h|v::r,o,_,_,h=>mV.setCells r (o+1)<|h.YH o v
theorem uQ:∀(vs:mb) (o:Nat) (cs:lW),(sd cs o vs).size=cs.size
 |[],_,_=>rfl|v::r,o,cs=>by rw[sd,uQ r];simp
theorem ET:∀(vs:mb) (o:Nat) (cs:lW) (i:Nat),o+vs.length<=cs.size->
  (sd cs o vs)[i]?=if o<=i/\i<o+vs.length then vs[i-o]? else cs[i]?
 |[],o,cs,i,_=>by simp[sd];omega
 |v::r,o,cs,i,h=>by
  rw[sd,ET r (o+1) _ i<|by simp at h|-;omega];simp only[ix]at h|-;by_cases h1:o+1<=i/\i<o+1+r.length
  .rw[lq h1,lq aa,show i-o=(i-(o+1))+1 by omega,eT]
  rw[lp h1];by_cases h2:i=o
  .subst h2;rw[lq aa];simp[dZ];omega
  rw[lp aa,dZ];simp[lg h2]
theorem Kv(vs:mb)(o:Nat)(cs:lW)(h:o+vs.length<=cs.size):
  (sd cs o vs).toList=cs.toList.take o++vs++cs.toList.drop (o+vs.length):=by
 apply gS;intro i;rw[fx,ET vs o cs i h];have hl:(cs.toList.take o).length=o:=aF;by_cases h1:i<o
 .have hn:¬(o<=i/\i<o+vs.length):=aa;rw[lp hn,gR,eH (by rw[hl];exact h1),eM h1,fx]
 rw[gR,ey (by rw[hl];omega),hl];by_cases h2:i<o+vs.length
 .have hn:o<=i/\i<o+vs.length:=aa;rw[lq hn,eH aa]
 have hn:¬(o<=i/\i<o+vs.length):=aa;rw[lp hn,ey aa,gB,fx];congr 1;omega
end
def Rd(w:lE)(D:lF)(size:Nat)(v:lH)(n:Nat)(xs:mb):Prop:=
 ∃A c,v=.slice A n c/\n<=c/\c<=9223372036854775807/\xs.length=n*size/\
  (0<n->∃b o,A=some ⟨b,o,none⟩/\D b/\∀j u,xs[j]?=some u->w.cell? ⟨b,o+j,none⟩=some u)
section
variable{w w':lE}{D E S:lF}{size n:Nat}{v:lH}{xs:mb}
theorem Rd.mono(h:Rd w D size v n xs)(hD:∀k,D k->E k):Rd w E size v n xs:=by obtain⟨A,c,hv,h1,h2,h3,h4⟩:=h;refine⟨A,c,hv,h1,h2,h3,fun hn=>?_⟩;have⟨b,o,e,hb,hc⟩:=h4 hn;exact⟨b,o,e,hD _ hb,hc⟩
theorem Rd.ni(h:Rd w D size v n xs)(hc:mC S w w')(hs:∀k,D k->¬S k):Rd w' D size v n xs:=by obtain⟨A,c,hv,h1,h2,h3,h4⟩:=h;refine⟨A,c,hv,h1,h2,h3,fun hn=>?_⟩;have⟨b,o,e,hb,nU⟩:=h4 hn;refine⟨b,o,e,hb,fun j u hu=>?_⟩;have h5:=nU j u hu;exact(fY<|hc.block b (fc w _ h5)<|hs b hb).trans h5
theorem Rd.pure(h:Rd w D size v n xs)(hc:Pure w w'):Rd w' D size v n xs:=h.ni (hc.ni NF) fun _ _ h=>h
theorem Rd.nil(w:lE)(D:lF)(size:Nat):Rd w D size (.slice none 0 0) 0 []:=⟨none,0,rfl,ku _,aa,aq,fun h=>ll h aa⟩
theorem Rd.wP{base:Nat}{e:lT}(h:w.ownsRow base e size v n xs)(hD:∀k,v.ownBlock=some k->base<=k->D k):Rd w D size v n xs:=by
 rcases h.2 with⟨rfl,rfl⟩|⟨g,cap,aBl,rfl,hg,hh,sn,qb,mL,uv⟩
 .have hx:xs=[]:=dX (by simpa using h.1);subst hx;exact Rd.nil w D size
 refine⟨_,_,Z,sn,qb,h.1,fun hn=>⟨g,0,Z,hD g Z hg,fun j u hu=>?_⟩⟩;rw[kg,cell_of_row w g j aBl e (0,0) hh];rw[<-uv,gC]at hu;split at hu
 .simpa using hu
 cases hu
theorem Rd.form(h:Rd w D size v n xs):∃A c,v=.slice A n c/\n<=c/\c<=9223372036854775807:=by obtain⟨A,c,hv,h1,h2,_⟩:=h;exact⟨A,c,hv,h1,h2⟩
theorem Rd.at_(h:Rd w D size v n xs){k:Nat}{u:lH}(hk:xs[k]?=some u)(hn:0<n):∃b o c,v=me b o n c/\D b/\n<=c/\c<=9223372036854775807/\w.cell? ⟨b,o+k,none⟩=some u:=by obtain⟨A,c,rfl,h1,h2,h3,h4⟩:=h;obtain⟨b,o,rfl,hb,hc⟩:=h4 hn;exact⟨b,o,c,Z,hb,h1,h2,hc k u hk⟩
end
def KW(w:lE)(D:lF)(v:lH)(l:List Bool):Prop:=Rd w D 1 v l.length (l.map Value.bool)
def pL(w:lE)(D:lF)(v:lH)(l:mq):Prop:=Rd w D 1 v l.length (l.map (Value.int .i64))
section
variable{w w':lE}{D S E:lF}{v:lH}
theorem pL.pure{l:mq}(h:pL w D v l)(hc:Pure w w'):pL w' D v l:=Rd.pure h hc
theorem pL.get{l:mq}{A:lO}{n c:Nat}(h:pL w D (.slice A n c) l){k:Nat}(hk:k<l.length):∃b o,A=some ⟨b,o,none⟩/\D b/\b<w.heap.size/\w.cell? ⟨b,o+k,none⟩=some (Y l[k]):=by have⟨b,o,c',hv,hD,_,_,hc⟩:=Rd.at_ (k:=k) (u:=Y l[k]) h (by simp[gW,nM hk]) aa;injection hv with ha _ _;exact⟨b,o,ha,hD,fc w _ hc,hc⟩
theorem Rd.get{size:Nat}{xs:mb}{A:lO}{n c k:Nat}{u:lH}(h:Rd w D size (.slice A n c) n xs)(hk:xs[k]?=some u)(hn:0<n):∃b o,A=some ⟨b,o,none⟩/\D b/\b<w.heap.size/\w.cell? ⟨b,o+k,none⟩=some u:=by have⟨b,o,c',hv,hD,_,_,hc⟩:=h.at_ hk hn;injection hv with ha _ _;exact⟨b,o,ha,hD,fc w _ hc,hc⟩
end
theorem axx{n:Int}(h:(Lit.int .i64 n).wf): -9223372036854775808<=n/\n<=9223372036854775807:=by simp[Lit.wf,IntKind.min,IntKind.max,IntKind.signed,IntKind.bits]at h;omega
theorem agE{w:lE}{x:Addr}{u:lH}(h:w.cell? x=some u):x.spot=none:=by
 unfold World.cell? at h;split at h
 .split at h
  .cases h
  rename_i hs;simpa using hs
 cases h
def rep(z:lH)(n:Nat):Array Value:=Array.replicate n z
theorem auF{P:lY}(t e:lT)(i:TypeInfo)(z:lH)(ht:P.underlying t=some (.slice e))(hi:P.info? e=some i)(hz:i.zero=some z)(pF:z.cells= #[z])(hs:i.size=1)
  (n:Nat) (azg:i.bytes*n<=281474976710656) (sS:n<=9223372036854775807) (w:lE):
  (Instr.makeSlice t (lI n)<|lI n).run P w=.ok (me w.heap.size 0 n n) (w.alloc<|.cells (rep z n) e):=by
 have hb:(i.bytes:Int)*(n:Int)<=281474976710656:=by
  have h:((i.bytes*n:Nat):Int)<=281474976710656:=aa
  rwa [iT]at h
 have hr:=run_make (P:=P) w t e i z ht hi hz .i64 .i64 n n aa aa hb aa;have hm:madeCells z.cells ((n:Int).toNat*i.size)=rep z n:=by
  rw[pF,hs,gQ,kv];apply kU
  .simp[madeCells,rep]
  intro j h1 h2;simp[madeCells,rep,Nat.mod_one]
 rw[hm]at hr;simp only[gQ]at hr;exact hr
theorem agf{P:lY}(w:lE)(t e ty:lT)(z:lH)(ht:P.underlying t=some (.slice e))(hv:∀w,(zeroValue e).run P w=.ok z w)(h1:∀u∈z.cells.toList,u.oneCell')(b o n c:Nat)(hn:0<n)
  (hc:∀j,j<n*z.cells.size->(w.cell? ⟨b,o+j,none⟩).isSome) (hf:∀j,j<n*z.cells.size->w.frozen? ⟨b,o+j,none⟩=false):
  (Builtin.clear_ #[t] ty #[me b o n c]).run P w=.ok (.tuple #[]) (w.setCells b o (Builtin.zeroCells z.cells n).toList):=by
 have aBn:(Builtin.zeroCells z.cells n).toList.length=n*z.cells.size:=by simp[Builtin.zeroCells]
 have mo:=run_storeCells_cells (P:=P) b o (Builtin.zeroCells z.cells n).toList 0 w (by rw[aBn];simpa using hc) (by rw[aBn];simpa using hf) (by
  intro u hu;simp only[Builtin.zeroCells,Array.toList_map,jZ]at hu;obtain⟨i,hi,rfl⟩:=hu;have mr:i<n*z.cells.size:=by simpa using hi
  have C6:0<z.cells.size:=by
   rcases gJ z.cells.size with h0|h0
   .rw[h0]at mr;omega
   exact h0
  have lX:=kL i C6;refine h1 _ ?_;rw[getElem!_pos z.cells _ lX]
  simp)
 simp only[j1]at mo;obtain⟨m,rfl⟩:∃m,n=m+1:=⟨n-1,aa⟩
 simp[Builtin.clear_,jD ht,hv,mo]
section
variable{α:Type}{f:α->List Value}{size:Nat}
theorem aby(hf:∀x,(f x).length=size):∀(L:List α) (k:Nat),(L.flatMap f).take (k*size)=(L.take k).flatMap f
 |[],k=>aq|x::L,0=>aq|x::L,k+1=>by rw[gU,gp,gU,List.take_append,hf,kr,kx,show k*size+size-size=k*size by omega,aby hf L k,fq<|by rw[hf];omega]
theorem TS(hf:∀x,(f x).length=size):∀(L:List α) (k:Nat),(L.flatMap f).drop (k*size)=(L.drop k).flatMap f
 |[],k=>aq|x::L,0=>aq|x::L,k+1=>by rw[gU,gi,List.drop_append,hf,kr,kx,show k*size+size-size=k*size by omega,TS hf L k,fp (by rw[hf];omega),je]
theorem O2(hf:∀x,(f x).length=size)(L:List α)(k j:Nat)(x:α)(hk:L[k]?=some x)(hj:j<size):(L.flatMap f)[k*size+j]?=(f x)[j]?:=by
 have h1:=TS hf L k;have lX:=(oS hk)
 rw[eF lX.1,lX.2,gU]at h1;rw[<-gB,h1,eH<|by rw[hf];exact hj]
end
def cutAt(size k:Nat)(xs:mb):List Value:=xs.take (k*size)++xs.drop ((k+1)*size)
theorem alV{α:Type}{f:α->List Value}{size:Nat}(hf:∀x,(f x).length=size)(L:List α)(k:Nat):cutAt size k (L.flatMap f)=(L.eraseIdx k).flatMap f:=by unfold cutAt;rw[aby hf,TS hf,<-gk,dV]
theorem aup{k:IntKind}{a b:Int}(h:a=b):Ending.returned (.int k a)=.returned (.int k b):=by rw[h]
end
section
open Go
section
variable{P:lY}{aBi:nI}{Q:Exit->Act->World->Prop}{md:Region.Mode}{S:oQ}
def RD(P:lY)(o:Oper)(a:Act)(W:lE)(v:lH):Prop:=
 match (execOp a.eval o).run P W with
 |.ok (.value v') w'=>w'=W/\v'=v|.ok .skip w'=>w'=W/\undef=v|.ok (.enter f args) w'=>w'=W/\Calls P f args W (fun e Ds=>e=.returned v/\Ds=W)|_=>False
def Cy(P:lY)(aBi:nI)(S:oQ)(o:Oper)(v:lH)(a:Act):Prop:=(Region.wanted o (yielded aBi a.tmps)=true/\∀W,S W->RD P o a W v)\/(Region.wanted o (yielded aBi a.tmps)=false/\v=undef)
theorem Cy.wpOp{i:Nat}{o:Oper}{v:lH}{a:Act}(hi:aBi[i]?=some o)(hy:Cy P aBi S o v a)
  {K:Act->World->Prop} {w:lE} (hS:S w) (h:K (a.put o.dst v) w):wpOp P aBi Q i K a w:=by
 unfold Go.wpOp;simp only[hi];rcases hy with⟨hw,hv⟩|⟨hw,rfl⟩
 .simp only[hw,lj];refine .inl ?_;have h1:=hv w hS;unfold RD at h1;unfold Oper.wp;generalize (execOp a.eval o).run P w=r at*;cases r with
  |ok n w'=>
   cases n<;>simp only[Oper.upon]at h1|-
   case value u=>rw[h1.1,h1.2];exact h
   case skip=>rw[h1.1,h1.2];exact h
   case enter f args=>rw[h1.1];refine h1.2.mono fun e Ds he=>?_;rw[he.1,he.2];exact h
  |halt x w'=>exact h1.elim
 simp only[hw,gy,kZ];exact h
theorem Cy.of_same{o:Oper}{v:lH}{a a':Act}(hy:Cy P aBi S o v a)(he:execOp a'.eval o=execOp a.eval o)
  (hw:Region.wanted o (yielded aBi a'.tmps)=Region.wanted o (yielded aBi a.tmps)):Cy P aBi S o v a':=by
 unfold Cy RD at*;rw[he,hw];exact hy
theorem axN{j:Nat}{oj:Oper}(hj:aBi[j]?=some oj){K:Act->World->Prop}{a:Act}{w:lE}(h:wpOp P aBi Q j K a w):
  wpOp P aBi Q j (fun a' w'=>(∃u ds,a'=({a with defers:=ds}:Act).put oj.dst u)/\K a' w') a w:=by
 unfold wpOp at*;simp only[hj]at*;split
 .rename_i hw;simp only[hw,lj]at h;rcases h with h|h
  case inr=>exact .inr h
  refine .inl ?_;unfold Oper.wp at*;generalize (execOp a.eval oj).run P w=r at*;cases r with
  |ok n w'=>
   cases n<;>simp only[Oper.upon]at h|-
   case value u=>exact⟨⟨u,a.defers,rfl⟩,h⟩
   case skip=>exact⟨⟨undef,a.defers,rfl⟩,h⟩
   case defer d=>exact⟨⟨undef,d::a.defers,rfl⟩,h⟩
   case enter f args=>
    refine kI h fun e Ds he=>?_;cases e with
    |returned u=>exact⟨⟨u,a.defers,rfl⟩,he⟩|panicked c=>exact he|outgrown=>exact he
   case row row args=>exact Rows.mono h fun u Ds he=>⟨⟨u,a.defers,rfl⟩,he⟩
  |halt x w'=>cases x<;>simp only[Oper.upon]at h|- <;>exact h
 rename_i hw;simp only[hw]at h;exact⟨⟨undef,a.defers,Z⟩,h⟩
def ahN(P:lY)(md:Region.Mode)(aBi:nI)(Q:Exit->Act->World->Prop)(S:oQ):Nat->Array Bool->Act->World->Prop
 |0,aBj,a,w=>Region.ready md aBi aBj=[]/\Q .normal a w|aBo+1,aBj,a,w=>
  (Region.ready md aBi aBj=[]->Q .normal a w)/\
  ∀i∈Region.ready md aBi aBj,wpOp P aBi Q i (fun a' w'=>(S w'\/Region.ready md aBi (aBj.setIfInBounds i true)=[])/\ahN P md aBi Q S aBo (aBj.setIfInBounds i true) a' w') a w
def ahJ(ds:List (Option Tmp))(o:Oper)(tmps:lW):Bool:=match o.guard with
 |none=>true
 |some (j,want)=>(match ((ds[j]?).bind id).bind (tmps[·]?)with
  |some (.bool b)=>some b
  |_=>none)==some want
def Zg(P:lY)(ds:List (Option Tmp))(w:lE)(Q:Act->Prop):List Oper->Act->Prop
 |[],a=>Q a|o::rest,a=>if ahJ ds o a.tmps then o.still P a w (Zg P ds w Q rest)else Zg P ds w Q rest (a.put o.dst undef)
end
attribute [go_sem] ahJ
attribute [irreducible] Zg ahN
end
end Go.Proofs.YtfjcghhjlmfggaaGreatDoor
namespace Go.Proofs.YtfjcghhjlmfggaaGreatDoor
theorem dC{p:Prop}(h:p:=by rw[hr]at h0;cases h0):p:=h
theorem dG{p:Prop}(h:p:=by simp[Op.intCmp]):p:=h
theorem bB{p:Prop}(h:p:=by simp[lQ,execOp,ho,hx,hy,eqGuard,binOp,Op.intArith]):p:=h
theorem aD{p:Prop}(h:p:=by simp[Op.equalIn,run_underlying ht]):p:=h
theorem cI{p:Prop}(h:p:=by simp[lQ,execOp,ho,hx,hy,eqGuard,binOp,Op.intDiv,hb]):p:=h
def jU:=@Go.Addr.add_lit
def ki:=@Go.Sem.run_bind
open Go
variable{p:Addr}{lK:nI}{ts:Array TypeId}{cs' l vs:lW}{R:Ending->World->Prop}{fn:Func}{f:FuncId}{a:Int}{k:IntKind}{ps:List (Nat×Operand)}{la:mq}{mh:List Oper}{xs:mb}{N_ T b base by_ c d_ e i id j n s t:Nat}{y:mN}{A:lO}{P:lY}{u v z:lH}{w:lE}
abbrev lB:=Nat->Value
variable{ρ:lB}
def upd(ρ:lB)(d:Nat)(v:lH):lB:=fun i=>cond (Nat.beq i d) v (ρ i)
def ev(ρ:lB):Operand->Value
 |.tmp t=>ρ t|.const v=>v|.global g=>.pointer<|some ⟨g,0,none⟩|.func f=>.func (.func f) #[] #[]
structure Fit(N:Nat)(ρ:lB)(a:Act):Prop where
 size:a.tmps.size=N
 get:∀i,a.tmps.getD i undef=ρ i
 defers:a.defers=[]
section
variable{N:Nat}{ρ:lB}{a:Act}
theorem Fit.eval(h:Fit N ρ a):a.eval=ev ρ:=by
 funext x;cases x with
 |tmp t=>exact h.get t|const v=>rfl|global g=>rfl|func f=>rfl
theorem Fit.env(h:Fit N ρ a):(fun i=>a.tmps.getD i undef)=ρ:=funext h.get
theorem Fit.put(h:Fit N ρ a){d:Nat}(hd:d<N)(v:lH):Fit N (upd ρ d v) (a.put (some d) v):=by
 refine⟨by simp[Act.put,h.size],fun i=>?_,h.defers⟩;simp only[Act.put,upd];by_cases hi:i=d
 .subst hi;have:Nat.beq i i:=aq;rw[this,ed,dZ];simp[h.size,hd]
 have:Nat.beq i d=false:=by rw[Bool.eq_false_iff];exact fun h=>hi<|fM h
 rw[this,ed,dZ,lp<|lg hi,<-ed];exact h.get i
end
abbrev pg:=Exit->lB->World->Prop
variable{Q_:pg}
variable{N_:Nat}{lK:nI}{Q_:pg}{S_:oQ}{T_:nN}{f_:Nat}{l_:pe}{d_:Nat}
def Qi(N:Nat)(ρ:lB):lB:=fun i=>bif Nat.beq N 43&&Nat.beq i 4 then ρ i else undef
theorem aqw{N d:Nat}{a:Act}(h:(!(Nat.beq N 43)|| !(Nat.beq d 4))=true):Qi N (fun i=>(a.put (some d) v).tmps.getD i undef)=Qi N (fun i=>a.tmps.getD i undef):=by
 funext i;unfold Qi;cases h1:Nat.beq N 43 with
 |false=>rfl|true=>
  cases h2:Nat.beq i 4 with
  |false=>rfl|true=>
   rw[h1]at h;have hd:d≠4:=fun e=>by subst e;cases h
   have hi:i=4:=fM h2;simp only[Bool.and_self,cond_true,Act.put];rw[ed,ed,dZ,lp aa]
def Fi(N:Nat)(Q:pg):Exit->Act->World->Prop
 |.panic c,a,w=>a.defers=[]/\Q (.panic c) (Qi N fun i=>a.tmps.getD i undef) w|.outgrown,_,_=>False|e,a,w=>∃ρ,Fit N ρ a/\Q e ρ w
def vS(K:lB->World->Prop)(Q:pg):pg
 |.normal,ρ,w=>K ρ w|e,ρ,w=>Q e ρ w
def aaq(id:Nat)(Q:pg):pg
 |.normal,ρ,w=>Q .normal ρ w|.exit i,ρ,w=>cond (Nat.beq i id) (Q .normal ρ w)<|Q (.exit i) ρ w|e,ρ,w=>Q e ρ w
def W(P:lY)(N:Nat)(c:Code)(Q:pg)(ρ:lB)(w:lE):Prop:=∀a,Fit N ρ a->c.wp P (Fi N Q) a w
section
variable{P:lY}{N:Nat}{Q:pg}{ρ:lB}{w:lE}
theorem Ws{x y:Code}(h:W P N x (vS (fun ρ w=>W P N y Q ρ w) Q) ρ w):W P N (.seq x y) Q ρ w:=by intro a ha;refine wp_seq<|wp_mono (h a ha) fun e a w q=>?_;cases e<;>first|exact q|(obtain⟨oK,h1,h2⟩:=q;exact h2 a h1)
theorem Wb{c:Code}(h:W P N c (aaq id Q) ρ w):W P N (.block id c) Q ρ w:=by
 intro a ha;refine wp_block<|wp_mono (h a ha) fun e a w q=>?_;cases e with
 |normal=>exact q|exit i=>
  obtain⟨oK,h1,h2⟩:=q;simp only[aaq]at h2;simp only[Exit.inBlock];by_cases hi:i=id
  .rw[lq hi];rw[show Nat.beq i id from by simp[hi]]at h2;exact⟨oK,h1,h2⟩
  rw[lp hi];rw[show Nat.beq i id=false from by rw[Bool.eq_false_iff];exact fun h=>hi<|fM h]at h2;exact⟨oK,h1,h2⟩
 |goto l=>exact q|ret=>exact q|panic c=>exact q|outgrown=>exact q
theorem WE(h:Q (.exit id) ρ w):W P N (.exit id) Q ρ w:=fun _ ha=>wp_exit ⟨ρ,ha,h⟩
theorem WR(h:Q .ret ρ w):W P N .ret Q ρ w:=fun _ ha=>wp_ret ⟨ρ,ha,h⟩
theorem Wk(h:Q .normal ρ w):W P N .skip Q ρ w:=fun _ ha=>wp_skip ⟨ρ,ha,h⟩
theorem Wc{c:mN}{x y:Code}(t:Bool)(hc:ev ρ c=.bool t)(h:W P N (cond t x y) Q ρ w):W P N (.cond c x y) Q ρ w:=fun a ha=>wp_cond (t:=t) (by rw[ha.eval];exact hc) (by cases t<;>exact h a ha)
theorem Lc{c:Code}{Q':pg}(h:W P N c Q ρ w)(hq:∀e ρ w,Q e ρ w->Q' e ρ w):W P N c Q' ρ w:=fun a ha=>wp_mono (h a ha) fun e a w q=>by cases e<;>first|exact q|exact⟨q.1,hq _ _ _ q.2⟩|(obtain⟨oK,h1,h2⟩:=q;exact⟨oK,h1,hq _ _ _ h2⟩)
theorem Wx{x y:Code}(M:lB->World->Prop)(h1:W P N x (vS M Q) ρ w)(h2:∀ρ w,M ρ w->W P N y Q ρ w):W P N (.seq x y) Q ρ w:=Ws (Lc h1 fun e ρ w q=>by cases e<;>first|exact q|exact h2 _ _ q)
theorem zk{c:Code}(I:lB->World->Prop)(μ:lB->World->Nat)(h0:I ρ w)
  (h:∀ρ w,I ρ w->W P N c (vS (fun oK w'=>I oK w'/\μ oK w'<μ ρ w) Q) ρ w):W P N (.loop c) Q ρ w:=by
 intro a ha;refine wp_loop (fun a w=>∃ρ,Fit N ρ a/\I ρ w) (fun a w=>μ (fun i=>a.tmps.getD i undef) w) ⟨ρ,ha,h0⟩ fun a w hI=>?_;obtain⟨ρ,ha,hI⟩:=hI;refine wp_mono (h ρ w hI a ha) fun e a' w' q=>?_;cases e<;>first|exact q|(obtain⟨oK,h1,h2,h3⟩:=q;exact⟨⟨oK,h1,h2⟩,by rw[h1.env,ha.env];exact h3⟩)
def sL(P:lY)(fn:Func)(R:Ending->World->Prop):pg
 |.normal,ρ,w|.ret,ρ,w=>∀a,Fit fn.ntmps ρ a->∃v,(results fn a.tmps).run P w=.ok v w/\R (.returned v) w|_,_,_=>False
def entry(args:lW):lB:=fun i=>args.getD i undef
theorem ajD{c:Code}{args:lW}(hf:P.funcs[f]?=some fn)(hb:fn.body=some c)(hn:fn.ntmps=N)(hN:Nat.ble args.size N)
  (h:W P N c (sL P fn R) (entry args) w):Calls P f args w R:=by
 subst hn;refine calls_of_wp hf hb<|wp_mono (h _ ⟨?_,fun i=>?_,Z⟩) fun e a w q=>?_
 .have:=fN hN;simp;omega
 .unfold entry;rw[ed,Array.getElem?_append,ed];split
  .rfl
  rename_i lX;rw[fg (xs:=args) aa,eL];split<;>rfl
 cases e<;>first|exact q.elim|exact q.2.elim|(obtain⟨ρ,h1,h2⟩:=q;first|exact⟨h1.defers,h2 a h1⟩|exact h2.elim)
theorem Vo{c:Code}{args:lW}(hf:P.funcs[f]?=some fn)(lG:@Eq _ (fn.body,Nat.ble args.size fn.ntmps) (some c,true))(h1_:W P fn.ntmps c (sL P fn R) (entry args) w):Calls P f args w R:=ajD (N:=fn.ntmps) hf (q1 lG) rfl (q2 lG) h1_
theorem aun{e:Exit}(he:e=.normal\/e=.ret)(h:∀a,Fit fn.ntmps ρ a->∃v,(results fn a.tmps).run P w=.ok v w/\R (.returned v) w):sL P fn R e ρ w:=by rcases he with rfl|rfl<;>exact h
theorem tj{e:Exit}(he:e=.normal\/e=.ret)(hr:fn.results= #[])(h:R (.returned (.tuple #[])) w):sL P fn R e ρ w:=by rcases he with rfl|rfl<;>exact fun a ha=>⟨_,by simp[results,hr],h⟩
theorem aul{e:Exit}(t:Tmp)(he:e=.normal\/e=.ret)(hr:fn.results= #[.tmp t])(h:R (.returned (ρ t)) w):sL P fn R e ρ w:=by rcases he with rfl|rfl<;>exact fun a ha=>⟨_,by have h1:=ha.get t;simp only[ed]at h1;simp[results,hr,h1],h⟩
theorem aum{e:Exit}(s t:Tmp)(he:e=.normal\/e=.ret)(hr:fn.results= #[.tmp s,.tmp t])(h:R (.returned (.tuple #[ρ s,ρ t])) w):sL P fn R e ρ w:=by rcases he with rfl|rfl<;>exact fun a ha=>⟨_,by have h1:=ha.get t;have h2:=ha.get s;simp only[ed]at h1 h2;simp[results,hr,h1,h2],h⟩
theorem lV(t:Tmp)(hr:fn.results= #[.tmp t])(h:R (.returned (ρ t)) w):sL P fn R .ret ρ w:=aul t (.inr rfl) hr h
theorem nD(s t:Tmp)(hr:fn.results= #[.tmp s,.tmp t])(h:R (.returned (.tuple #[ρ s,ρ t])) w):sL P fn R .ret ρ w:=aum s t (.inr rfl) hr h
theorem Di{e:Exit}(s t u:Tmp)(he:e=.normal\/e=.ret)(hr:fn.results= #[.tmp s,.tmp t,.tmp u])(h:R (.returned (.tuple #[ρ s,ρ t,ρ u])) w):sL P fn R e ρ w:=by rcases he with rfl|rfl<;>exact fun a ha=>⟨_,by have h1:=ha.get t;have h2:=ha.get s;have h3:=ha.get u;simp only[ed]at h1 h2 h3;simp[results,hr,h1,h2,h3],h⟩
def nH(aBi:nI)(ρ:lB)(o:Oper):Bool:=match o.guard with
 |none=>true|some (j,b)=>match (aBi[j]?).bind (·.dst)with
  |some d=>match ρ d with
   |.bool c=>c==b|_=>false
  |none=>false
theorem Gz{aBi:nI}{o:Oper}{a:Act}(ha:Fit N ρ a):Region.wanted o (yielded aBi a.tmps)=nH aBi ρ o:=by
 unfold Region.wanted nH;cases o.guard with
 |none=>rfl|some g=>
  obtain⟨j,b⟩:=g;simp only[yielded];cases hd:(aBi[j]?).bind (·.dst)with
  |none=>simp|some d=>
   have h1:=ha.get d;rw[ed]at h1;simp only[iI];cases h2:a.tmps[d]? with
   |none=>
    rw[h2]at h1;simp only[iJ]at h1;rw[<-h1]
    rfl
   |some v=>rw[h2]at h1;simp only[iK]at h1;rw[<-h1];cases v<;>rfl
def WL(P:lY)(N:Nat)(aBi:nI)(Q:pg)(l:List Oper)(ρ:lB)(w:lE):Prop:=∀a,Fit N ρ a->wpList P aBi (Fi N Q) l a w
theorem Wr{l:List Oper}(h:WL P N l.toArray Q l ρ w):W P N (.region id l.toArray false) Q ρ w:=fun a ha=>wp_region_lit (h a ha)
theorem Wq{l:List Oper}{y:Code}(h:WL P N l.toArray (vS (fun ρ w=>W P N y Q ρ w) Q) l ρ w):W P N (.seq (.region id l.toArray false) y) Q ρ w:=Ws (Wr h)
def lQ(P:lY)(ρ:lB)(o:Oper)(w:lE)(v:lH):Prop:=(execOp (ev ρ) o).run P w=.ok (.value v) w
section
variable{aBi:nI}{o:Oper}{rest:List Oper}{v:lH}{d:Nat}{w':lE}
theorem Wn(h:Q .normal ρ w):WL P N aBi Q [] ρ w:=fun _ ha=>⟨ρ,ha,h⟩
theorem K9{a:Act}(hd:o.dst=some d)(hN:Nat.blt d N)(ha:Fit N ρ a)(v:lH):Fit N (upd ρ d v) (a.put o.dst v):=by rw[hd];exact ha.put (fN hN) v
theorem sO{p:Prop}(h:p:=by first|exact hZ _ hI|exact hZ _ hI.oU|exact hZ _ hI.d0|exact hZ _ hI.d1|exact hZ _ hI.d2|exact hZ _ hI.d3|exact hZ _ hI.d0.d0):p:=h
theorem q3{α β γ δ:Type}{a a':α}{b b':β}{c c':γ}{d d':δ}(h:@Eq (α×β×γ×δ) (a,b,c,d) (a',b',c',d')):d=d':=q2 (q2 (q2 h))
abbrev E0(aBi:Array Oper)(ρ:lB)(o:Oper)(d N:Nat){β:Type}(a b:β):Prop:=@Eq _ (nH aBi ρ o,o.dst,Nat.blt d N,a) (true,some d,true,b)
abbrev E1(aBi:Array Oper)(ρ:lB)(o:Oper)(i d:Nat){β:Type}(a b:β):Prop:=@Eq _ (aBi[i]?,o.dst,nH aBi ρ o,a) (some o,some d,true,b)
theorem DM(hw:nH aBi ρ o)(hd:o.dst=some d)(hN:Nat.blt d N)(hr:lQ P ρ o w v)(h:WL P N aBi Q rest (upd ρ d v) w):WL P N aBi Q (o::rest) ρ w:=by intro a ha;unfold wpList;rw[Gz ha,lq hw];refine .inl ?_;unfold Oper.wp;rw[ha.eval,show(execOp (ev ρ) o).run P w=_ from hr];exact h _<|K9 hd hN ha v
theorem oG{β:Type}{a b:β}(lG:E0 aBi ρ o d N a b)(hr:lQ P ρ o w v)(h:WL P N aBi Q rest (upd ρ d v) w):WL P N aBi Q (o::rest) ρ w:=DM (q1 lG) (q1 (q2 lG)) (q1 (q2 (q2 lG))) hr h
theorem aiJ(hw:nH aBi ρ o=false)(hd:o.dst=some d)(hN:Nat.blt d N)(h:WL P N aBi Q rest (upd ρ d undef) w):WL P N aBi Q (o::rest) ρ w:=by intro a ha;unfold wpList;rw[Gz ha,lp<|by rw[hw];simp];exact h _<|K9 hd hN ha _
theorem V2(lG:@Eq _ (nH aBi ρ o,o.dst,Nat.blt d N) (false,some d,true))(h1_:WL P N aBi Q rest (upd ρ d undef) w):WL P N aBi Q (o::rest) ρ w:=aiJ (q1 lG) (q1 (q2 lG)) (q2 (q2 lG)) h1_
theorem Wv(lG:@Eq _ (nH aBi ρ o,o.dst,Nat.blt d N) (true,some d,true))(hr:lQ P ρ o w v)(h:WL P N aBi Q rest (upd ρ d v) w):WL P N aBi Q (o::rest) ρ w:=DM (q1 lG) (q1 (q2 lG)) (q2 (q2 lG)) hr h
theorem zi(hw:nH aBi ρ o)(hd:o.dst=some d)(hN:Nat.blt d N)(hr:(execOp (ev ρ) o).run P w=.ok (.value v) w')(h:WL P N aBi Q rest (upd ρ d v) w'):WL P N aBi Q (o::rest) ρ w:=by intro a ha;unfold wpList;rw[Gz ha,lq hw];refine .inl ?_;unfold Oper.wp;rw[ha.eval,hr];exact h _<|K9 hd hN ha v
theorem aiC(hw:nH aBi ρ o)(hd:o.dst=none)(hr:(execOp (ev ρ) o).run P w=.ok (.value v) w')(h:WL P N aBi Q rest ρ w'):WL P N aBi Q (o::rest) ρ w:=by intro a ha;unfold wpList;rw[Gz ha,lq hw];refine .inl ?_;unfold Oper.wp;rw[ha.eval,hr];simp only[Oper.upon,hd,Act.put];exact h _ ha
theorem IQ(hw:nH aBi ρ o)(hd:o.dst=none)(hr:(execOp (ev ρ) o).run P w=.ok .skip w')(h:WL P N aBi Q rest ρ w'):WL P N aBi Q (o::rest) ρ w:=by intro a ha;unfold wpList;rw[Gz ha,lq hw];refine .inl ?_;unfold Oper.wp;rw[ha.eval,hr];simp only[Oper.upon,hd,Act.put];exact h _ ha
theorem z8{args:lW}(hw:nH aBi ρ o)(hd:o.dst=some d)(hN:Nat.blt d N)(hr:(execOp (ev ρ) o).run P w=.ok (.enter f args) w)
  (h:Calls P f args w fun e w'=>∃v,e=.returned v/\WL P N aBi Q rest (upd ρ d v) w'):WL P N aBi Q (o::rest) ρ w:=by
 intro a ha;unfold wpList;rw[Gz ha,lq hw];refine .inl ?_;unfold Oper.wp;rw[ha.eval,hr];refine kI h fun e w' he=>?_;obtain⟨v,rfl,hv⟩:=he;exact hv _<|K9 hd hN ha v
end
theorem aiO{c:Code}(h:∀a,Fit N ρ a->c.wp P (Fi N Q) a w):W P N c Q ρ w:=h
theorem Oq{aBi:nI}{l:List Oper}(h:WL P N aBi Q l ρ w):∀a,Fit N ρ a->wpList P aBi (Fi N Q) l a w:=h
end
attribute [irreducible] W WL sL
open Go
section
variable{P:lY}{aBi:nI}{Q:Exit->Act->World->Prop}{md:Region.Mode}{S:oQ}{T:nN}
def KJ(P:lY)(md:Region.Mode)(aBi:nI)(Q:Exit->Act->World->Prop)(S:oQ)(T:nN):Nat->Array Bool->Act->World->Prop
 |0,aBj,a,w=>Region.ready md aBi aBj=[]/\Q .normal a w|aBo+1,aBj,a,w=>
  (Region.ready md aBi aBj=[]->Q .normal a w)/\
  ∀i∈Region.ready md aBi aBj,wpOp P aBi Q i (fun a' w'=>if T.contains i then wpAny P md aBi Q aBo (aBj.setIfInBounds i true) a' w' else S w'/\KJ P md aBi Q S T aBo (aBj.setIfInBounds i true) a' w') a w
theorem ahP:∀(aBo:Nat) (aBj:pe) (a:Act) (w:lE),KJ P md aBi Q S T aBo aBj a w->wpAny P md aBi Q aBo aBj a w
 |0,_,_,_,h=>h
 |aBo+1,_,_,_,h=>⟨h.1,fun i hi=>wpOp_mono (fun a' w' h'=>by
   split at h'
   .exact h'
   exact ahP aBo _ a' w' h'.2) (h.2 i hi)⟩
def IZ(md:Region.Mode)(aBi:nI)(aBj:pe):Bool:=(List.range aBi.size).all fun k=>
 !aBj.getD k false||match aBi[k]? with
 |some o=>o.after.all fun e=> !Region.binds md e||aBj.getD e.on false
 |none=>true
def Km(md:Region.Mode)(aBi:nI):Nat->Nat->Nat->Bool
 |0,_,_=>false|n+1,t,i=>match aBi[t]? with
  |some o=>o.after.any fun e=>Region.binds md e&&(e.on==i||Km md aBi n e.on i)
  |none=>false
theorem aaI{aBj:pe}(hc:IZ md aBi aBj){k:Nat}{o:Oper}(ho:aBi[k]?=some o)(hk:aBj.getD k false):
  ∀e∈o.after,Region.binds md e->aBj.getD e.on false:=by
 intro e he hb;have lX:k<aBi.size:=(eg.1 ho).1;have h1:=iq.1 hc k<|jy.2 lX;simp only[hk,ho,jH,jG]at h1;have h2:=dR.1 h1 e he;simpa[hb]using h2
theorem afP{aBj:pe}(hc:IZ md aBi aBj):∀(n t i:Nat),Km md aBi n t i->
  (∀o,aBi[t]?=some o->∀e∈o.after,Region.binds md e->aBj.getD e.on false)->aBj.getD i false
 |0,_,_,h,_=>by simp[Km]at h
 |n+1,t,i,h,ht=>by
  unfold Km at h;cases ho:aBi[t]? with
  |none=>simp[ho]at h|some o=>
   simp only[ho]at h;have⟨e,he,hb⟩:=Array.any_eq_true'.1 h;simp only[ij,iP,kM]at hb;have h1:=ht o ho e he hb.1;rcases hb.2 with h2|h2
   .rw[<-h2];exact h1
   exact afP hc n e.on i h2<|fun o' MC=>aaI hc MC h1
theorem Uv{aBj:pe}{k:Nat}(h:aBj.getD k true=false):aBj.getD k false=false/\k<aBj.size:=by
 have lX:k<aBj.size:=by
  rcases j6 k aBj.size with h'|h'
  .exact h'
  simp[fg h']at h
 refine⟨?_,lX⟩;simpa[lX]using h
theorem ajT{aBj:pe}(hc:IZ md aBi aBj)(hj:j∈Region.ready md aBi aBj):IZ md aBi (aBj.setIfInBounds j true):=by
 have⟨PK,oj,Hz,nG⟩:=mem_ready.1 hj;have hjs:=(Uv PK).2;have up:∀m,aBj.getD m false->(aBj.setIfInBounds j true).getD m false:=by
  intro m hm;by_cases hjm:j=m
  .subst hjm;simp[hjs]
  rw[getD_set_ne false hjm];exact hm
 refine iq.2 fun k hk=>?_;cases ho:aBi[k]? with
 |none=>simp|some o=>
  simp only[iP,gP];by_cases qE:j=k
  .subst qE;rw[Hz]at ho;injection ho with ho;subst ho;refine .inr<|dR.2 fun e he=>?_;cases hb:Region.binds md e with
   |false=>rfl|true=>simp only[jH,jG];exact up _ (by simpa using nG e he hb)
  rw[getD_set_ne false qE];cases hl:aBj.getD k false with
  |false=>exact .inl rfl|true=>
   refine .inr<|dR.2 fun e he=>?_;cases hb:Region.binds md e with
   |false=>rfl|true=>simp only[jH,jG];exact up _<|aaI hc ho hl e he hb
theorem axM{oi:Oper}(hi:aBi[i]?=some oi)(WK:∀(j:Nat) (o:Oper) cs b,aBi[j]?=some o->o.op≠.select cs b)
  (hQ:∀c a w,Q (.panic c) (a.put oi.dst v) w->Q (.panic c) a w) (hT:∀t∈T,Km md aBi aBi.size t i) (hiT:T.contains i=false):
  ∀(aBo:Nat) (aBj:pe) (a:Act) (w:lE),
   (∀j oj,aBi[j]?=some oj->j≠i->aBj.getD j true=false->(∀e∈oj.after,Region.binds md e->e.on≠i)->oi.apart aBi oj)->
   IZ md aBi aBj->i∈Region.ready md aBi aBj->Cy P aBi S oi v a->S w->
   KJ P md aBi Q S T aBo (aBj.setIfInBounds i true) (a.put oi.dst v) w->KJ P md aBi Q S T (aBo+1) aBj a w:=by
 intro aBo
 induction aBo with
 |zero=>
  intro aBj a w _ _ hr hy hS H;refine⟨fun h=>(by rw[h]at hr;cases hr),fun j hj=>?_⟩;by_cases pT:j=i
  .subst pT;exact hy.wpOp hi hS (by rw[hiT];exact⟨hS,H⟩)
  have:=ready_mono hj pT;rw[H.1]at this;cases this
 |succ aBo ih=>
  intro aBj a w acz oz hr hy hS H;have acI:=(mem_ready.1 hr).1;refine⟨fun h=>(by rw[h]at hr;cases hr),fun j hj=>?_⟩;by_cases pT:j=i
  .subst pT;exact hy.wpOp hi hS (by rw[hiT];exact⟨hS,H⟩)
  have h1:=H.2 j<|ready_mono hj pT;have⟨PK,oj,Hz,nG⟩:=mem_ready.1 hj;have VN:T.contains j=false:=by
   cases hc:T.contains j with
   |false=>rfl|true=>have h2:=afP oz aBi.size j i (hT j<|by simpa using hc) (fun o ho=>by rw[Hz]at ho;injection ho with ho;subst ho;exact fun e he hb=>by simpa using nG e he hb);rw[(Uv acI).1]at h2;cases h2
  rw[VN]at h1|-;have aoZ:∀e∈oj.after,Region.binds md e->e.on≠i:=fun e he Jg heq=>by have h1:=nG e he Jg;rw[heq]at h1;have h0:=Uv acI;simp[h0.2]at h0 h1;rw[h0]at h1;cases h1
  have CJ:=acz j oj Hz pT PK aoZ;have hyF:YieldsIf P aBi (fun _=>False) oi v a:=hy.imp (fun h=>⟨h.1,fun _ h=>h.elim⟩) id;have h2:=axN Hz<|wpOp_putIf Hz CJ (fun cs b=>WK i oi cs b hi) (fun cs b=>WK j oj cs b Hz) hQ hyF h1;have aoh:∀k ok,aBi[k]?=some ok->k≠i->(aBj.setIfInBounds j true).getD k true=false->
    (∀e∈ok.after,Region.binds md e->e.on≠i)->oi.apart aBi ok:=fun k ok hk Ef HM mI=>by
   refine acz k ok hk Ef ?_ mI;by_cases qE:j=k
   .subst qE;exact PK
   rw[getD_set_ne true qE]at HM;exact HM
  refine wpOp_mono (fun a' w' h3=>?_) h2;obtain⟨⟨u,ds,Ea⟩,h3⟩:=h3;simp only[gy,kZ]at h3|-;have W9:Cy P aBi S oi v a':=by have⟨_,_,LW⟩:=Oper.apart_spec CJ;rw[Ea];have hyd:Cy P aBi S oi v {a with defers:=ds}:=hy.of_same rfl rfl;exact hyd.of_same (execOp_put oi (fun cs b=>WK i oi cs b hi) _ oj.dst u LW)<|wanted_put oi _ oj.dst u LW
  replace h3:=h3.2;refine⟨h3.1,ih (aBj.setIfInBounds j true) a' w' aoh (ajT oz hj) (ready_mono hr<|lg pT) W9 h3.1 ?_⟩;rw[Array.setIfInBounds_comm _ _ pT];exact h3.2
end
def WT(P:lY)(N:Nat)(aBi:nI)(Q:pg)(S:oQ)(T:nN)(aBo:Nat)(aBj:pe)(ρ:lB)(w:lE):Prop:=∀a,Fit N ρ a->KJ P .any aBi (Fi N Q) S T aBo aBj a w
def WA(P:lY)(N:Nat)(aBi:nI)(Q:pg)(aBo:Nat)(aBj:pe)(ρ:lB)(w:lE):Prop:=∀a,Fit N ρ a->wpAny P .any aBi (Fi N Q) aBo aBj a w
def qZ(aBi:nI)(T:nN)(N:Nat)(aBj:pe)(i d:Nat):Bool:=(Region.ready .any aBi aBj).contains i&&Region.free .any aBi aBj i&&IZ .any aBi aBj&&Region.noSelect aBi&&Nat.blt d N&& !T.contains i&&T.all (fun t=>Km .any aBi aBi.size t i)&&(!(Nat.beq N 43)|| !(Nat.beq d 4))
section
variable{P:lY}{N:Nat}{aBi:nI}{Q:pg}{S:oQ}{T:nN}{aBo:Nat}{aBj:pe}{ρ:lB}{w:lE}{o:Oper}{v:lH}{d:Nat}
theorem Wd(hm:P.follows .mixedOrders)(h:WA P N aBi Q aBi.size (Array.replicate aBi.size false) ρ w.drew):W P N (.region id aBi true) Q ρ w:=aiO fun a ha=>wp_region_any hm<|h a ha
theorem ZS(S:oQ)(T:nN)(h:WT P N aBi Q S T aBo aBj ρ w):WA P N aBi Q aBo aBj ρ w:=fun a ha=>ahP _ _ _ _ (h a ha)
theorem ahh(ho:aBi[i]?=some o)(hd:o.dst=some d)(hB:qZ aBi T N aBj i d)(hS:S w)
  (hy:∀a,Fit N ρ a->Cy P aBi S o v a) (h:WT P N aBi Q S T aBo (aBj.setIfInBounds i true) (upd ρ d v) w):WT P N aBi Q S T (aBo+1) aBj ρ w:=by
 intro a ha;unfold qZ at hB;have⟨hB,h8⟩:=(ij _ _).mp hB;simp only[ij,gP,iq]at hB;obtain⟨⟨⟨⟨⟨⟨h1,h2⟩,h3⟩,h4⟩,h5⟩,h6⟩,h7⟩:=hB;exact axM ho (Region.noSelect_spec h4) (fun c a w h=>⟨by have h1:=h.1;rw[hd]at h1;exact h1,by have h2:=h.2;rw[hd,aqw h8]at h2;exact h2⟩) h7 h6 _ aBj a w (Region.free_spec ho h2) h3 (by simpa using h1) (hy a ha) hS<|h _<|K9 hd h5 ha v
theorem Sj(i:Nat)(ho:aBi[i]?=some o)(hd:o.dst=some d)(hB:qZ aBi T N aBj i d)(hS:S w)(hw:nH aBi ρ o)
  (hr:∀W,S W->lQ P ρ o W v) (h:WT P N aBi Q S T aBo (aBj.setIfInBounds i true) (upd ρ d v) w):WT P N aBi Q S T (aBo+1) aBj ρ w:=
 ahh ho hd hB hS (fun a ha=>.inl ⟨by rw[Gz ha];exact hw,fun W hW=>by
  unfold RD;rw[ha.eval,show(execOp (ev ρ) o).run P W=_ from hr W hW]
  exact⟨Z,Z⟩⟩) h
theorem ud{β:Type}{a b:β}(i:Nat)(lG:E1 aBi ρ o i d a b)(hB:qZ aBi T N aBj i d)(hS:S w)(hr:∀W,S W->lQ P ρ o W v)(h:WT P N aBi Q S T aBo (aBj.setIfInBounds i true) (upd ρ d v) w):WT P N aBi Q S T (aBo+1) aBj ρ w:=Sj i (q1 lG) (q1 (q2 lG)) hB hS (q1 (q2 (q2 lG))) hr h
theorem aiM(i:Nat)(ho:aBi[i]?=some o)(hd:o.dst=some d)(hB:qZ aBi T N aBj i d)(hS:S w)(hw:nH aBi ρ o=false)
  (h:WT P N aBi Q S T aBo (aBj.setIfInBounds i true) (upd ρ d undef) w):WT P N aBi Q S T (aBo+1) aBj ρ w:=
 ahh ho hd hB hS (fun a ha=>.inr ⟨by rw[Gz ha];exact hw,rfl⟩) h
theorem Vl(i:Nat)(lG:@Eq _ (aBi[i]?,o.dst) (some o,some d))(po:nH aBi ρ o=false)(xR:WT P N aBi Q S T aBo (aBj.setIfInBounds i true) (upd ρ d undef) w)(h1_:qZ aBi T N aBj i d=true:=by kernel_rfl)(hS:S w:=by exact sO):WT P N aBi Q S T (aBo+1) aBj ρ w:=aiM i (q1 lG) (q2 lG) h1_ hS po xR
theorem Wt(i:Nat)(lG:@Eq _ (aBi[i]?,o.dst,nH aBi ρ o) (some o,some d,true))(hr:∀W,S W->lQ P ρ o W v)(h:WT P N aBi Q S T aBo (aBj.setIfInBounds i true) (upd ρ d v) w)(hB:qZ aBi T N aBj i d=true:=by kernel_rfl)(hS:S w:=by exact sO):WT P N aBi Q S T (aBo+1) aBj ρ w:=Sj i (q1 lG) (q1 (q2 lG)) hB hS (q2 (q2 lG)) hr h
theorem RU{K:Act->World->Prop}{L:lB->World->Prop}{k:Nat}{a:Act}(ho:aBi[k]?=some o)(h:wpList P aBi (Fi N (vS L Q)) [o] a w)
  (hK:∀oK a' w',Fit N oK a'->L oK w'->K a' w'):wpOp P aBi (Fi N Q) k K a w:=by
 unfold wpOp;simp only[ho];unfold wpList at h;split
 .rename_i hw;simp only[hw,lj]at h;rcases h with h|⟨h1,h2⟩
  .refine .inl ?_;unfold Oper.wp at*;generalize (execOp a.eval o).run P w=r at*;cases r with
   |ok n w'=>
    cases n<;>simp only[Oper.upon,wpList]at h|-
    case value u=>obtain⟨oK,h1,h2⟩:=h;exact hK _ _ _ h1 h2
    case skip=>obtain⟨oK,h1,h2⟩:=h;exact hK _ _ _ h1 h2
    case defer d=>obtain⟨oK,h1,h2⟩:=h;exact hK _ _ _ h1 h2
    case enter f args=>
     refine kI h fun e Ds he=>?_;cases e with
     |returned u=>obtain⟨oK,h1,h2⟩:=he;exact hK _ _ _ h1 h2
     |panicked c=>exact he|outgrown=>obtain⟨a,w,h⟩:=he;exact h.elim
    case row row args=>exact Rows.mono h fun u Ds he=>by obtain⟨oK,h1,h2⟩:=he;exact hK _ _ _ h1 h2
   |halt x w'=>cases x<;>simp only[Oper.upon]at h|- <;>exact h
  have⟨a,w,h⟩:=h2;exact h.elim
 rename_i hw;simp only[hw]at h;have⟨oK,h1,h2⟩:=h;exact hK _ _ _ h1 h2
theorem aiL(k:Nat)(ho:aBi[k]?=some o)(hr:Region.ready .any aBi aBj=[k])(hT:T.contains k=false)
  (h:WL P N aBi (vS (fun oK w'=>S w'/\WT P N aBi Q S T aBo (aBj.setIfInBounds k true) oK w') Q) [o] ρ w):WT P N aBi Q S T (aBo+1) aBj ρ w:=by
 intro a ha;refine⟨fun h0=>dC,fun i hi=>?_⟩;rw[hr]at hi;obtain rfl:i=k:=by simpa using hi
 rw[hT];exact RU ho (Oq h a ha) fun oK a' w' h1 h2=>⟨h2.1,h2.2 _ h1⟩
theorem Vr(k:Nat)(lG:@Eq _ (aBi[k]?,T.contains k) (some o,false))(po:WL P N aBi (vS (fun oK w'=>S w'/\WT P N aBi Q S T aBo (aBj.setIfInBounds k true) oK w') Q) [o] ρ w)(h1_:Region.ready .any aBi aBj=[k]:=by kernel_rfl):WT P N aBi Q S T (aBo+1) aBj ρ w:=aiL k (q1 lG) h1_ (q2 lG) po
theorem aiw(k:Nat)(ho:aBi[k]?=some o)(hr:Region.ready .any aBi aBj=[k])
  (h:WL P N aBi (vS (fun oK w'=>WA P N aBi Q aBo (aBj.setIfInBounds k true) oK w') Q) [o] ρ w):WA P N aBi Q (aBo+1) aBj ρ w:=by
 intro a ha;refine⟨fun h0=>dC,fun i hi=>?_⟩;rw[hr]at hi;obtain rfl:i=k:=by simpa using hi
 exact RU ho (Oq h a ha) fun oK a' w' h1 h2=>h2 _ h1
theorem Tc(k:Nat)(lG:aBi[k]?=some o)(po:WL P N aBi (vS (fun oK w'=>WA P N aBi Q aBo (aBj.setIfInBounds k true) oK w') Q) [o] ρ w)(h1_:Region.ready .any aBi aBj=[k]:=by kernel_rfl):WA P N aBi Q (aBo+1) aBj ρ w:=aiw k lG h1_ po
theorem DN(j k:Nat){oj ok:Oper}(hj:aBi[j]?=some oj)(hk:aBi[k]?=some ok)(hr:Region.ready .any aBi aBj=[j,k])(VN:T.contains j=false)(hkT:T.contains k=false)
  (h1:WL P N aBi (vS (fun oK w'=>S w'/\WT P N aBi Q S T aBo (aBj.setIfInBounds j true) oK w') Q) [oj] ρ w)
  (h2:WL P N aBi (vS (fun oK w'=>S w'/\WT P N aBi Q S T aBo (aBj.setIfInBounds k true) oK w') Q) [ok] ρ w):WT P N aBi Q S T (aBo+1) aBj ρ w:=by
 intro a ha;refine⟨fun h0=>dC,fun i hi=>?_⟩;rw[hr]at hi;rcases jM.1 hi with rfl|hi
 .rw[VN];exact RU hj (Oq h1 a ha) fun oK a' w' h1 h2=>⟨h2.1,h2.2 _ h1⟩
 obtain rfl:i=k:=by simpa using hi
 rw[hkT];exact RU hk (Oq h2 a ha) fun oK a' w' h1 h2=>⟨h2.1,h2.2 _ h1⟩
theorem qm(hr:Region.ready .any aBi aBj=[])(h:Q .normal ρ w):WA P N aBi Q aBo aBj ρ w:=by
 intro a ha;cases aBo with
 |zero=>exact⟨hr,ρ,ha,h⟩|succ n=>exact⟨fun _=>⟨ρ,ha,h⟩,by rw[hr];simp⟩
theorem We(hr:Region.ready .any aBi aBj=[])(h:Q .normal ρ w):WT P N aBi Q S T aBo aBj ρ w:=by
 intro a ha;cases aBo with
 |zero=>exact⟨hr,ρ,ha,h⟩|succ n=>exact⟨fun _=>⟨ρ,ha,h⟩,by rw[hr];simp⟩
theorem qn(hr:(Region.ready .any aBi aBj).all (fun i=>T.contains i))(h:WA P N aBi Q aBo aBj ρ w):WT P N aBi Q S T aBo aBj ρ w:=by
 intro a ha;cases aBo with
 |zero=>exact h a ha|succ n=>refine⟨(h a ha).1,fun i hi=>?_⟩;have:=iq.1 hr i hi;rw[this];exact(h a ha).2 i hi
theorem ahO{Q:Exit->Act->World->Prop}:∀(aBo:Nat) (aBj:pe) (a:Act) (w:lE),wpAny P .any aBi Q aBo aBj a w->KJ P .any aBi Q (fun _=>True) [] aBo aBj a w
 |0,_,_,_,h=>h
 |aBo+1,_,_,_,h=>⟨h.1,fun i hi=>wpOp_mono (fun a' w' h'=>by
   simp only[List.contains_nil,gy,kZ]
   exact⟨trivial,ahO aBo _ a' w' h'⟩) (h.2 i hi)⟩
theorem aiN(h:WA P N aBi Q aBo aBj ρ w):WT P N aBi Q (fun _=>True) [] aBo aBj ρ w:=fun a ha=>ahO _ _ _ _ (h a ha)
end
attribute [irreducible] WT WA
open Go
structure lN where
 D:lF
 Φ:oQ
variable{e' e0 e1 e2 e3 e4:lN}
def lN.ok(e:lN)(w:lE):Prop:=e.Φ w/\(∀k,e.D k->k<w.heap.size)/\∀(S:lF) (w1 w2:lE),mC S w1 w2->(∀k,e.D k->¬S k)->e.Φ w1->e.Φ w2
variable{e' e0 e1 e2 e3 e4:lN}
def B(g:Nat)(t:lT)(cs:lW):lN:=⟨fun k=>k=g,fun w=>mV w g t cs⟩
theorem B.ok{g:Nat}{t:lT}{cs:lW}(h:mV w g t cs):(B g t cs).ok w:=⟨h,fun k hk=>by have:k=g:=hk;rw[this];exact h.lt,fun S w1 w2 hc hS h1=>mV.ni h1 hc<|hS g rfl⟩
theorem lN.ok.ni{e:lN}{w':lE}{S:lF}(h:e.ok w)(hc:mC S w w')(hS:∀k,e.D k->¬S k):e.ok w':=⟨h.2.2 S w w' hc hS h.1,fun k hk=>gK (h.2.1 k hk) hc.size,h.2.2⟩
structure ly(S:lF)(w0 w:lE)(H:List lN):Prop where
 ni:mC S w0 w
 ok:∀e∈H,e.ok w
 own:∀e∈H,∀k,e.D k->S k\/w0.heap.size<=k
 apart:H.Pairwise fun e e'=>∀k,e.D k->¬e'.D k
section
variable{S:lF}{w0 w w':lE}{H:List lN}{g:Nat}{t:lT}{cs:lW}
theorem ly.start(S:lF)(w:lE):ly S w w []:=⟨mC.refl S w,aq,aq,.nil⟩
theorem ly.pure(h:ly S w0 w H)(hp:Pure w w'):ly S w0 w' H:=⟨h.ni.pure hp,fun e he=>(h.ok e he).ni (hp.ni NF)<|fun _ _ h=>h,h.own,h.apart⟩
theorem ly.drew(h:ly S w0 w H):ly S w0 w.drew H:=h.pure (Pure.refl w).drew
theorem ly.fresh{e:lN}(h:ly S w0 w H)(hp:Pure w w')(he:e.ok w')(hD:∀k,e.D k->w.heap.size<=k):ly S w0 w' (e::H):=by
 have h':=h.pure hp;refine⟨h'.ni,fun x hx=>?_,fun x hx k hk=>?_,?_⟩
 .rcases jM.1 hx with rfl|hx
  .exact he
  exact h'.ok x hx
 .rcases jM.1 hx with rfl|hx
  .exact .inr<|j5 h.ni.size<|hD k hk
  exact h'.own x hx k hk
 refine gG.2 ⟨fun x hx k hk Ep=>?_,h'.apart⟩;have h1:=(h.ok x hx).2.1 k Ep;have h2:=hD k hk;omega
theorem ly.box(h:ly S w0 w H)(t:lT)(cs:lW):ly S w0 (w.alloc (.cells cs t)) (B w.heap.size t cs::H):=h.fresh ((Pure.refl w).alloc _) (B.ok<|mV.new w t cs) (fun k hk=>by have:k=w.heap.size:=hk;omega)
theorem ly.erase(h:ly S w0 w H)(i:Nat):ly S w0 w (H.eraseIdx i):=⟨h.ni,fun e he=>h.ok e<|eN he,fun e he=>h.own e<|eN he,h.apart.sublist<|fE ..⟩
theorem ly.G2(h:ly S w0 w H){e:lN}(hi:H[i]?=some e)(hj:H[j]?=some e')(mK:i≠j):∀k,e.D k->¬e'.D k:=by
 have⟨mr,hie⟩:=oS hi;have⟨xl,VO⟩:=oS hj;subst hie VO;rcases Nat.lt_or_gt_of_ne mK with lX|lX
 .exact eI.1 h.apart i j mr xl lX
 exact fun k h1 h2=>eI.1 h.apart j i xl mr lX k h2 h1
theorem ly.upd{e:lN}(h:ly S w0 w H)(i:Nat)(hi:H[i]?=some e)(hc:mC e.D w w')(ho:e'.ok w')(hD:∀k,e'.D k->e.D k\/w.heap.size<=k):ly S w0 w' (H.set i e'):=by
 have PR:=mZ hi;have lX:i<H.length:=(oS hi).1;have hk:∀(j:Nat) (x:lN),H[j]?=some x->i≠j->∀k,x.D k->¬e'.D k:=fun j x hj sX k h1 h2=>by
  rcases hD k h2 with h3|h3
  .exact h.G2 hi hj sX k h3 h1
  have:=(h.ok x<|mZ hj).2.1 k h1;omega
 refine⟨h.ni.trans' hc fun k sG nO=>?_,fun x hx=>?_,fun x hx k Ep=>?_,?_⟩
 .rcases h.own e PR k nO with h1|h1
  .exact h1
  omega
 .have⟨j,hj⟩:=fR hx;rw[gX]at hj;split at hj
  .rename_i sX;subst sX;injection hj with hj;subst hj;exact ho
  rename_i sX;exact(h.ok x<|mZ hj).ni hc<|fun k h1 h2=>h.G2 hi hj sX k h2 h1
 .rcases List.mem_or_eq_of_mem_set hx with hx|rfl
  .exact h.own x hx k Ep
  rcases hD k Ep with h3|h3
  .exact h.own e PR k h3
  exact .inr<|j5 h.ni.size h3
 rw[eI];intro a b ha hb qU k h1 h2;rw[ja]at ha hb;rw[List.getElem_set]at h1 h2;split at h1
 .rename_i um;subst um;rw[lp aa]at h2;exact hk b _ (nM hb) aa k h2 h1
 rename_i um;split at h2
 .exact hk a _ (nM ha) um k h1 h2
 exact eI.1 h.apart a b ha hb qU k h1 h2
theorem ly.cell(h:ly S w0 w H)(i:Nat)(hi:H[i]?=some (B g t cs))(hc:cs[j]?=some v):w.cell? ⟨g,j,none⟩=some v:=(((h.ok _<|mZ hi).1:mV w g t cs).cell j).trans hc
theorem ly.set(h:ly S w0 w H)(i:Nat)(hi:H[i]?=some (B g t cs))(j:Nat)(v:lH):ly S w0 (w.setCell ⟨g,j,none⟩ v) (H.set i (B g t (cs.setIfInBounds j v))):=h.upd i hi ((mC.refl (B g t cs).D w).setCell (p:=⟨g,j,none⟩) (.inl rfl) v) (B.ok<|((h.ok _<|mZ hi).1:mV w g t cs).YH j v) (fun _ hk=>.inl hk)
theorem ly.old(h:ly S w0 w H)(hv:w0.cell? p=some v)(hS:¬S p.block):w.cell? p=some v:=(fY<|h.ni.block p.block (fc w0 _ hv) hS).trans hv
theorem ly.pu(h:ly NF w0 w H):Pure w0 w:=h.ni.toPure
theorem pJ{K:Value->World->Prop}(hI:ly S w0 w H)(k:∀w1,Pure w w1->ly S w0 w1 H->K v w1):∀e w1,(e=.returned v/\Pure w w1)->∃u,e=Ending.returned u/\K u w1:=by rintro e w1 ⟨rfl,h⟩;exact⟨_,Z,k w1 h<|hI.pure h⟩
theorem ly.my(h:ly NF w0 w H)(hv:w0.cell? p=some v):w.cell? p=some v:=h.old hv (fun h=>h)
end
def pq(P:lY)(t n:Nat):Bool:=match P.info? t with|some i=>i.size==n|none=>false
def yW(P:lY)(t:Nat):Bool:=match P.underlying t with|none=>false|some (.struct _)=>false|some (.array _ _)=>false|_=>true
def Cz(P:lY)(t:Nat):Bool:=match P.underlying t with|some (.struct _)=>true|some (.array _ _)=>true|_=>false
def CH(P:lY)(s i off:Nat):Bool:=match P.underlying s with
 |some (.struct fs)=>match fs[i]? with
  |some f=>(f.offset==off)&&(match P.info? f.type with|some j=>j.size !=0|none=>false)|none=>false
 |_=>false
theorem yZ(h:pq P t n):(sizeOf t).run P w=.ok n w:=by
 unfold pq at h;cases hi:P.info? t with
 |none=>simp[hi]at h|some i=>simp only[hi,kM]at h;simp[sizeOf,typeInfo,hi,h]
theorem run_isAgg_plain(h:yW P t):(isAgg t).run P w=.ok false w:=by
 unfold yW at h;cases hi:P.underlying t with
 |none=>simp[hi]at h|some i=>cases i<;>simp[hi]at h<;>simp[isAgg,jD hi]
theorem agi(h:Cz P t):(isAgg t).run P w=.ok true w:=by
 unfold Cz at h;cases hi:P.underlying t with
 |none=>simp[hi]at h|some i=>cases i<;>simp[hi]at h<;>simp[isAgg,jD hi]
section
variable{P:lY}{ρ:lB}{o:Oper}{w:lE}{x y z:mN}{v:lH}
theorem Df(ho:o.op=.move x):lQ P ρ o w (ev ρ x):=by simp[lQ,execOp,ho]
theorem De(ho:o.op=.assign x):lQ P ρ o w (ev ρ x):=by simp[lQ,execOp,ho]
theorem Tt(lG:E0 lK ρ o d_ N_ (o.op) (.assign x))(K_:WL P N_ lK Q_ mh (upd ρ d_ (ev ρ x)) w):WL P N_ lK Q_ (o::mh) ρ w:=oG lG (De (q3 lG)) K_
theorem afq{n:Int}(ho:o.op=.move x)(hx:ev ρ x=.int k n):lQ P ρ o w (.int k n):=hx▸Df ho
theorem V0{n:Int}(lG:E0 lK ρ o d_ N_ (o.op,ev ρ x) (.move x,.int k n))(K_:WL P N_ lK Q_ mh (upd ρ d_ (.int k n)) w):WL P N_ lK Q_ (o::mh) ρ w:=oG lG (afq (q1 (q3 lG)) (q2 (q3 lG))) K_
theorem Vw(i_:Nat){n:Int}(lG:E1 lK ρ o i_ d_ (o.op,ev ρ x) (.move x,.int k n))(K_:WT P N_ lK Q_ S_ T_ f_ (l_.setIfInBounds i_ true) (upd ρ d_ (.int k n)) w)(hB_:qZ lK T_ N_ l_ i_ d_:=by kernel_rfl)(hS_:S_ w:=by exact sO):WT P N_ lK Q_ S_ T_ (f_+1) l_ ρ w:=ud i_ lG hB_ hS_ (fun W_ sU=>afq (q1 (q3 lG)) (q2 (q3 lG))) K_
theorem afp{b:Bool}(ho:o.op=.move x)(hx:ev ρ x=.bool b):lQ P ρ o w (.bool b):=hx▸Df ho
theorem V3{b:Bool}(lG:E0 lK ρ o d_ N_ (o.op,ev ρ x) (.move x,.bool b))(K_:WL P N_ lK Q_ mh (upd ρ d_ (.bool b)) w):WL P N_ lK Q_ (o::mh) ρ w:=oG lG (afp (q1 (q3 lG)) (q2 (q3 lG))) K_
theorem Te(i_:Nat){b:Bool}(lG:E1 lK ρ o i_ d_ (o.op,ev ρ x) (.move x,.bool b))(K_:WT P N_ lK Q_ S_ T_ f_ (l_.setIfInBounds i_ true) (upd ρ d_ (.bool b)) w)(hB_:qZ lK T_ N_ l_ i_ d_:=by kernel_rfl)(hS_:S_ w:=by exact sO):WT P N_ lK Q_ S_ T_ (f_+1) l_ ρ w:=ud i_ lG hB_ hS_ (fun W_ sU=>afp (q1 (q3 lG)) (q2 (q3 lG))) K_
theorem afs(ho:o.op=.move x)(hx:ev ρ x=.slice A n c):lQ P ρ o w (.slice A n c):=hx▸Df ho
theorem Vf(lG:E0 lK ρ o d_ N_ (o.op,ev ρ x) (.move x,.slice A n c))(K_:WL P N_ lK Q_ mh (upd ρ d_ (.slice A n c)) w):WL P N_ lK Q_ (o::mh) ρ w:=oG lG (afs (q1 (q3 lG)) (q2 (q3 lG))) K_
theorem T8(i_:Nat)(lG:E1 lK ρ o i_ d_ (o.op,ev ρ x) (.move x,.slice A n c))(K_:WT P N_ lK Q_ S_ T_ f_ (l_.setIfInBounds i_ true) (upd ρ d_ (.slice A n c)) w)(hB_:qZ lK T_ N_ l_ i_ d_:=by kernel_rfl)(hS_:S_ w:=by exact sO):WT P N_ lK Q_ S_ T_ (f_+1) l_ ρ w:=ud i_ lG hB_ hS_ (fun W_ sU=>afs (q1 (q3 lG)) (q2 (q3 lG))) K_
theorem afu(ho:o.op=.move x)(hx:ev ρ x=.tuple l):lQ P ρ o w (.tuple l):=hx▸Df ho
theorem Vy(lG:E0 lK ρ o d_ N_ (o.op,ev ρ x) (.move x,.tuple l))(K_:WL P N_ lK Q_ mh (upd ρ d_ (.tuple l)) w):WL P N_ lK Q_ (o::mh) ρ w:=oG lG (afu (q1 (q3 lG)) (q2 (q3 lG))) K_
theorem U9(i_:Nat)(lG:E1 lK ρ o i_ d_ (o.op,ev ρ x) (.move x,.tuple l))(K_:WT P N_ lK Q_ S_ T_ f_ (l_.setIfInBounds i_ true) (upd ρ d_ (.tuple l)) w)(hB_:qZ lK T_ N_ l_ i_ d_:=by kernel_rfl)(hS_:S_ w:=by exact sO):WT P N_ lK Q_ S_ T_ (f_+1) l_ ρ w:=ud i_ lG hB_ hS_ (fun W_ sU=>afu (q1 (q3 lG)) (q2 (q3 lG))) K_
theorem Yb{p:lO}(ho:o.op=.move x)(hx:ev ρ x=.pointer p):lQ P ρ o w (.pointer p):=hx▸Df ho
theorem V8{p:lO}(lG:E0 lK ρ o d_ N_ (o.op,ev ρ x) (.move x,.pointer p))(K_:WL P N_ lK Q_ mh (upd ρ d_ (.pointer p)) w):WL P N_ lK Q_ (o::mh) ρ w:=oG lG (Yb (q1 (q3 lG)) (q2 (q3 lG))) K_
theorem Vj(i_:Nat){p:lO}(lG:E1 lK ρ o i_ d_ (o.op,ev ρ x) (.move x,.pointer p))(K_:WT P N_ lK Q_ S_ T_ f_ (l_.setIfInBounds i_ true) (upd ρ d_ (.pointer p)) w)(hB_:qZ lK T_ N_ l_ i_ d_:=by kernel_rfl)(hS_:S_ w:=by exact sO):WT P N_ lK Q_ S_ T_ (f_+1) l_ ρ w:=ud i_ lG hB_ hS_ (fun W_ sU=>Yb (q1 (q3 lG)) (q2 (q3 lG))) K_
theorem afr(ho:o.op=.move x)(hx:ev ρ x=.nilIface):lQ P ρ o w .nilIface:=hx▸Df ho
theorem Tb(lG:E0 lK ρ o d_ N_ (o.op,ev ρ x) (.move x,.nilIface))(K_:WL P N_ lK Q_ mh (upd ρ d_ .nilIface) w):WL P N_ lK Q_ (o::mh) ρ w:=oG lG (afr (q1 (q3 lG)) (q2 (q3 lG))) K_
theorem Ya{t:lT}(ho:o.op=.move x)(hx:ev ρ x=.iface t u):lQ P ρ o w (.iface t u):=hx▸Df ho
theorem Vs{t:lT}(lG:E0 lK ρ o d_ N_ (o.op,ev ρ x) (.move x,.iface t u))(K_:WL P N_ lK Q_ mh (upd ρ d_ (.iface t u)) w):WL P N_ lK Q_ (o::mh) ρ w:=oG lG (Ya (q1 (q3 lG)) (q2 (q3 lG))) K_
theorem Rb{f:Fn}{a b:lW}(ho:o.op=.move x)(hx:ev ρ x=.func f a b):lQ P ρ o w (.func f a b):=hx▸Df ho
theorem aft{s:ByteArray}(ho:o.op=.move x)(hx:ev ρ x=.string s):lQ P ρ o w (.string s):=hx▸Df ho
theorem Vu{s:ByteArray}(lG:E0 lK ρ o d_ N_ (o.op,ev ρ x) (.move x,.string s))(K_:WL P N_ lK Q_ mh (upd ρ d_ (.string s)) w):WL P N_ lK Q_ (o::mh) ρ w:=oG lG (aft (q1 (q3 lG)) (q2 (q3 lG))) K_
theorem aff{n:Int}(ho:o.op=.assign x)(hx:ev ρ x=.int k n):lQ P ρ o w (.int k n):=hx▸De ho
theorem Vb{n:Int}(lG:E0 lK ρ o d_ N_ (o.op,ev ρ x) (.assign x,.int k n))(K_:WL P N_ lK Q_ mh (upd ρ d_ (.int k n)) w):WL P N_ lK Q_ (o::mh) ρ w:=oG lG (aff (q1 (q3 lG)) (q2 (q3 lG))) K_
theorem Um(i_:Nat){n:Int}(lG:E1 lK ρ o i_ d_ (o.op,ev ρ x) (.assign x,.int k n))(K_:WT P N_ lK Q_ S_ T_ f_ (l_.setIfInBounds i_ true) (upd ρ d_ (.int k n)) w)(hB_:qZ lK T_ N_ l_ i_ d_:=by kernel_rfl)(hS_:S_ w:=by exact sO):WT P N_ lK Q_ S_ T_ (f_+1) l_ ρ w:=ud i_ lG hB_ hS_ (fun W_ sU=>aff (q1 (q3 lG)) (q2 (q3 lG))) K_
theorem afe{b:Bool}(ho:o.op=.assign x)(hx:ev ρ x=.bool b):lQ P ρ o w (.bool b):=hx▸De ho
theorem V5{b:Bool}(lG:E0 lK ρ o d_ N_ (o.op,ev ρ x) (.assign x,.bool b))(K_:WL P N_ lK Q_ mh (upd ρ d_ (.bool b)) w):WL P N_ lK Q_ (o::mh) ρ w:=oG lG (afe (q1 (q3 lG)) (q2 (q3 lG))) K_
theorem Ue(i_:Nat){b:Bool}(lG:E1 lK ρ o i_ d_ (o.op,ev ρ x) (.assign x,.bool b))(K_:WT P N_ lK Q_ S_ T_ f_ (l_.setIfInBounds i_ true) (upd ρ d_ (.bool b)) w)(hB_:qZ lK T_ N_ l_ i_ d_:=by kernel_rfl)(hS_:S_ w:=by exact sO):WT P N_ lK Q_ S_ T_ (f_+1) l_ ρ w:=ud i_ lG hB_ hS_ (fun W_ sU=>afe (q1 (q3 lG)) (q2 (q3 lG))) K_
theorem Gm(ho:o.op=.assign x)(hx:ev ρ x=.slice A n c):lQ P ρ o w (.slice A n c):=hx▸De ho
theorem Vm(lG:E0 lK ρ o d_ N_ (o.op,ev ρ x) (.assign x,.slice A n c))(K_:WL P N_ lK Q_ mh (upd ρ d_ (.slice A n c)) w):WL P N_ lK Q_ (o::mh) ρ w:=oG lG (Gm (q1 (q3 lG)) (q2 (q3 lG))) K_
theorem Kg{p:lO}(ho:o.op=.assign x)(hx:ev ρ x=.pointer p):lQ P ρ o w (.pointer p):=hx▸De ho
theorem Uf{p:lO}(lG:E0 lK ρ o d_ N_ (o.op,ev ρ x) (.assign x,.pointer p))(K_:WL P N_ lK Q_ mh (upd ρ d_ (.pointer p)) w):WL P N_ lK Q_ (o::mh) ρ w:=oG lG (Kg (q1 (q3 lG)) (q2 (q3 lG))) K_
theorem XY(ho:o.op=.assign x)(hx:ev ρ x=.nilIface):lQ P ρ o w .nilIface:=hx▸De ho
theorem Vh(lG:E0 lK ρ o d_ N_ (o.op,ev ρ x) (.assign x,.nilIface))(K_:WL P N_ lK Q_ mh (upd ρ d_ .nilIface) w):WL P N_ lK Q_ (o::mh) ρ w:=oG lG (XY (q1 (q3 lG)) (q2 (q3 lG))) K_
theorem Q0{t:lT}(ho:o.op=.assign x)(hx:ev ρ x=.iface t u):lQ P ρ o w (.iface t u):=hx▸De ho
theorem Vn{t:lT}(lG:E0 lK ρ o d_ N_ (o.op,ev ρ x) (.assign x,.iface t u))(K_:WL P N_ lK Q_ mh (upd ρ d_ (.iface t u)) w):WL P N_ lK Q_ (o::mh) ρ w:=oG lG (Q0 (q1 (q3 lG)) (q2 (q3 lG))) K_
theorem atp{f:Fn}{a b:lW}(ho:o.op=.assign x)(hx:ev ρ x=.func f a b):lQ P ρ o w (.func f a b):=hx▸De ho
theorem atq{s:ByteArray}(ho:o.op=.assign x)(hx:ev ρ x=.string s):lQ P ρ o w (.string s):=hx▸De ho
theorem Ud{s:ByteArray}(lG:E0 lK ρ o d_ N_ (o.op,ev ρ x) (.assign x,.string s))(K_:WL P N_ lK Q_ mh (upd ρ d_ (.string s)) w):WL P N_ lK Q_ (o::mh) ρ w:=oG lG (atq (q1 (q3 lG)) (q2 (q3 lG))) K_
theorem atK(ho:o.op=.pick x y z)(hx:ev ρ x=.bool true)(hy:ev ρ y=v):lQ P ρ o w v:=by simp[lQ,execOp,ho,hx,hy,asBool]
theorem atJ(ho:o.op=.pick x y z)(hx:ev ρ x=.bool false)(hz:ev ρ z=v):lQ P ρ o w v:=by simp[lQ,execOp,ho,hx,hz,asBool]
theorem afB{b:Bool}(ho:o.op=.pick x y z)(hx:ev ρ x=.bool true)(hy:ev ρ y=.bool b):lQ P ρ o w (.bool b):=atK ho hx hy
theorem Vg{b:Bool}(lG:E0 lK ρ o d_ N_ (o.op,ev ρ x,ev ρ y) (.pick x y z,.bool true,.bool b))(K_:WL P N_ lK Q_ mh (upd ρ d_ (.bool b)) w):WL P N_ lK Q_ (o::mh) ρ w:=oG lG (afB (q1 (q3 lG)) (q1 (q2 (q3 lG))) (q2 (q2 (q3 lG)))) K_
theorem U6(i_:Nat){b:Bool}(lG:E1 lK ρ o i_ d_ (o.op,ev ρ x,ev ρ y) (.pick x y z,.bool true,.bool b))(K_:WT P N_ lK Q_ S_ T_ f_ (l_.setIfInBounds i_ true) (upd ρ d_ (.bool b)) w)(hB_:qZ lK T_ N_ l_ i_ d_:=by kernel_rfl)(hS_:S_ w:=by exact sO):WT P N_ lK Q_ S_ T_ (f_+1) l_ ρ w:=ud i_ lG hB_ hS_ (fun W_ sU=>afB (q1 (q3 lG)) (q1 (q2 (q3 lG))) (q2 (q2 (q3 lG)))) K_
theorem afA{b:Bool}(ho:o.op=.pick x y z)(hx:ev ρ x=.bool false)(hz:ev ρ z=.bool b):lQ P ρ o w (.bool b):=atJ ho hx hz
theorem Va{b:Bool}(lG:E0 lK ρ o d_ N_ (o.op,ev ρ x,ev ρ z) (.pick x y z,.bool false,.bool b))(K_:WL P N_ lK Q_ mh (upd ρ d_ (.bool b)) w):WL P N_ lK Q_ (o::mh) ρ w:=oG lG (afA (q1 (q3 lG)) (q1 (q2 (q3 lG))) (q2 (q2 (q3 lG)))) K_
theorem Ts(i_:Nat){b:Bool}(lG:E1 lK ρ o i_ d_ (o.op,ev ρ x,ev ρ z) (.pick x y z,.bool false,.bool b))(K_:WT P N_ lK Q_ S_ T_ f_ (l_.setIfInBounds i_ true) (upd ρ d_ (.bool b)) w)(hB_:qZ lK T_ N_ l_ i_ d_:=by kernel_rfl)(hS_:S_ w:=by exact sO):WT P N_ lK Q_ S_ T_ (f_+1) l_ ρ w:=ud i_ lG hB_ hS_ (fun W_ sU=>afA (q1 (q3 lG)) (q1 (q2 (q3 lG))) (q2 (q2 (q3 lG)))) K_
theorem Yh{t:lT}{b:Bool}(ho:o.op=.unOp .not t x)(hx:ev ρ x=.bool b):lQ P ρ o w (.bool (!b)):=by simp[lQ,execOp,ho,hx,Op.unary]
theorem Ic{t:lT}(ho:o.op=.unOp .not t x)(hx:ev ρ x=.bool true):lQ P ρ o w (.bool false):=Yh ho hx
theorem Th{t:lT}(lG:E0 lK ρ o d_ N_ (o.op,ev ρ x) (.unOp .not t x,.bool true))(K_:WL P N_ lK Q_ mh (upd ρ d_ (.bool false)) w):WL P N_ lK Q_ (o::mh) ρ w:=oG lG (Ic (q1 (q3 lG)) (q2 (q3 lG))) K_
theorem Re{t:lT}(ho:o.op=.unOp .not t x)(hx:ev ρ x=.bool false):lQ P ρ o w (.bool true):=Yh ho hx
theorem Tm{t:lT}(lG:E0 lK ρ o d_ N_ (o.op,ev ρ x) (.unOp .not t x,.bool false))(K_:WL P N_ lK Q_ mh (upd ρ d_ (.bool true)) w):WL P N_ lK Q_ (o::mh) ρ w:=oG lG (Re (q1 (q3 lG)) (q2 (q3 lG))) K_
theorem XZ(ho:o.op=.extract x i)(hx:ev ρ x=.tuple l)(hv:l[i]?=some v):lQ P ρ o w v:=by simp[lQ,execOp,ho,hx,Instr.extract,hv]
theorem Vi(lG:E0 lK ρ o d_ N_ (o.op,ev ρ x,l[i]?) (.extract x i,.tuple l,some v))(K_:WL P N_ lK Q_ mh (upd ρ d_ v) w):WL P N_ lK Q_ (o::mh) ρ w:=oG lG (XZ (q1 (q3 lG)) (q1 (q2 (q3 lG))) (q2 (q2 (q3 lG)))) K_
theorem Tj(i_:Nat)(lG:E1 lK ρ o i_ d_ (o.op,ev ρ x,l[i]?) (.extract x i,.tuple l,some v))(K_:WT P N_ lK Q_ S_ T_ f_ (l_.setIfInBounds i_ true) (upd ρ d_ v) w)(hB_:qZ lK T_ N_ l_ i_ d_:=by kernel_rfl)(hS_:S_ w:=by exact sO):WT P N_ lK Q_ S_ T_ (f_+1) l_ ρ w:=ud i_ lG hB_ hS_ (fun W_ sU=>XZ (q1 (q3 lG)) (q1 (q2 (q3 lG))) (q2 (q2 (q3 lG)))) K_
theorem atw{t:lT}{ds:TypeDesc}(ho:o.op=.makeInterface t x)(ht:P.underlying t=some ds)(hd:(match ds with|.interface _=>false|_=>true)=true)(hx:ev ρ x=v):lQ P ρ o w (.iface t v):=by cases ds<;>simp at hd<;>simp[lQ,execOp,ho,hx,Instr.makeInterface,jD ht]
theorem T9{t:lT}{ds:TypeDesc}(lG:E0 lK ρ o d_ N_ (o.op) (.makeInterface t x))(ht:P.underlying t=some ds)(h1_:@Eq _ ((match ds with|.interface _=>false|_=>true),ev ρ x) (true,v))(K_:WL P N_ lK Q_ mh (upd ρ d_ (.iface t v)) w):WL P N_ lK Q_ (o::mh) ρ w:=oG lG (atw (q3 lG) ht (q1 h1_) (q2 h1_)) K_
theorem NA{fn:Fn}{a b:List Operand}{l m:mb}(ho:o.op=.makeFunc fn a.toArray b.toArray)(ha:a.map (ev ρ)=l)(hb:b.map (ev ρ)=m):lQ P ρ o w (.func fn l.toArray m.toArray):=by simp[lQ,execOp,ho,ha,hb,Instr.makeFunc]
section
variable{t t':lT}{a b:Int}{k:IntKind}
theorem Ki{op:BinOp}{r:Bool}(ho:o.op=.binOp op t x y t')(hx:ev ρ x=.int k a)(hy:ev ρ y=.int k b)(hr:(Op.intCmp op a b).run P w=.ok (.bool r) w)(mw:(match op with|.lss|.leq|.gtr|.geq|.eql|.neq=>true|_=>false)=true):lQ P ρ o w (.bool r):=by cases op<;>simp at mw<;>simp[lQ,execOp,ho,hx,hy,eqGuard,binOp,hr]
theorem Kk(ho:o.op=.binOp .lss t x y t')(hx:ev ρ x=.int k a)(hy:ev ρ y=.int k b):lQ P ρ o w (.bool (decide (a<b))):=Ki ho hx hy dG rfl
theorem Q8(ho:o.op=.binOp .leq t x y t')(hx:ev ρ x=.int k a)(hy:ev ρ y=.int k b):lQ P ρ o w (.bool (decide (a<=b))):=Ki ho hx hy dG rfl
theorem X1(ho:o.op=.binOp .gtr t x y t')(hx:ev ρ x=.int k a)(hy:ev ρ y=.int k b):lQ P ρ o w (.bool (decide (b<a))):=Ki ho hx hy dG rfl
theorem X0(ho:o.op=.binOp .geq t x y t')(hx:ev ρ x=.int k a)(hy:ev ρ y=.int k b):lQ P ρ o w (.bool (decide (b<=a))):=Ki ho hx hy dG rfl
theorem Un(lG:E0 lK ρ o d_ N_ (o.op,ev ρ x,ev ρ y) (.binOp .geq t x y t',.int k a,.int k b))(K_:WL P N_ lK Q_ mh (upd ρ d_ (.bool (decide (b<=a)))) w):WL P N_ lK Q_ (o::mh) ρ w:=oG lG (X0 (q1 (q3 lG)) (q1 (q2 (q3 lG))) (q2 (q2 (q3 lG)))) K_
theorem EI(ho:o.op=.binOp .eql t x y t')(hx:ev ρ x=.int k a)(hy:ev ρ y=.int k b):lQ P ρ o w (.bool (decide (a=b))):=Ki ho hx hy (by simp[Op.intCmp];rfl) rfl
theorem Rc(ho:o.op=.binOp .neq t x y t')(hx:ev ρ x=.int k a)(hy:ev ρ y=.int k b):lQ P ρ o w (.bool (!decide (a=b))):=Ki ho hx hy (by simp[Op.intCmp];rfl) rfl
theorem Ra(ho:o.op=.binOp .lss t x y t')(hx:ev ρ x=.int k a)(hy:ev ρ y=.int k b)(h:a<b):lQ P ρ o w (.bool true):=by
 have:=Kk (P:=P) (w:=w) ho hx hy
 rwa [show decide (a<b)from by simp;omega]at this
theorem Vt(lG:E0 lK ρ o d_ N_ (o.op,ev ρ x,ev ρ y) (.binOp .lss t x y t',.int k a,.int k b))(K_:WL P N_ lK Q_ mh (upd ρ d_ (.bool true)) w)(h1_:a<b:=by omega):WL P N_ lK Q_ (o::mh) ρ w:=oG lG (Ra (q1 (q3 lG)) (q1 (q2 (q3 lG))) (q2 (q2 (q3 lG))) h1_) K_
theorem Q9(ho:o.op=.binOp .lss t x y t')(hx:ev ρ x=.int k a)(hy:ev ρ y=.int k b)(h:b<=a):lQ P ρ o w (.bool false):=by
 have:=Kk (P:=P) (w:=w) ho hx hy
 rwa [show decide (a<b)=false from by simp;omega]at this
theorem Vq(lG:E0 lK ρ o d_ N_ (o.op,ev ρ x,ev ρ y) (.binOp .lss t x y t',.int k a,.int k b))(K_:WL P N_ lK Q_ mh (upd ρ d_ (.bool false)) w)(h1_:b<=a:=by omega):WL P N_ lK Q_ (o::mh) ρ w:=oG lG (Q9 (q1 (q3 lG)) (q1 (q2 (q3 lG))) (q2 (q2 (q3 lG))) h1_) K_
theorem X6(ho:o.op=.binOp .leq t x y t')(hx:ev ρ x=.int k a)(hy:ev ρ y=.int k b)(h:a<=b):lQ P ρ o w (.bool true):=by
 have:=Q8 (P:=P) (w:=w) ho hx hy
 rwa [show decide (a<=b)from by simp;omega]at this
theorem X5(ho:o.op=.binOp .leq t x y t')(hx:ev ρ x=.int k a)(hy:ev ρ y=.int k b)(h:b<a):lQ P ρ o w (.bool false):=by
 have:=Q8 (P:=P) (w:=w) ho hx hy
 rwa [show decide (a<=b)=false from by simp;omega]at this
theorem X2(ho:o.op=.binOp .gtr t x y t')(hx:ev ρ x=.int k a)(hy:ev ρ y=.int k b)(h:b<a):lQ P ρ o w (.bool true):=by
 have:=X1 (P:=P) (w:=w) ho hx hy
 rwa [show decide (b<a)from by simp;omega]at this
theorem Ty(lG:E0 lK ρ o d_ N_ (o.op,ev ρ x,ev ρ y) (.binOp .gtr t x y t',.int k a,.int k b))(K_:WL P N_ lK Q_ mh (upd ρ d_ (.bool true)) w)(h1_:b<a:=by omega):WL P N_ lK Q_ (o::mh) ρ w:=oG lG (X2 (q1 (q3 lG)) (q1 (q2 (q3 lG))) (q2 (q2 (q3 lG))) h1_) K_
theorem afk(ho:o.op=.binOp .gtr t x y t')(hx:ev ρ x=.int k a)(hy:ev ρ y=.int k b)(h:a<=b):lQ P ρ o w (.bool false):=by
 have:=X1 (P:=P) (w:=w) ho hx hy
 rwa [show decide (b<a)=false from by simp;omega]at this
theorem Ti(lG:E0 lK ρ o d_ N_ (o.op,ev ρ x,ev ρ y) (.binOp .gtr t x y t',.int k a,.int k b))(K_:WL P N_ lK Q_ mh (upd ρ d_ (.bool false)) w)(h1_:a<=b:=by omega):WL P N_ lK Q_ (o::mh) ρ w:=oG lG (afk (q1 (q3 lG)) (q1 (q2 (q3 lG))) (q2 (q2 (q3 lG))) h1_) K_
theorem atu(ho:o.op=.binOp .geq t x y t')(hx:ev ρ x=.int k a)(hy:ev ρ y=.int k b)(h:b<=a):lQ P ρ o w (.bool true):=by
 have:=X0 (P:=P) (w:=w) ho hx hy
 rwa [show decide (b<=a)from by simp;omega]at this
theorem Tw(lG:E0 lK ρ o d_ N_ (o.op,ev ρ x,ev ρ y) (.binOp .geq t x y t',.int k a,.int k b))(K_:WL P N_ lK Q_ mh (upd ρ d_ (.bool true)) w)(h1_:b<=a:=by omega):WL P N_ lK Q_ (o::mh) ρ w:=oG lG (atu (q1 (q3 lG)) (q1 (q2 (q3 lG))) (q2 (q2 (q3 lG))) h1_) K_
theorem afj(ho:o.op=.binOp .geq t x y t')(hx:ev ρ x=.int k a)(hy:ev ρ y=.int k b)(h:a<b):lQ P ρ o w (.bool false):=by
 have:=X0 (P:=P) (w:=w) ho hx hy
 rwa [show decide (b<=a)=false from by simp;omega]at this
theorem Ua(lG:E0 lK ρ o d_ N_ (o.op,ev ρ x,ev ρ y) (.binOp .geq t x y t',.int k a,.int k b))(K_:WL P N_ lK Q_ mh (upd ρ d_ (.bool false)) w)(h1_:a<b:=by omega):WL P N_ lK Q_ (o::mh) ρ w:=oG lG (afj (q1 (q3 lG)) (q1 (q2 (q3 lG))) (q2 (q2 (q3 lG))) h1_) K_
theorem Q4(ho:o.op=.binOp .eql t x y t')(hx:ev ρ x=.int k a)(hy:ev ρ y=.int k b)(h:a=b):lQ P ρ o w (.bool true):=by
 have:=EI (P:=P) (w:=w) ho hx hy
 rwa [show decide (a=b)from by simp;omega]at this
theorem Vz(lG:E0 lK ρ o d_ N_ (o.op,ev ρ x,ev ρ y) (.binOp .eql t x y t',.int k a,.int k b))(K_:WL P N_ lK Q_ mh (upd ρ d_ (.bool true)) w)(h1_:a=b:=by omega):WL P N_ lK Q_ (o::mh) ρ w:=oG lG (Q4 (q1 (q3 lG)) (q1 (q2 (q3 lG))) (q2 (q2 (q3 lG))) h1_) K_
theorem Q3(ho:o.op=.binOp .eql t x y t')(hx:ev ρ x=.int k a)(hy:ev ρ y=.int k b)(h:a≠b):lQ P ρ o w (.bool false):=by
 have:=EI (P:=P) (w:=w) ho hx hy
 rwa [show decide (a=b)=false from by simp;omega]at this
theorem Vv(lG:E0 lK ρ o d_ N_ (o.op,ev ρ x,ev ρ y) (.binOp .eql t x y t',.int k a,.int k b))(K_:WL P N_ lK Q_ mh (upd ρ d_ (.bool false)) w)(h1_:a≠b:=by omega):WL P N_ lK Q_ (o::mh) ρ w:=oG lG (Q3 (q1 (q3 lG)) (q1 (q2 (q3 lG))) (q2 (q2 (q3 lG))) h1_) K_
theorem afx(ho:o.op=.binOp .neq t x y t')(hx:ev ρ x=.int k a)(hy:ev ρ y=.int k b)(h:a≠b):lQ P ρ o w (.bool true):=by
 have:=Rc (P:=P) (w:=w) ho hx hy
 rwa [show(!decide (a=b))from by simp;omega]at this
theorem Ug(lG:E0 lK ρ o d_ N_ (o.op,ev ρ x,ev ρ y) (.binOp .neq t x y t',.int k a,.int k b))(K_:WL P N_ lK Q_ mh (upd ρ d_ (.bool true)) w)(h1_:a≠b:=by omega):WL P N_ lK Q_ (o::mh) ρ w:=oG lG (afx (q1 (q3 lG)) (q1 (q2 (q3 lG))) (q2 (q2 (q3 lG))) h1_) K_
theorem Ut(i_:Nat)(lG:E1 lK ρ o i_ d_ (o.op,ev ρ x,ev ρ y) (.binOp .neq t x y t',.int k a,.int k b))(K_:WT P N_ lK Q_ S_ T_ f_ (l_.setIfInBounds i_ true) (upd ρ d_ (.bool true)) w)(hB_:qZ lK T_ N_ l_ i_ d_:=by kernel_rfl)(h1_:a≠b:=by omega)(hS_:S_ w:=by exact sO):WT P N_ lK Q_ S_ T_ (f_+1) l_ ρ w:=ud i_ lG hB_ hS_ (fun W_ sU=>afx (q1 (q3 lG)) (q1 (q2 (q3 lG))) (q2 (q2 (q3 lG))) h1_) K_
theorem afw(ho:o.op=.binOp .neq t x y t')(hx:ev ρ x=.int k a)(hy:ev ρ y=.int k b)(h:a=b):lQ P ρ o w (.bool false):=by
 have:=Rc (P:=P) (w:=w) ho hx hy
 rwa [show(!decide (a=b))=false from by simp;omega]at this
theorem U3(lG:E0 lK ρ o d_ N_ (o.op,ev ρ x,ev ρ y) (.binOp .neq t x y t',.int k a,.int k b))(K_:WL P N_ lK Q_ mh (upd ρ d_ (.bool false)) w)(h1_:a=b:=by omega):WL P N_ lK Q_ (o::mh) ρ w:=oG lG (afw (q1 (q3 lG)) (q1 (q2 (q3 lG))) (q2 (q2 (q3 lG))) h1_) K_
theorem U7(i_:Nat)(lG:E1 lK ρ o i_ d_ (o.op,ev ρ x,ev ρ y) (.binOp .neq t x y t',.int k a,.int k b))(K_:WT P N_ lK Q_ S_ T_ f_ (l_.setIfInBounds i_ true) (upd ρ d_ (.bool false)) w)(hB_:qZ lK T_ N_ l_ i_ d_:=by kernel_rfl)(h1_:a=b:=by omega)(hS_:S_ w:=by exact sO):WT P N_ lK Q_ S_ T_ (f_+1) l_ ρ w:=ud i_ lG hB_ hS_ (fun W_ sU=>afw (q1 (q3 lG)) (q1 (q2 (q3 lG))) (q2 (q2 (q3 lG))) h1_) K_
theorem wrap64_in{n:Int}(h1: -9223372036854775808<=n)(h2:n<=9223372036854775807):IntKind.i64.wrap n=n:=by simp[IntKind.wrap,IntKind.signed,IntKind.bits];omega
theorem Nw(ho:o.op=.binOp .add t x y t')(hx:ev ρ x=.int k a)(hy:ev ρ y=.int k b):lQ P ρ o w (.int k (k.wrap (a+b))):=bB
theorem afK(ho:o.op=.binOp .sub t x y t')(hx:ev ρ x=.int k a)(hy:ev ρ y=.int k b):lQ P ρ o w (.int k (k.wrap (a-b))):=bB
theorem afv(ho:o.op=.binOp .mul t x y t')(hx:ev ρ x=.int k a)(hy:ev ρ y=.int k b):lQ P ρ o w (.int k (k.wrap (a*b))):=bB
theorem H9(ho:o.op=.binOp .add t x y t')(hx:ev ρ x=Y a)(hy:ev ρ y=Y b)(h: -9223372036854775808<=a+b/\a+b<=9223372036854775807):lQ P ρ o w (Y (a+b)):=by
 have:=Nw (P:=P) (w:=w) ho hx hy
 rwa [wrap64_in h.1 h.2]at this
theorem Kl(ho:o.op=.binOp .sub t x y t')(hx:ev ρ x=Y a)(hy:ev ρ y=Y b)(h: -9223372036854775808<=a-b/\a-b<=9223372036854775807):lQ P ρ o w (Y (a-b)):=by
 have:=afK (P:=P) (w:=w) ho hx hy
 rwa [wrap64_in h.1 h.2]at this
theorem atC(ho:o.op=.binOp .mul t x y t')(hx:ev ρ x=Y a)(hy:ev ρ y=Y b)(h: -9223372036854775808<=a*b/\a*b<=9223372036854775807):lQ P ρ o w (Y (a*b)):=by
 have:=afv (P:=P) (w:=w) ho hx hy
 rwa [wrap64_in h.1 h.2]at this
theorem afn(ho:o.op=.binOp .add t x y t')(hx:ev ρ x=lI n)(hy:ev ρ y=Y 1)(h:n<9223372036854775807):lQ P ρ o w (Y ((n+1:Nat):Int)):=by have:=H9 (P:=P) (w:=w) ho hx hy aa;simpa using this
theorem Vx(lG:E0 lK ρ o d_ N_ (o.op,ev ρ x,ev ρ y) (.binOp .add t x y t',lI n,Y 1))(K_:WL P N_ lK Q_ mh (upd ρ d_ (Y ((n+1:Nat):Int))) w)(h1_:n<9223372036854775807:=by omega):WL P N_ lK Q_ (o::mh) ρ w:=oG lG (afn (q1 (q3 lG)) (q1 (q2 (q3 lG))) (q2 (q2 (q3 lG))) h1_) K_
end
section
variable{t t':lT}{ms:Array (String×TypeId)}
theorem yh{x y:lH}{r:Bool}(h:∀d,(Op.equalIn (d+1) t x y).run P w=.ok r w):(Op.equal t x y).run P w=.ok r w:=h 9999
theorem atx{T:lT}(ho:o.op=.binOp .neq t x y t')(ht:P.underlying t=some (.interface ms))(hx:ev ρ x=.iface T u)(hy:ev ρ y=.nilIface):lQ P ρ o w (.bool true):=by have h:=yh (P:=P) (w:=w) (t:=t) (x:=.iface T u) (y:=.nilIface) (r:=false)<|fun d=>aD;simp[lQ,execOp,ho,hx,hy,eqGuard,binOp,h]
theorem Tp{T:lT}(lG:E0 lK ρ o d_ N_ (o.op) (.binOp .neq t x y t'))(ht:P.underlying t=some (.interface ms))(h1_:@Eq _ (ev ρ x,ev ρ y) (.iface T u,.nilIface))(K_:WL P N_ lK Q_ mh (upd ρ d_ (.bool true)) w):WL P N_ lK Q_ (o::mh) ρ w:=oG lG (atx (q3 lG) ht (q1 h1_) (q2 h1_)) K_
theorem Q6{T:lT}(ho:o.op=.binOp .eql t x y t')(ht:P.underlying t=some (.interface ms))(hx:ev ρ x=.iface T u)(hy:ev ρ y=.nilIface):lQ P ρ o w (.bool false):=by have h:=yh (P:=P) (w:=w) (t:=t) (x:=.iface T u) (y:=.nilIface) (r:=false)<|fun d=>aD;simp[lQ,execOp,ho,hx,hy,eqGuard,binOp,h]
theorem afz(ho:o.op=.binOp .neq t x (.const .nilIface) t')(ht:P.underlying t=some (.interface ms))(hx:ev ρ x=.nilIface):lQ P ρ o w (.bool false):=by have h:=yh (P:=P) (w:=w) (t:=t) (x:=.nilIface) (y:=.nilIface) (r:=true)<|fun d=>aD;simp[lQ,execOp,ho,hx,show ev ρ (.const .nilIface)=.nilIface from rfl,eqGuard,binOp,h]
theorem Tn(lG:E0 lK ρ o d_ N_ (o.op) (.binOp .neq t x (.const .nilIface) t'))(ht:P.underlying t=some (.interface ms))(h1_:ev ρ x=.nilIface)(K_:WL P N_ lK Q_ mh (upd ρ d_ (.bool false)) w):WL P N_ lK Q_ (o::mh) ρ w:=oG lG (afz (q3 lG) ht h1_) K_
theorem NC(ho:o.op=.binOp .eql t x (.const .nilIface) t')(ht:P.underlying t=some (.interface ms))(hx:ev ρ x=.nilIface):lQ P ρ o w (.bool true):=by have h:=yh (P:=P) (w:=w) (t:=t) (x:=.nilIface) (y:=.nilIface) (r:=true)<|fun d=>aD;simp[lQ,execOp,ho,hx,show ev ρ (.const .nilIface)=.nilIface from rfl,eqGuard,binOp,h]
theorem Ia{a b:Bool}(ho:o.op=.binOp .eql t x y t')(ht:P.underlying t=some .bool)(hx:ev ρ x=.bool a)(hy:ev ρ y=.bool b):lQ P ρ o w (.bool (a==b)):=by have h:=yh (P:=P) (w:=w) (t:=t) (x:=.bool a) (y:=.bool b) (r:=a==b)<|fun d=>aD;simp[lQ,execOp,ho,hx,hy,eqGuard,binOp,h]
theorem atX{a b:ByteArray}(ho:o.op=.binOp .eql t x y t')(hx:ev ρ x=.string a)(hy:ev ρ y=.string b):lQ P ρ o w (.bool (a.toList==b.toList)):=by simp[lQ,execOp,ho,hx,hy,eqGuard,binOp,Op.stringOp]
end
theorem Q5{off g:Nat}(ho:o.op=.fieldAddr s x i)(hf:CH P s i off)(hx:ev ρ x=lJ g j):lQ P ρ o w (lJ g (j+off)):=by
 unfold CH at hf;cases hu:P.underlying s with
 |none=>simp[hu]at hf|some d=>
  cases d<;>simp[hu]at hf;rename_i fs;cases xZ:fs[i]? with
  |none=>simp[xZ]at hf|some f=>
   simp only[xZ]at hf;cases hi:P.info? f.type with
   |none=>simp[hi]at hf|some q=>simp only[hi,ij,kM,bne_iff_ne,ne_eq]at hf;simp[lQ,execOp,ho,hx,Instr.fieldAt,jD hu,xZ,Instr.sureAddr,fieldPlace,sizeOf,typeInfo,hi,hf.2,<-hf.1,Addr.add]
theorem Td(i_:Nat)(off:Nat){g:Nat}(lG:E1 lK ρ o i_ d_ (o.op,ev ρ x) (.fieldAddr s x i,lJ g j))(K_:WT P N_ lK Q_ S_ T_ f_ (l_.setIfInBounds i_ true) (upd ρ d_ (lJ g (j+off))) w)(hB_:qZ lK T_ N_ l_ i_ d_:=by kernel_rfl)(h1_:CH P s i off:=by kernel_rfl)(hS_:S_ w:=by exact sO):WT P N_ lK Q_ S_ T_ (f_+1) l_ ρ w:=ud i_ lG hB_ hS_ (fun W_ sU=>Q5 (off:=off) (q1 (q3 lG)) h1_ (q2 (q3 lG))) K_
theorem Tl(off:Nat){g:Nat}(lG:E0 lK ρ o d_ N_ (o.op,ev ρ x) (.fieldAddr s x i,lJ g j))(K_:WL P N_ lK Q_ mh (upd ρ d_ (lJ g (j+off))) w)(h1_:CH P s i off:=by kernel_rfl):WL P N_ lK Q_ (o::mh) ρ w:=oG lG (Q5 (off:=off) (q1 (q3 lG)) h1_ (q2 (q3 lG))) K_
theorem afh{g:Nat}(ho:o.op=.fieldAddr s x i)(hf:CH P s i 0)(hx:ev ρ x=lJ g j):lQ P ρ o w (lJ g j):=Q5 (off:=0) ho hf hx
theorem Tq{g:Nat}(lG:E0 lK ρ o d_ N_ (o.op,ev ρ x) (.fieldAddr s x i,lJ g j))(K_:WL P N_ lK Q_ mh (upd ρ d_ (lJ g j)) w)(h1_:CH P s i 0:=by kernel_rfl):WL P N_ lK Q_ (o::mh) ρ w:=oG lG (afh (q1 (q3 lG)) h1_ (q2 (q3 lG))) K_
theorem U4(i_:Nat){g:Nat}(lG:E1 lK ρ o i_ d_ (o.op,ev ρ x) (.fieldAddr s x i,lJ g j))(K_:WT P N_ lK Q_ S_ T_ f_ (l_.setIfInBounds i_ true) (upd ρ d_ (lJ g j)) w)(hB_:qZ lK T_ N_ l_ i_ d_:=by kernel_rfl)(h1_:CH P s i 0:=by kernel_rfl)(hS_:S_ w:=by exact sO):WT P N_ lK Q_ S_ T_ (f_+1) l_ ρ w:=ud i_ lG hB_ hS_ (fun W_ sU=>afh (q1 (q3 lG)) h1_ (q2 (q3 lG))) K_
theorem afi{off g:Nat}(ho:o.op=.fieldAddr s x i)(hf:CH P s i off)(hx:ev ρ x=lJ g 0):lQ P ρ o w (lJ g off):=by
 have:=Q5 (P:=P) (w:=w) ho hf hx
 rwa [kg]at this
theorem V6(off:Nat){g:Nat}(lG:E0 lK ρ o d_ N_ (o.op,ev ρ x) (.fieldAddr s x i,lJ g 0))(K_:WL P N_ lK Q_ mh (upd ρ d_ (lJ g off)) w)(h1_:CH P s i off:=by kernel_rfl):WL P N_ lK Q_ (o::mh) ρ w:=oG lG (afi (off:=off) (q1 (q3 lG)) h1_ (q2 (q3 lG))) K_
theorem Vd(i_:Nat)(off:Nat){g:Nat}(lG:E1 lK ρ o i_ d_ (o.op,ev ρ x) (.fieldAddr s x i,lJ g 0))(K_:WT P N_ lK Q_ S_ T_ f_ (l_.setIfInBounds i_ true) (upd ρ d_ (lJ g off)) w)(hB_:qZ lK T_ N_ l_ i_ d_:=by kernel_rfl)(h1_:CH P s i off:=by kernel_rfl)(hS_:S_ w:=by exact sO):WT P N_ lK Q_ S_ T_ (f_+1) l_ ρ w:=ud i_ lG hB_ hS_ (fun W_ sU=>afi (off:=off) (q1 (q3 lG)) h1_ (q2 (q3 lG))) K_
theorem yX{sz g:Nat}(ho:o.op=.indexAddr t x y)(ht:P.underlying t=some (.slice e))(hs:pq P e sz)(hx:ev ρ x=me g j n c)(hy:ev ρ y=.int k (i:Int))(hi:i<n):
  lQ P ρ o w (lJ g<|j+i*sz):=by
 have mr:(i:Int)<(n:Int):=aa;simp[lQ,execOp,ho,hx,hy,Instr.indexAt,asIntOf,jD ht,yZ hs,hi,Addr.add]
theorem Tu(sz:Nat){g:Nat}(lG:E0 lK ρ o d_ N_ (o.op) (.indexAddr t x y))(ht:P.underlying t=some (.slice e))(po:@Eq _ (ev ρ x,ev ρ y) (me g j n c,.int k (i:Int)))(K_:WL P N_ lK Q_ mh (upd ρ d_ (lJ g (j+i*sz))) w)(h1_:pq P e sz=true:=by kernel_rfl)(xR:i<n:=by omega):WL P N_ lK Q_ (o::mh) ρ w:=oG lG (yX (sz:=sz) (q3 lG) ht h1_ (q1 po) (q2 po) xR) K_
theorem Uk(i_:Nat)(sz:Nat){g:Nat}(lG:E1 lK ρ o i_ d_ (o.op) (.indexAddr t x y))(ht:P.underlying t=some (.slice e))(po:@Eq _ (ev ρ x,ev ρ y) (me g j n c,.int k (i:Int)))(K_:WT P N_ lK Q_ S_ T_ f_ (l_.setIfInBounds i_ true) (upd ρ d_ (lJ g (j+i*sz))) w)(hB_:qZ lK T_ N_ l_ i_ d_=true:=by kernel_rfl)(h1_:pq P e sz=true:=by kernel_rfl)(xR:i<n:=by omega)(hS_:S_ w:=by exact sO):WT P N_ lK Q_ S_ T_ (f_+1) l_ ρ w:=ud i_ lG hB_ hS_ (fun W_ sU=>yX (sz:=sz) (q3 lG) ht h1_ (q1 po) (q2 po) xR) K_
theorem zN{g:Nat}(ho:o.op=.indexAddr t x y)(ht:P.underlying t=some (.slice e))(hs:pq P e 1)(hx:ev ρ x=me g j n c)(hy:ev ρ y=.int k (i:Int))(hi:i<n):
  lQ P ρ o w (lJ g<|j+i):=by
 have:=yX (P:=P) (w:=w) (sz:=1) ho ht hs hx hy hi
 rwa [kv]at this
theorem Uq{g:Nat}(lG:E0 lK ρ o d_ N_ (o.op) (.indexAddr t x y))(ht:P.underlying t=some (.slice e))(po:@Eq _ (ev ρ x,ev ρ y) (me g j n c,.int k (i:Int)))(K_:WL P N_ lK Q_ mh (upd ρ d_ (lJ g (j+i))) w)(h1_:pq P e 1=true:=by kernel_rfl)(xR:i<n:=by omega):WL P N_ lK Q_ (o::mh) ρ w:=oG lG (zN (q3 lG) ht h1_ (q1 po) (q2 po) xR) K_
theorem afl{g:Nat}{z:Int}(ho:o.op=.indexAddr t x y)(ht:P.underlying t=some (.slice e))(hs:pq P e 1)(hx:ev ρ x=me g 0 n c)(hy:ev ρ y=.int k z)(hz:z=(i:Int))(hi:i<n):
  lQ P ρ o w (lJ g i):=by
 have:=zN (P:=P) (w:=w) ho ht hs hx (by rw[hy,hz]) hi
 rwa [kg]at this
theorem Tx{g:Nat}{z:Int}(lG:E0 lK ρ o d_ N_ (o.op) (.indexAddr t x y))(ht:P.underlying t=some (.slice e))(po:@Eq _ (ev ρ x,ev ρ y,z) (me g 0 n c,.int k z,(i:Int)))(K_:WL P N_ lK Q_ mh (upd ρ d_ (lJ g i)) w)(h1_:pq P e 1=true:=by kernel_rfl)(xR:i<n:=by omega):WL P N_ lK Q_ (o::mh) ρ w:=oG lG (afl (q3 lG) ht h1_ (q1 po) (q1 (q2 po)) (q2 (q2 po)) xR) K_
theorem Uc(i_:Nat){g:Nat}{z:Int}(lG:E1 lK ρ o i_ d_ (o.op) (.indexAddr t x y))(ht:P.underlying t=some (.slice e))(po:@Eq _ (ev ρ x,ev ρ y,z) (me g 0 n c,.int k z,(i:Int)))(K_:WT P N_ lK Q_ S_ T_ f_ (l_.setIfInBounds i_ true) (upd ρ d_ (lJ g i)) w)(hB_:qZ lK T_ N_ l_ i_ d_=true:=by kernel_rfl)(h1_:pq P e 1=true:=by kernel_rfl)(xR:i<n:=by omega)(hS_:S_ w:=by exact sO):WT P N_ lK Q_ S_ T_ (f_+1) l_ ρ w:=ud i_ lG hB_ hS_ (fun W_ sU=>afl (q3 lG) ht h1_ (q1 po) (q1 (q2 po)) (q2 (q2 po)) xR) K_
theorem X3(ho:o.op=.call {callee:=.builtin .len,args:= #[x],argTypes:= #[t]})(ht:P.underlying t=some (.slice e))(hx:ev ρ x=.slice A n c):lQ P ρ o w (lI n):=by simp[lQ,execOp,ho,resolve,invoke,builtin,Builtin.len_,jD ht,hx,goInt]
theorem Vp(lG:E0 lK ρ o d_ N_ (o.op) (.call {callee:=.builtin .len,args:= #[x],argTypes:= #[t]}))(ht:P.underlying t=some (.slice e))(h1_:ev ρ x=.slice A n c)(K_:WL P N_ lK Q_ mh (upd ρ d_ (lI n)) w):WL P N_ lK Q_ (o::mh) ρ w:=oG lG (X3 (q3 lG) ht h1_) K_
theorem Uj(i_:Nat)(lG:E1 lK ρ o i_ d_ (o.op) (.call {callee:=.builtin .len,args:= #[x],argTypes:= #[t]}))(ht:P.underlying t=some (.slice e))(h1_:ev ρ x=.slice A n c)(K_:WT P N_ lK Q_ S_ T_ f_ (l_.setIfInBounds i_ true) (upd ρ d_ (lI n)) w)(hB_:qZ lK T_ N_ l_ i_ d_:=by kernel_rfl)(hS_:S_ w:=by exact sO):WT P N_ lK Q_ S_ T_ (f_+1) l_ ρ w:=ud i_ lG hB_ hS_ (fun W_ sU=>X3 (q3 lG) ht h1_) K_
theorem X4{s:ByteArray}(ho:o.op=.call {callee:=.builtin .len,args:= #[x],argTypes:= #[t]})(ht:P.underlying t=some .string)(hx:ev ρ x=.string s):lQ P ρ o w (lI s.size):=by simp[lQ,execOp,ho,resolve,invoke,builtin,Builtin.len_,jD ht,hx,goInt]
theorem EK(ho:o.op=.load t x)(ht:yW P t)(hx:ev ρ x=.pointer (some p))(hc:w.cell? p=some v):lQ P ρ o w v:=by simp[lQ,execOp,ho,hx,Instr.loadAt,Instr.sureAddr,loadVar,run_isAgg_plain ht,hc]
theorem V4(v:lH)(lG:E0 lK ρ o d_ N_ (o.op,ev ρ x) (.load t x,.pointer (some p)))(hc:w.cell? p=some v)(K_:WL P N_ lK Q_ mh (upd ρ d_ v) w)(h1_:yW P t:=by kernel_rfl):WL P N_ lK Q_ (o::mh) ρ w:=oG lG (EK (v:=v) (q1 (q3 lG)) h1_ (q2 (q3 lG)) hc) K_
theorem V9(i_:Nat)(v:lH)(lG:E1 lK ρ o i_ d_ (o.op,ev ρ x) (.load t x,.pointer (some p)))(hc:∀W_,S_ W_->W_.cell? p=some v)(K_:WT P N_ lK Q_ S_ T_ f_ (l_.setIfInBounds i_ true) (upd ρ d_ v) w)(hB_:qZ lK T_ N_ l_ i_ d_:=by kernel_rfl)(h1_:yW P t:=by kernel_rfl)(hS_:S_ w:=by exact sO):WT P N_ lK Q_ S_ T_ (f_+1) l_ ρ w:=ud i_ lG hB_ hS_ (fun W_ sU=>EK (v:=v) (q1 (q3 lG)) h1_ (q2 (q3 lG)) (hc W_ sU)) K_
theorem run_loadCellsFrom{b:Nat}{w:lE}:∀(l:mb) (j i:Nat) (acc:lW),(∀k u,l[k]?=some u->w.cell? ⟨b,j+(i+k),none⟩=some u)->(loadCellsFrom ⟨b,j,none⟩ i l.length acc).run P w=.ok (acc++l.toArray) w
 |[],j,i,acc,_=>by simp[loadCellsFrom]
 |u::l,j,i,acc,h=>by have h0:=h 0 u rfl;have ih:=run_loadCellsFrom l j (i+1) (acc.push u) (fun k x hk=>by have:=h (k+1) x hk;rwa [show i+1+k=i+(k+1) by omega]);simp only[j1]at h0;simp[loadCellsFrom,jU,h0,ih]
theorem Gp{l:mb}(ho:o.op=.load t x)(ht:Cz P t)(hs:pq P t n)(hx:ev ρ x=lJ b j)(hn:l.length=n)(hc:∀k u,l[k]?=some u->w.cell? ⟨b,j+k,none⟩=some u):lQ P ρ o w (.agg l.toArray):=by have h1:=run_loadCellsFrom (P:=P) (b:=b) (w:=w) l j 0 #[] (by simpa using hc);rw[hn]at h1;simp[lQ,execOp,ho,hx,Instr.loadAt,Instr.sureAddr,loadVar,agi ht,yZ hs,loadCells,h1]
theorem Uh(n:Nat)(l:mb)(lG:E0 lK ρ o d_ N_ (o.op,ev ρ x,l.length) (.load t x,lJ b j,n))(hc:∀k u,l[k]?=some u->w.cell? ⟨b,j+k,none⟩=some u)(K_:WL P N_ lK Q_ mh (upd ρ d_ (.agg l.toArray)) w)(h1_:Cz P t:=by kernel_rfl)(po:pq P t n:=by kernel_rfl):WL P N_ lK Q_ (o::mh) ρ w:=oG lG (Gp (l:=l) (n:=n) (q1 (q3 lG)) h1_ po (q1 (q2 (q3 lG))) (q2 (q2 (q3 lG))) hc) K_
theorem Ui(i_:Nat)(n:Nat)(l:mb)(lG:E1 lK ρ o i_ d_ (o.op,ev ρ x,l.length) (.load t x,lJ b j,n))(hc:∀W_,S_ W_->∀k u,l[k]?=some u->W_.cell? ⟨b,j+k,none⟩=some u)(K_:WT P N_ lK Q_ S_ T_ f_ (l_.setIfInBounds i_ true) (upd ρ d_ (.agg l.toArray)) w)(hB_:qZ lK T_ N_ l_ i_ d_:=by kernel_rfl)(h1_:Cz P t:=by kernel_rfl)(po:pq P t n:=by kernel_rfl)(hS_:S_ w:=by exact sO):WT P N_ lK Q_ S_ T_ (f_+1) l_ ρ w:=ud i_ lG hB_ hS_ (fun W_ sU=>Gp (l:=l) (n:=n) (q1 (q3 lG)) h1_ po (q1 (q2 (q3 lG))) (q2 (q2 (q3 lG))) (hc W_ sU)) K_
theorem Ur(n:Nat){l:mb}(lG:E0 lK ρ o d_ N_ (o.op,ev ρ x) (.load t x,lJ b j))(hn:l.length=n)(hc:∀k u,l[k]?=some u->w.cell? ⟨b,j+k,none⟩=some u)(K_:WL P N_ lK Q_ mh (upd ρ d_ (.agg l.toArray)) w)(h1_:Cz P t:=by kernel_rfl)(po:pq P t n:=by kernel_rfl):WL P N_ lK Q_ (o::mh) ρ w:=oG lG (Gp (n:=n) (q1 (q3 lG)) h1_ po (q2 (q3 lG)) hn hc) K_
theorem Q7{cs:lW}(ho:o.op=.load t x)(ht:Cz P t)(hs:pq P t n)(hx:ev ρ x=lJ b 0)(hn:cs.size=n)(hc:mV w b T cs):lQ P ρ o w (.agg cs):=by have:=Gp (P:=P) (w:=w) (l:=cs.toList) ho ht hs hx (by simpa using hn) (fun k u hk=>by rw[kg,hc.cell];simpa using hk);simpa using this
theorem U1(n:Nat){cs:lW}(lG:E0 lK ρ o d_ N_ (o.op,ev ρ x,cs.size) (.load t x,lJ b 0,n))(hc:mV w b T cs)(K_:WL P N_ lK Q_ mh (upd ρ d_ (.agg cs)) w)(h1_:Cz P t:=by kernel_rfl)(po:pq P t n:=by kernel_rfl):WL P N_ lK Q_ (o::mh) ρ w:=oG lG (Q7 (n:=n) (q1 (q3 lG)) h1_ po (q1 (q2 (q3 lG))) (q2 (q2 (q3 lG))) hc) K_
theorem Q1{as:List Operand}{vs:mb}(ho:o.op=.call {callee:=.value (.func f),args:=as.toArray,argTypes:=ts})(hf:P.funcs[f]?=some fn)(hn:(fn.name== "runtime.NumGoroutine")=false)(hb:fn.body.isNone=false)(hv:as.map (ev ρ)=vs):
  (execOp (ev ρ) o).run P w=.ok (.enter f vs.toArray) w:=by
 simp[execOp,ho,resolve,ev,Deferred.ofValue,invoke,callFunc,hf,hn,hb,hv, -Option.isNone_eq_false_iff, -Option.isNone_iff_eq_none, -beq_iff_eq]
theorem V7{as:List Operand}(vs:mb)(lG:E0 lK ρ o d_ N_ (o.op) (.call {callee:=.value (.func f),args:=as.toArray,argTypes:=ts}))(hf:P.funcs[f]?=some fn)(h1_:@Eq _ ((fn.name== "runtime.NumGoroutine"),fn.body.isNone,as.map (ev ρ)) (false,false,vs))(K_:Calls P f vs.toArray w fun e_ w_=>∃v_,e_=.returned v_/\WL P N_ lK Q_ mh (upd ρ d_ v_) w_):WL P N_ lK Q_ (o::mh) ρ w:=z8 (q1 lG) (q1 (q2 lG)) (q1 (q2 (q2 lG))) (Q1 (vs:=vs) (q3 lG) hf (q1 h1_) (q1 (q2 h1_)) (q2 (q2 h1_))) K_
theorem Nz{as:List Operand}{vs first cap:mb}(ho:o.op=.call {callee:=.value z,args:=as.toArray,argTypes:=ts})(hz:ev ρ z=.func (.func f) first.toArray cap.toArray)(hf:P.funcs[f]?=some fn)(hn:(fn.name== "runtime.NumGoroutine")=false)(hb:fn.body.isNone=false)(hv:first++as.map (ev ρ)++cap=vs):
  (execOp (ev ρ) o).run P w=.ok (.enter f vs.toArray) w:=by
 simp[execOp,ho,resolve,hz,Deferred.ofValue,invoke,callFunc,hf,hn,hb,<-hv, -Option.isNone_eq_false_iff, -Option.isNone_iff_eq_none, -beq_iff_eq]
theorem auC(ho:o.op=.box t x)(hx:ev ρ x=u):(execOp (ev ρ) o).run P w=.ok (.value (lJ w.heap.size 0)) (w.alloc (.cells u.cells t)):=by simp[execOp,ho,hx,Instr.box,newVar,newRow]
theorem YA(ho:o.op=.alloc t)(hz:(P.info? t).bind (·.zero)=some u):(execOp (ev ρ) o).run P w=.ok (.value (lJ w.heap.size 0)) (w.alloc (.cells u.cells t)):=by
 cases hi:P.info? t with
 |none=>simp[hi]at hz|some i=>simp only[hi,iI]at hz;simp[execOp,ho,Instr.alloc,zeroValue,typeInfo,hi,hz,newVar,newRow]
end
open Go
section
variable{P:lY}{N:Nat}{aBi:nI}{Q:pg}{rest:List Oper}{ρ:lB}{o:Oper}{w0 w w':lE}{S:lF}{H:List lN}{d g t tt:Nat}{cs:lW}{v:lH}
theorem aiB{x:mN}(hI:ly S w0 w H)(hw:nH aBi ρ o)(hd:o.dst=some d)(hN:Nat.blt d N)(ho:o.op=.box t x)(hx:ev ρ x=u)(hu:u.cells=vs)
  (h:∀g w',Pure w w'->g=w.heap.size->ly S w0 w' (B g t vs::H)->WL P N aBi Q rest (upd ρ d<|lJ g 0) w'):WL P N aBi Q (o::rest) ρ w:=
 zi hw hd hN (auC ho hx) (h _ _ ((Pure.refl w).alloc _) rfl<|hu▸hI.box t u.cells)
theorem Tg{x:mN}(u:lH)(vs:lW)(hI:ly S w0 w H)(lG:E0 aBi ρ o d N (o.op,ev ρ x,u.cells) (.box t x,u,vs))(h1_:∀g w',Pure w w'->g=w.heap.size->ly S w0 w' (B g t vs::H)->WL P N aBi Q rest (upd ρ d (lJ g 0)) w'):WL P N aBi Q (o::rest) ρ w:=aiB (u:=u) (vs:=vs) hI (q1 lG) (q1 (q2 lG)) (q1 (q2 (q2 lG))) (q1 (q3 lG)) (q1 (q2 (q3 lG))) (q2 (q2 (q3 lG))) h1_
theorem aix(hI:ly S w0 w H)(hw:nH aBi ρ o)(hd:o.dst=some d)(hN:Nat.blt d N)(ho:o.op=.alloc t)(hz:(P.info? t).bind (·.zero)=some u)(hu:u.cells=vs)
  (h:∀g w',Pure w w'->g=w.heap.size->ly S w0 w' (B g t vs::H)->WL P N aBi Q rest (upd ρ d<|lJ g 0) w'):WL P N aBi Q (o::rest) ρ w:=
 zi hw hd hN (YA ho hz) (h _ _ ((Pure.refl w).alloc _) rfl<|hu▸hI.box t u.cells)
theorem T6(u:lH)(vs:lW)(hI:ly S w0 w H)(lG:E0 aBi ρ o d N (o.op,u.cells) (.alloc t,vs))(po:∀g w',Pure w w'->g=w.heap.size->ly S w0 w' (B g t vs::H)->WL P N aBi Q rest (upd ρ d (lJ g 0)) w')(h1_:(P.info? t).bind (·.zero)=some u:=by kernel_rfl):WL P N aBi Q (o::rest) ρ w:=aix (u:=u) (vs:=vs) hI (q1 lG) (q1 (q2 lG)) (q1 (q2 (q2 lG))) (q1 (q3 lG)) h1_ (q2 (q3 lG)) po
theorem run_store{x:mN}(ho:o.op=.store tt x y)(hx:ev ρ x=lJ g j)(hy:ev ρ y=u)(hu:u.cells=vs)(hs:pq P tt n)(hn:vs.size=n)
  (hB:mV w g t cs) (hj:j+n<=cs.size) (h1:vs.toList.all (·.oneCell')):(execOp (ev ρ) o).run P w=.ok .skip (w.setCells g j vs.toList):=by
 subst hu
 have mo:=run_storeCells_cells (P:=P) g j u.cells.toList 0 w (fun k hk=>by
   rw[j1,hB.cell];have:j+k<cs.size:=by simp at hk;omega
   simp[this]) (fun k hk=>hB.frozen _) (fun v hv=>iq.1 h1 v hv)
 simp only[j1]at mo;simp[execOp,ho,hx,hy,Instr.storeAt,Instr.sureAddr,storeVar,yZ hs,hn,mo]
theorem avi(h:cs.size=vs.size):sd cs 0 vs.toList=vs:=by apply kH;rw[Kv _ _ _ (by simp[h])];simp[h]
theorem Lb{x:mN}(i:Nat)(hi:H[i]?=some (B g t cs))(hI:ly S w0 w H)(hw:nH aBi ρ o)(hd:o.dst=none)(ho:o.op=.store tt x y)(hx:ev ρ x=lJ g 0)(hy:ev ρ y=u)(hu:u.cells=vs)
  (hs:pq P tt n) (hn:vs.size=n) (mL:cs.size=n) (h1:vs.toList.all (·.oneCell')) (h:∀w',ly S w0 w' (H.set i<|B g t vs)->WL P N aBi Q rest ρ w'):WL P N aBi Q (o::rest) ρ w:=by
 have hB:mV w g t cs:=(hI.ok _<|mZ hi).1;refine IQ hw hd (run_store ho hx hy hu hs hn hB aa h1)<|h _<|hI.upd i hi (mC.setCells (S:=(B g t cs).D) (b:=g) (.inl Z) _ _<|mC.refl (B g t cs).D w) (B.ok ?_)<|fun _ hk=>.inl hk;have:=hB.setCells vs.toList 0
 rwa [avi aa]at this
theorem sQ{x:mN}(i:Nat)(hi:H[i]?=some (B g t cs))(hI:ly S w0 w H)(hw:nH aBi ρ o)(hd:o.dst=none)(ho:o.op=.store tt x y)(hx:ev ρ x=lJ g j)(hy:ev ρ y=u)(hu:u.cells= #[u])
  (hs:pq P tt 1) (h1:u.oneCell') (hj:Nat.blt j cs.size) (hc:cs.setIfInBounds j u=cs') (h:∀w',ly S w0 w' (H.set i<|B g t cs')->WL P N aBi Q rest ρ w'):WL P N aBi Q (o::rest) ρ w:=by
 have hB:mV w g t cs:=(hI.ok _<|mZ hi).1;subst hc;exact IQ hw hd (run_store ho hx hy hu hs Z hB (fN hj)<|by simp[h1])<|h _<|hI.set i hi j u
theorem afC{x:mN}{sz:Nat}(ho:o.op=.slice t x (some y) none none)(ht:P.underlying t=some (.slice e))(hs:pq P e sz)(hx:ev ρ x=me g j n c)(hy:ev ρ y=.int k (i:Int))(hi:i<=n)(hc:i<c):
  lQ P ρ o w (me g (j+i*sz) (n-i)<|c-i):=by
 have h1:¬c=i:=aa;simp[lQ,execOp,ho,hx,hy,Instr.sliceAt,Instr.slice,Instr.sliceBounds,Instr.sliceBound,asIntOf,jD ht,yZ hs,hi,h1,jU]
theorem Rg{x:mN}{sz:Nat}(ho:o.op=.slice t x none (some y) none)(ht:P.underlying t=some (.slice e))(hs:pq P e sz)(hx:ev ρ x=.slice A n c)(hy:ev ρ y=.int k (i:Int))(hi:i<=c):
  lQ P ρ o w (.slice A i c):=by
 cases A with
 |none=>simp[lQ,execOp,ho,hx,hy,Instr.sliceAt,Instr.slice,Instr.sliceBounds,Instr.sliceBound,asIntOf,jD ht,yZ hs,hi]|some p=>
  have h0:p.add 0=p:=by simp[Addr.add]
  simp[lQ,execOp,ho,hx,hy,Instr.sliceAt,Instr.slice,Instr.sliceBounds,Instr.sliceBound,asIntOf,jD ht,yZ hs,hi,h0]
theorem aiE{x:mN}{i:TypeInfo}(hI:ly S w0 w H)(hw:nH aBi ρ o)(hd:o.dst=some d)(hN:Nat.blt d N)(ho:o.op=.makeSlice t x y)(hx:ev ρ x=lI n)(hy:ev ρ y=lI n)
  (ht:P.underlying t=some (.slice e)) (hi:P.info? e=some i) (hz:i.zero=some z) (pF:z.cells= #[z]) (hs:i.size=1) (hb:i.bytes*n<=281474976710656) (sS:n<=9223372036854775807)
  (h:∀g w',Pure w w'->g=w.heap.size->ly S w0 w' (B g e (rep z n)::H)->WL P N aBi Q rest (upd ρ d<|me g 0 n n) w'):WL P N aBi Q (o::rest) ρ w:=by
 have hr:=auF (P:=P) t e i z ht hi hz pF hs n hb sS w;exact zi hw hd hN (by simp[execOp,ho,hx,hy,hr])<|h _ _ ((Pure.refl w).alloc _) Z<|hI.box e<|rep z n
theorem ZW{x:mN}(hI:ly S w0 w H)(hw:nH aBi ρ o)(hd:o.dst=some d)(hN:Nat.blt d N)(ho:o.op=.makeSlice t x y)(hx:ev ρ x=lI n)(hy:ev ρ y=lI n)
  (ht:P.underlying t=some (.slice e)) (hi:(P.info? e).map (fun i=>(i.zero,i.size,i.bytes))=some (some z,1,by_)) (pF:z.cells= #[z]) (hb:by_*n<=281474976710656) (sS:n<=9223372036854775807)
  (h:∀g w',Pure w w'->g=w.heap.size->ly S w0 w' (B g e (rep z n)::H)->WL P N aBi Q rest (upd ρ d<|me g 0 n n) w'):WL P N aBi Q (o::rest) ρ w:=by
 cases hp:P.info? e with
 |none=>simp[hp]at hi|some i=>simp only[hp,jk,ia,jP]at hi;obtain⟨h1,h2,h3⟩:=hi;exact aiE hI hw hd hN ho hx hy ht hp h1 pF h2 (by rw[h3];exact hb) sS h
def afa(cs:mb)(o:Nat):List Value->List Value
 |[]=>cs|u::r=>afa (cs.set o u) (o+1) r
def Kf(cs:mb):List Nat->List (Nat×Value)->List Value
 |o::os,(_,v)::qs=>Kf (afa cs o v.cells.toList) os qs|_,_=>cs
theorem aiD{qs:vq}{vs:mb}(zs:mb)(os:nN)(hI:ly S w0 w H)(hw:nH aBi ρ o)(hd:o.dst=some d)(hN:Nat.blt d N)(ho:o.op=.buildSlice t n ps.toArray)(hq:(ps.map fun p=>(p.1,ev ρ p.2))=qs)(hv:Kf zs os qs=vs)(ht:P.underlying t=some (.slice e))
  (hr:∀w:lE,(Instr.buildSlice t n qs.toArray).run P w=.ok (me w.heap.size 0 n n) (w.alloc<|.cells vs.toArray e))
  (h:∀g w',Pure w w'->g=w.heap.size->ly S w0 w' (B g e vs.toArray::H)->WL P N aBi Q rest (upd ρ d<|me g 0 n n) w'):WL P N aBi Q (o::rest) ρ w:=by
 subst hq;refine zi hw hd hN ?_<|h _ _ ((Pure.refl w).alloc _) Z<|hI.box e vs.toArray;have:=hr w;simp only[execOp,ho];simp[this]
theorem T7(qs:vq)(vs:mb)(zs:mb)(os:nN)(hI:ly S w0 w H)(lG:E0 aBi ρ o d N (o.op,(ps.map fun p=>(p.1,ev ρ p.2)),Kf zs os qs) (.buildSlice t n ps.toArray,qs,vs))(ht:P.underlying t=some (.slice e))(hr:∀w:lE,(Instr.buildSlice t n qs.toArray).run P w=.ok (me w.heap.size 0 n n) (w.alloc (.cells vs.toArray e)))(h1_:∀g w',Pure w w'->g=w.heap.size->ly S w0 w' (B g e vs.toArray::H)->WL P N aBi Q rest (upd ρ d (me g 0 n n)) w'):WL P N aBi Q (o::rest) ρ w:=aiD (qs:=qs) (vs:=vs) zs os hI (q1 lG) (q1 (q2 lG)) (q1 (q2 (q2 lG))) (q1 (q3 lG)) (q1 (q2 (q3 lG))) (q2 (q2 (q3 lG))) ht hr h1_
theorem Ny{qs:vq}{vs:mb}(zs:mb)(os:nN)(ho:o.op=.build t ps.toArray)(hq:(ps.map fun p=>(p.1,ev ρ p.2))=qs)(hv:Kf zs os qs=vs)(hr:∀w:lE,(Instr.build t qs.toArray).run P w=.ok (.agg vs.toArray) w):lQ P ρ o w (.agg vs.toArray):=by subst hq;have:=hr w;simp only[lQ,execOp,ho];simp[this]
theorem Tf(qs:vq)(vs:mb)(lG:@Eq _ (nH lK ρ o,o.dst,Nat.blt d_ N_) (true,some d_,true))(zs:mb)(os:nN)(h1_:@Eq _ (o.op,(ps.map fun p=>(p.1,ev ρ p.2)),Kf zs os qs) (.build t ps.toArray,qs,vs))(hr:∀w:lE,(Instr.build t qs.toArray).run P w=.ok (.agg vs.toArray) w)(K_:WL P N_ lK Q_ mh (upd ρ d_ (.agg vs.toArray)) w):WL P N_ lK Q_ (o::mh) ρ w:=DM (q1 lG) (q1 (q2 lG)) (q2 (q2 lG)) (Ny (qs:=qs) (vs:=vs) zs os (q1 h1_) (q1 (q2 h1_)) (q2 (q2 h1_)) hr) K_
theorem Ub(i_:Nat)(qs:vq)(vs:mb)(lG:@Eq _ (lK[i_]?,o.dst,nH lK ρ o) (some o,some d_,true))(zs:mb)(os:nN)(h1_:@Eq _ (o.op,(ps.map fun p=>(p.1,ev ρ p.2)),Kf zs os qs) (.build t ps.toArray,qs,vs))(hr:∀W_,S_ W_->∀W_:lE,(Instr.build t qs.toArray).run P W_=.ok (.agg vs.toArray) W_)(K_:WT P N_ lK Q_ S_ T_ f_ (l_.setIfInBounds i_ true) (upd ρ d_ (.agg vs.toArray)) w)(hB_:qZ lK T_ N_ l_ i_ d_=true:=by kernel_rfl)(hS_:S_ w:=by exact sO):WT P N_ lK Q_ S_ T_ (f_+1) l_ ρ w:=Sj i_ (q1 lG) (q1 (q2 lG)) hB_ hS_ (q2 (q2 lG)) (fun W_ sU=>Ny (qs:=qs) (vs:=vs) zs os (q1 h1_) (q1 (q2 h1_)) (q2 (q2 h1_)) (hr W_ sU)) K_
theorem ly.c0(h:ly S w0 w (B g t cs::H))(hc:cs[j]?=some v):w.cell? ⟨g,j,none⟩=some v:=h.cell 0 rfl hc
theorem ly.g0{e:lN}(h:ly S w0 w (e::H)):e.Φ w:=(h.ok e (mZ (i:=0) rfl)).1
theorem ly.d0{e:lN}(h:ly S w0 w (e::H)):ly S w0 w (H):=h.erase 0
theorem ly.u0{e:lN}(h:ly S w0 w (e::H))(hc:mC e.D w w')(ho:e'.ok w')(hD:∀k,e'.D k->e.D k\/w.heap.size<=k):ly S w0 w' (e'::H):=h.upd 0 rfl hc ho hD
theorem Ou{x:mN}(hI:ly S w0 w (B g t cs::H))(hw:nH aBi ρ o)(hd:o.dst=none)(ho:o.op=.store tt x y)(hx:ev ρ x=lJ g 0)(hy:ev ρ y=u)(hu:u.cells=vs)(hs:pq P tt n)(hn:vs.size=n)(mL:cs.size=n)(h1:vs.toList.all (·.oneCell'))(h:∀w',ly S w0 w' (B g t vs::H)->WL P N aBi Q rest ρ w'):WL P N aBi Q (o::rest) ρ w:=Lb 0 rfl hI hw hd ho hx hy hu hs hn mL h1 h
theorem Ta{x:mN}(n:Nat)(vs:lW)(u:lH)(hI:ly S w0 w (B g t cs::H))(lG:@Eq _ (nH aBi ρ o,o.dst,o.op,ev ρ x,ev ρ y,u.cells,vs.size,cs.size,vs.toList.all (·.oneCell')) (true,none,.store tt x y,lJ g 0,u,vs,n,n,true))(po:∀w',ly S w0 w' (B g t vs::H)->WL P N aBi Q rest ρ w')(h1_:pq P tt n=true:=by kernel_rfl):WL P N aBi Q (o::rest) ρ w:=Ou (n:=n) (u:=u) (vs:=vs) hI (q1 lG) (q1 (q2 lG)) (q1 (q2 (q2 lG))) (q1 (q3 lG)) (q1 (q2 (q3 lG))) (q1 (q2 (q2 (q3 lG)))) h1_ (q1 (q2 (q2 (q2 (q3 lG))))) (q1 (q2 (q2 (q2 (q2 (q3 lG)))))) (q2 (q2 (q2 (q2 (q2 (q3 lG)))))) po
theorem xI{x:mN}(hI:ly S w0 w (B g t cs::H))(hw:nH aBi ρ o)(hd:o.dst=none)(ho:o.op=.store tt x y)(hx:ev ρ x=lJ g j)(hy:ev ρ y=u)(hu:u.cells= #[u])(hs:pq P tt 1)(h1:u.oneCell')(hj:Nat.blt j cs.size)(hc:cs.setIfInBounds j u=cs')(h:∀w',ly S w0 w' (B g t cs'::H)->WL P N aBi Q rest ρ w'):WL P N aBi Q (o::rest) ρ w:=sQ 0 rfl hI hw hd ho hx hy hu hs h1 hj hc h
theorem ly.c1(h:ly S w0 w (e0::B g t cs::H))(hc:cs[j]?=some v):w.cell? ⟨g,j,none⟩=some v:=h.cell 1 rfl hc
theorem ly.g1{e:lN}(h:ly S w0 w (e0::e::H)):e.Φ w:=(h.ok e (mZ (i:=1) rfl)).1
theorem ly.d1{e:lN}(h:ly S w0 w (e0::e::H)):ly S w0 w (e0::H):=h.erase 1
theorem DK{x:mN}(hI:ly S w0 w (e0::B g t cs::H))(hw:nH aBi ρ o)(hd:o.dst=none)(ho:o.op=.store tt x y)(hx:ev ρ x=lJ g 0)(hy:ev ρ y=u)(hu:u.cells=vs)(hs:pq P tt n)(hn:vs.size=n)(mL:cs.size=n)(h1:vs.toList.all (·.oneCell'))(h:∀w',ly S w0 w' (e0::B g t vs::H)->WL P N aBi Q rest ρ w'):WL P N aBi Q (o::rest) ρ w:=Lb 1 rfl hI hw hd ho hx hy hu hs hn mL h1 h
theorem Fv{x:mN}(hI:ly S w0 w (e0::B g t cs::H))(hw:nH aBi ρ o)(hd:o.dst=none)(ho:o.op=.store tt x y)(hx:ev ρ x=lJ g j)(hy:ev ρ y=u)(hu:u.cells= #[u])(hs:pq P tt 1)(h1:u.oneCell')(hj:Nat.blt j cs.size)(hc:cs.setIfInBounds j u=cs')(h:∀w',ly S w0 w' (e0::B g t cs'::H)->WL P N aBi Q rest ρ w'):WL P N aBi Q (o::rest) ρ w:=sQ 1 rfl hI hw hd ho hx hy hu hs h1 hj hc h
theorem ly.c2(h:ly S w0 w (e0::e1::B g t cs::H))(hc:cs[j]?=some v):w.cell? ⟨g,j,none⟩=some v:=h.cell 2 rfl hc
theorem ly.g2{e:lN}(h:ly S w0 w (e0::e1::e::H)):e.Φ w:=(h.ok e (mZ (i:=2) rfl)).1
theorem ly.s2(h:ly S w0 w (e0::e1::B g t cs::H))(j:Nat)(v:lH):ly S w0 (w.setCell ⟨g,j,none⟩ v) (e0::e1::B g t (cs.setIfInBounds j v)::H):=h.set 2 rfl j v
theorem ly.f2(h:ly S w0 w (e0::e1::B g t cs::H))(j:Nat):w.frozen? ⟨g,j,none⟩=false:=((h.ok (B g t cs) (mZ (i:=2) rfl)).1:mV w g t cs).frozen j
theorem ly.d2{e:lN}(h:ly S w0 w (e0::e1::e::H)):ly S w0 w (e0::e1::H):=h.erase 2
theorem ly.u2{e:lN}(h:ly S w0 w (e0::e1::e::H))(hc:mC e.D w w')(ho:e'.ok w')(hD:∀k,e'.D k->e.D k\/w.heap.size<=k):ly S w0 w' (e0::e1::e'::H):=h.upd 2 rfl hc ho hD
theorem Ow{x:mN}(hI:ly S w0 w (e0::e1::B g t cs::H))(hw:nH aBi ρ o)(hd:o.dst=none)(ho:o.op=.store tt x y)(hx:ev ρ x=lJ g 0)(hy:ev ρ y=u)(hu:u.cells=vs)(hs:pq P tt n)(hn:vs.size=n)(mL:cs.size=n)(h1:vs.toList.all (·.oneCell'))(h:∀w',ly S w0 w' (e0::e1::B g t vs::H)->WL P N aBi Q rest ρ w'):WL P N aBi Q (o::rest) ρ w:=Lb 2 rfl hI hw hd ho hx hy hu hs hn mL h1 h
theorem La{x:mN}(hI:ly S w0 w (e0::e1::B g t cs::H))(hw:nH aBi ρ o)(hd:o.dst=none)(ho:o.op=.store tt x y)(hx:ev ρ x=lJ g j)(hy:ev ρ y=u)(hu:u.cells= #[u])(hs:pq P tt 1)(h1:u.oneCell')(hj:Nat.blt j cs.size)(hc:cs.setIfInBounds j u=cs')(h:∀w',ly S w0 w' (e0::e1::B g t cs'::H)->WL P N aBi Q rest ρ w'):WL P N aBi Q (o::rest) ρ w:=sQ 2 rfl hI hw hd ho hx hy hu hs h1 hj hc h
theorem ly.g3{e:lN}(h:ly S w0 w (e0::e1::e2::e::H)):e.Φ w:=(h.ok e (mZ (i:=3) rfl)).1
theorem ly.d3{e:lN}(h:ly S w0 w (e0::e1::e2::e::H)):ly S w0 w (e0::e1::e2::H):=h.erase 3
theorem aiK{x:mN}(hI:ly S w0 w (e0::e1::e2::B g t cs::H))(hw:nH aBi ρ o)(hd:o.dst=none)(ho:o.op=.store tt x y)(hx:ev ρ x=lJ g 0)(hy:ev ρ y=u)(hu:u.cells=vs)(hs:pq P tt n)(hn:vs.size=n)(mL:cs.size=n)(h1:vs.toList.all (·.oneCell'))(h:∀w',ly S w0 w' (e0::e1::e2::B g t vs::H)->WL P N aBi Q rest ρ w'):WL P N aBi Q (o::rest) ρ w:=Lb 3 rfl hI hw hd ho hx hy hu hs hn mL h1 h
theorem ly.c4(h:ly S w0 w (e0::e1::e2::e3::B g t cs::H))(hc:cs[j]?=some v):w.cell? ⟨g,j,none⟩=some v:=h.cell 4 rfl hc
theorem ly.g4{e:lN}(h:ly S w0 w (e0::e1::e2::e3::e::H)):e.Φ w:=(h.ok e (mZ (i:=4) rfl)).1
theorem ly.d4{e:lN}(h:ly S w0 w (e0::e1::e2::e3::e::H)):ly S w0 w (e0::e1::e2::e3::H):=h.erase 4
theorem ly.c5(h:ly S w0 w (e0::e1::e2::e3::e4::B g t cs::H))(hc:cs[j]?=some v):w.cell? ⟨g,j,none⟩=some v:=h.cell 5 rfl hc
theorem ly.g5{e:lN}(h:ly S w0 w (e0::e1::e2::e3::e4::e::H)):e.Φ w:=(h.ok e (mZ (i:=5) rfl)).1
theorem ly.d5{e:lN}(h:ly S w0 w (e0::e1::e2::e3::e4::e::H)):ly S w0 w (e0::e1::e2::e3::e4::H):=h.erase 5
theorem ly.g6{e5:lN}{e:lN}(h:ly S w0 w (e0::e1::e2::e3::e4::e5::e::H)):e.Φ w:=(h.ok e (mZ (i:=6) rfl)).1
theorem ly.d6{e5:lN}{e:lN}(h:ly S w0 w (e0::e1::e2::e3::e4::e5::e::H)):ly S w0 w (e0::e1::e2::e3::e4::e5::H):=h.erase 6
theorem ZY{e5:lN}{x:mN}(hI:ly S w0 w (e0::e1::e2::e3::e4::e5::B g t cs::H))(hw:nH aBi ρ o)(hd:o.dst=none)(ho:o.op=.store tt x y)(hx:ev ρ x=lJ g 0)(hy:ev ρ y=u)(hu:u.cells=vs)(hs:pq P tt n)(hn:vs.size=n)(mL:cs.size=n)(h1:vs.toList.all (·.oneCell'))(h:∀w',ly S w0 w' (e0::e1::e2::e3::e4::e5::B g t vs::H)->WL P N aBi Q rest ρ w'):WL P N aBi Q (o::rest) ρ w:=Lb 6 rfl hI hw hd ho hx hy hu hs hn mL h1 h
theorem Wi{aBo:Nat}{aBj:pe}{T:nN}(hI:ly S w0 w H)(h:∀Sx:oQ,(∀W,Sx W->ly S w0 W H)->(∀W,ly S w0 W H->Sx W)->WT P N aBi Q Sx T aBo aBj ρ w):WA P N aBi Q aBo aBj ρ w:=ZS (fun W=>ly S w0 W H) T (h _ (fun _ h=>h)<|fun _ h=>h)
theorem axj(h:ρ d=v):ρ=upd ρ d v:=by
 funext i;unfold upd;cases hb:Nat.beq i d with
 |false=>rfl|true=>rw[fM hb];exact h
end
theorem ly.EE{g:Nat}{cs:lW}(h:mV w g t cs):ly (fun k=>k=g) w w [B g t cs]:=⟨mC.refl _ w,fun e he=>by rcases gF.1 he with rfl;exact B.ok h,fun e he k hk=>by rcases gF.1 he with rfl;exact .inl hk,eZ ..⟩
def lA(ρ:lB):List (Nat×Value)->Prop
 |[]=>True|p::l=>ρ p.1=p.2/\lA ρ l
def NV(σ:lB):List (Nat×Value)->lB
 |[]=>σ|p::l=>upd (NV σ l) p.1 p.2
theorem lA.self{ρ:lB}:∀{l:vq},lA ρ l->NV ρ l=ρ
 |[],_=>rfl|p::l,h=>by show upd (NV ρ l) p.1 p.2=ρ;rw[lA.self h.2];exact(axj h.1).symm
theorem lA.open{l:vq}(h:lA ρ l):∃σ,ρ=NV σ l:=⟨ρ,h.self.symm⟩
theorem Yc{P:lY}{ρ:lB}{w:lE}{o:Oper}{x:mN}{n:Int}{g j:Nat}{TT:lT}{cs:lW}{S:lF}{w0:lE}{H:List lN}{N_ d_:Nat}{lK:nI}{Q_:pg}{mh:List Oper}{t:Nat}(hI:ly S w0 w (B g TT cs::H))(lG:@Eq _ (nH lK ρ o,o.dst,Nat.blt d_ N_,o.op,ev ρ x) (true,some d_,true,.load t x,lJ g j))(hc:cs[j]?=some (Y n))(K_:WL P N_ lK Q_ mh (upd ρ d_ (Y n)) w)(h1_:yW P t=true:=by kernel_rfl):WL P N_ lK Q_ (o::mh) ρ w:=V4 (Y n) lG (hI.c0 hc) K_ h1_
theorem Yd{P:lY}{ρ:lB}{w:lE}{o:Oper}{x:mN}{n:Int}{g j:Nat}{TT:lT}{cs:lW}{S:lF}{w0:lE}{H:List lN}{e0:lN}{N_ d_:Nat}{lK:nI}{Q_:pg}{mh:List Oper}{t:Nat}(hI:ly S w0 w (e0::B g TT cs::H))(lG:@Eq _ (nH lK ρ o,o.dst,Nat.blt d_ N_,o.op,ev ρ x) (true,some d_,true,.load t x,lJ g j))(hc:cs[j]?=some (Y n))(K_:WL P N_ lK Q_ mh (upd ρ d_ (Y n)) w)(h1_:yW P t=true:=by kernel_rfl):WL P N_ lK Q_ (o::mh) ρ w:=V4 (Y n) lG (hI.c1 hc) K_ h1_
theorem lL{K C:oQ}{w0:lE}{H:List lN}{S:lF}(h:∀W,K W->ly S w0 W H)(f:∀{W:lE},ly S w0 W H->C W):∀W,K W->C W:=fun W q=>f (h W q)
theorem Yo{K:oQ}{w0:lE}{H:List lN}{p:Addr}{v:lH}(h:∀W,K W->ly NF w0 W H)(hv:w0.cell? p=some v):∀W,K W->W.cell? p=some v:=fun W hW=>(h W hW).my hv
theorem Ye{P:lY}{ρ:lB}{w:lE}{o:Oper}{x:mN}(i_:Nat){n:Int}{g j:Nat}{TT:lT}{cs:lW}{S:lF}{w0:lE}{H:List lN}(hY:∀W,S_ W->ly S w0 W (B g TT cs::H)){t:Nat}(lG:@Eq _ (lK[i_]?,o.dst,nH lK ρ o,o.op,ev ρ x) (some o,some d_,true,.load t x,lJ g j))(hc:cs[j]?=some (Y n))(K_:WT P N_ lK Q_ S_ T_ f_ (l_.setIfInBounds i_ true) (upd ρ d_ (Y n)) w)(hB_:qZ lK T_ N_ l_ i_ d_=true:=by kernel_rfl)(h1_:yW P t=true:=by kernel_rfl)(hS_:S_ w:=by exact sO):WT P N_ lK Q_ S_ T_ (f_+1) l_ ρ w:=V9 i_ (Y n) lG (fun W hW=>(hY W hW).c0 hc) K_ (hB_:=hB_) (h1_:=h1_) (hS_:=hS_)
theorem Yi{id:Nat}{P:lY}{N:Nat}{aBi:nI}{Q:pg}{ρ:lB}{w w0:lE}{S:lF}{H:List lN}(hI:ly S w0 w H)(h:∀Sx:oQ,(∀W,Sx W->ly S w0 W H)->(∀W,ly S w0 W H->Sx W)->ly S w0 w.drew H->WT P N aBi Q Sx [] aBi.size (Array.replicate aBi.size false) ρ w.drew)(hm:P.follows .mixedOrders:=by kernel_rfl):W P N (.region id aBi true) Q ρ w:=Wd hm (Wi hI.drew fun Sx a b=>h Sx a b hI.drew)
theorem Yj{id:Nat}{P:lY}{N:Nat}{aBi:nI}{Q:pg}{ρ:lB}{w w0:lE}{S:lF}{H:List lN}(T:nN)(hI:ly S w0 w H)(h:∀Sx:oQ,(∀W,Sx W->ly S w0 W H)->(∀W,ly S w0 W H->Sx W)->ly S w0 w.drew H->WT P N aBi Q Sx T aBi.size (Array.replicate aBi.size false) ρ w.drew)(hm:P.follows .mixedOrders:=by kernel_rfl):W P N (.region id aBi true) Q ρ w:=Wd hm (Wi (T:=T) hI.drew fun Sx a b=>h Sx a b hI.drew)
theorem Yz{P:lY}{N:Nat}{aBi:nI}{Q:pg}{ρ:lB}{w:lE}{S:oQ}{T:nN}{aBo:Nat}{aBj:pe}(h:Q .normal ρ w)(hr:Region.ready .any aBi aBj=[]:=by kernel_rfl):WT P N aBi Q S T aBo aBj ρ w:=We hr h
theorem Yt{P:lY}{N:Nat}{aBi:nI}{Q:pg}{ρ:lB}{w:lE}{c:mN}{x y:Code}(hc:ev ρ c=.bool true)(h:W P N (cond true x y) Q ρ w):WL P N aBi (vS (fun ρ w=>W P N (.cond c x y) Q ρ w) Q) [] ρ w:=Wn (Wc true hc h)
theorem Yf{P:lY}{N:Nat}{aBi:nI}{Q:pg}{ρ:lB}{w:lE}{c:mN}{x y:Code}(hc:ev ρ c=.bool false)(h:W P N (cond false x y) Q ρ w):WL P N aBi (vS (fun ρ w=>W P N (.cond c x y) Q ρ w) Q) [] ρ w:=Wn (Wc false hc h)
theorem Yu{P:lY}{N:Nat}{aBi:nI}{Q:pg}{ρ:lB}{w:lE}{c:mN}{x y z:Code}(hc:ev ρ c=.bool true)(h:W P N (cond true x y) (vS (fun ρ w=>W P N z Q ρ w) Q) ρ w):WL P N aBi (vS (fun ρ w=>W P N (.seq (.cond c x y) z) Q ρ w) Q) [] ρ w:=Wn (Ws (Wc true hc h))
theorem Yg{P:lY}{N:Nat}{aBi:nI}{Q:pg}{ρ:lB}{w:lE}{c:mN}{x y z:Code}(hc:ev ρ c=.bool false)(h:W P N (cond false x y) (vS (fun ρ w=>W P N z Q ρ w) Q) ρ w):WL P N aBi (vS (fun ρ w=>W P N (.seq (.cond c x y) z) Q ρ w) Q) [] ρ w:=Wn (Ws (Wc false hc h))
theorem zu{ρ:lB}{a0:Nat}:lA ρ [(a0,ρ a0)]:=⟨rfl,trivial⟩
theorem yD{ρ:lB}{a0 a1:Nat}:lA ρ [(a0,ρ a0),(a1,ρ a1)]:=⟨rfl,zu⟩
theorem sf{ρ:lB}{a0 a1 a2:Nat}:lA ρ [(a0,ρ a0),(a1,ρ a1),(a2,ρ a2)]:=⟨rfl,yD⟩
theorem oy{ρ:lB}{a0 a1 a2 a3:Nat}:lA ρ [(a0,ρ a0),(a1,ρ a1),(a2,ρ a2),(a3,ρ a3)]:=⟨rfl,sf⟩
theorem ug{ρ:lB}{a0 a1 a2 a3 a4:Nat}:lA ρ [(a0,ρ a0),(a1,ρ a1),(a2,ρ a2),(a3,ρ a3),(a4,ρ a4)]:=⟨rfl,oy⟩
theorem xe{ρ:lB}{a0 a1 a2 a3 a4 a5:Nat}:lA ρ [(a0,ρ a0),(a1,ρ a1),(a2,ρ a2),(a3,ρ a3),(a4,ρ a4),(a5,ρ a5)]:=⟨rfl,ug⟩
theorem O6{ρ:lB}{a0 a1 a2 a3 a4 a5 a6:Nat}:lA ρ [(a0,ρ a0),(a1,ρ a1),(a2,ρ a2),(a3,ρ a3),(a4,ρ a4),(a5,ρ a5),(a6,ρ a6)]:=⟨rfl,xe⟩
theorem yE{ρ:lB}{a0 a1 a2 a3 a4 a5 a6 a7:Nat}:lA ρ [(a0,ρ a0),(a1,ρ a1),(a2,ρ a2),(a3,ρ a3),(a4,ρ a4),(a5,ρ a5),(a6,ρ a6),(a7,ρ a7)]:=⟨rfl,O6⟩
theorem g9_{ρ:lB}{a0 a1 a2 a3 a4 a5 a6 a7 a8:Nat}:lA ρ [(a0,ρ a0),(a1,ρ a1),(a2,ρ a2),(a3,ρ a3),(a4,ρ a4),(a5,ρ a5),(a6,ρ a6),(a7,ρ a7),(a8,ρ a8)]:=⟨rfl,yE⟩
theorem Ha{ρ:lB}{a0 a1 a2 a3 a4 a5 a6 a7 a8 a9:Nat}:lA ρ [(a0,ρ a0),(a1,ρ a1),(a2,ρ a2),(a3,ρ a3),(a4,ρ a4),(a5,ρ a5),(a6,ρ a6),(a7,ρ a7),(a8,ρ a8),(a9,ρ a9)]:=⟨rfl,g9_⟩
def cnt:Value->Nat
 |.int _ n=>n.toNat|_=>0
theorem lN.C8{D:lF}{Φ:oQ}(h:Φ w)(hD:∀k,D k->k<w.heap.size)(hc:∀(S:lF) (w1 w2:lE),mC S w1 w2->(∀k,D k->¬S k)->Φ w1->Φ w2):lN.ok ⟨D,Φ⟩ w:=⟨h,hD,hc⟩
open Go
section
variable{P:lY}{ρ:lB}{o:Oper}{w:lE}{x y z:mN}{v:lH}{t t':lT}
theorem wrap_u64(h:n<18446744073709551616):IntKind.u64.wrap (n:Int)=n:=by simp[IntKind.wrap,IntKind.signed,IntKind.bits];omega
theorem EH{s d:lT}{k':IntKind}{ds:TypeDesc}{n:Int}(ho:o.op=.convert s d x)(hs:P.underlying s=some ds)(hd:P.underlying d=some (.int k))(hx:ev ρ x=.int k' n):lQ P ρ o w (.int k (k.wrap n)):=by simp[lQ,execOp,ho,hx,convert,jD hs,jD hd,Conv.intToInt]
theorem att{s d:lT}{k':IntKind}{ds:TypeDesc}(ho:o.op=.convert s d x)(hs:P.underlying s=some ds)(hd:P.underlying d=some (.int .u64))(hx:ev ρ x=.int k' (n:Int))(h:n<18446744073709551616):lQ P ρ o w (.int .u64 (n:Int)):=by
 have:=EH (P:=P) (w:=w) ho hs hd hx
 rwa [wrap_u64 h]at this
theorem afg{op:BinOp}{b:Int}{r:BitVec k.bits->BitVec k.bits->BitVec k.bits}(ho:o.op=.binOp op t x y t')(hx:ev ρ x=.int k a)(hy:ev ρ y=.int k b)(hr:(match op with|.and=>some (fun p q:BitVec k.bits=>p&&& q)|.or=>some (fun p q=>p|||q)|.xor=>some (fun p q=>p ^^^ q)|_=>none)=some r):
  lQ P ρ o w (.int k<|k.wrap (r (BitVec.ofInt k.bits a)<|BitVec.ofInt k.bits b).toNat):=by
 cases op<;>simp at hr<;>subst hr<;>simp[lQ,execOp,ho,hx,hy,eqGuard,binOp,Op.intBits]
theorem atO{k':IntKind}{c:Int}(ho:o.op=.binOp .shr t x y t')(hx:ev ρ x=.int k a)(hy:ev ρ y=.int k' c)(hc:0<=c):lQ P ρ o w (.int k (a.fdiv (2 ^ min c.toNat k.bits))):=by have:¬c<0:=aa;simp[lQ,execOp,ho,hx,hy,eqGuard,binOp,Op.shift,this]
theorem atG(ho:o.op=.unOp .neg t x)(hx:ev ρ x=.int k a):lQ P ρ o w (.int k (k.wrap (0-a))):=by simp[lQ,execOp,ho,hx,Op.unary,Op.intArith]
theorem Rf{b:Int}(ho:o.op=.binOp .quo t x y t')(hx:ev ρ x=.int k a)(hy:ev ρ y=.int k b)(hb:b≠0):lQ P ρ o w (.int k (k.wrap (a.tdiv b))):=cI
theorem Yl{b:Int}(ho:o.op=.binOp .rem t x y t')(hx:ev ρ x=.int k a)(hy:ev ρ y=.int k b)(hb:b≠0):lQ P ρ o w (.int k (a.tmod b)):=cI
theorem afy(ho:o.op=.nilCheck x)(hx:ev ρ x=.pointer (some p)):lQ P ρ o w (.pointer (some p)):=by simp[lQ,execOp,ho,hx]
theorem Ve(lG:E0 lK ρ o d_ N_ (o.op,ev ρ x) (.nilCheck x,.pointer (some p)))(K_:WL P N_ lK Q_ mh (upd ρ d_ (.pointer (some p))) w):WL P N_ lK Q_ (o::mh) ρ w:=oG lG (afy (q1 (q3 lG)) (q2 (q3 lG))) K_
theorem Vk(i_:Nat)(lG:E1 lK ρ o i_ d_ (o.op,ev ρ x) (.nilCheck x,.pointer (some p)))(K_:WT P N_ lK Q_ S_ T_ f_ (l_.setIfInBounds i_ true) (upd ρ d_ (.pointer (some p))) w)(hB_:qZ lK T_ N_ l_ i_ d_:=by kernel_rfl)(hS_:S_ w:=by exact sO):WT P N_ lK Q_ S_ T_ (f_+1) l_ ρ w:=ud i_ lG hB_ hS_ (fun W_ sU=>afy (q1 (q3 lG)) (q2 (q3 lG))) K_
theorem EJ{sz g:Nat}{zz:Int}(ho:o.op=.indexAddr t x y)(ht:P.underlying t=some (.array n e))(hs:pq P e sz)(hx:ev ρ x=lJ g j)(hy:ev ρ y=.int k zz)(hz:zz=(i:Int))(hi:i<n):
  lQ P ρ o w (lJ g<|j+i*sz):=by
 subst hz;have mr:(i:Int)<(n:Int):=aa;simp[lQ,execOp,ho,hx,hy,Instr.indexAt,asIntOf,Instr.sureAddr,jD ht,yZ hs,hi,Addr.add]
theorem QZ{c' sz:Nat}{A':lO}(ho:o.op=.call {callee:=.builtin .append,args:= #[x,y],argTypes:= #[t,t]})(ht:P.underlying t=some (.slice e))(hs:pq P e sz)(hx:ev ρ x=.slice A n c)(hy:ev ρ y=.slice A' 0 c')(hn:n<=c):lQ P ρ o w (.slice A n c):=by cases A<;>cases A'<;>simp[lQ,execOp,ho,resolve,invoke,builtin,hx,hy,Builtin.append_,jD ht,yZ hs,Builtin.lenOf,Builtin.firstCells,storeCells,loadCells,loadCellsFrom,hn]
theorem afD{sz:Nat}{K:IntKind}(ho:o.op=.slice t x (some y) none none)(ht:P.underlying t=some (.slice e))(hs:pq P e sz)(hx:ev ρ x=.slice A n c)(hy:ev ρ y=.int K (i:Int))(hi:i<=n):
  lQ P ρ o w (.slice (if c=i then A else A.map (·.add (i*sz))) (n-i)<|c-i):=by
 simp[lQ,execOp,ho,hx,hy,Instr.sliceAt,Instr.slice,Instr.sliceBounds,Instr.sliceBound,asIntOf,jD ht,yZ hs,hi]
end
theorem EM{g:Nat}{cs:lW}{e:Exit}{a s:Tmp}(he:e=.normal\/e=.ret)(hr:fn.results= #[.cell a t,.tmp s])(ha:ρ a=lJ g 0)(ht:Cz P t)(hs:pq P t n)(hn:cs.size=n)(hb:mV w g T cs)(h:R (.returned (.tuple #[.agg cs,ρ s])) w):sL P fn R e ρ w:=by
 have h1:=run_loadCellsFrom (P:=P) (b:=g) (w:=w) cs.toList 0 0 #[] (fun k u hk=>by rw[kg,kg,hb.cell];simpa using hk);have PU:cs.toList.length=n:=by simpa using hn
 rw[PU]at h1;refine aun he fun b sV=>⟨_,?_,h⟩
 have h2:=sV.get a;have h3:=sV.get s;rw[ha]at h2;simp only[ed]at h2 h3;simp[results,hr,h2,h3,asAddr,loadVar,agi ht,yZ hs,loadCells,h1]
theorem Up{g:Nat}(t:Nat){cs:lW}{e:Exit}{a:Tmp}{s:Tmp}(n:Nat)(he:e=.normal\/e=.ret)(lG:@Eq _ (fn.results,ρ a,cs.size) (#[.cell a t,.tmp s],lJ g 0,n))(hb:mV w g T cs)(xR:R (.returned (.tuple #[.agg cs,ρ s])) w)(h1_:Cz P t=true:=by kernel_rfl)(po:pq P t n=true:=by kernel_rfl):sL P fn R e ρ w:=EM (n:=n) (t:=t) he (q1 lG) (q1 (q2 lG)) h1_ po (q2 (q2 lG)) hb xR
def lz(base e size:Nat)(A:lO)(n c:Nat)(xs:mb):lN:=⟨fun k=>A.map (·.block)=some k,fun w=>w.ownsRow base e size (.slice A n c) n xs⟩
theorem EF(A:lO)(n c:Nat):(Value.slice A n c).ownBlock=A.map (·.block):=by cases A<;>rfl
theorem lz.ok{size:Nat}(h:w.ownsRow base e size (.slice A n c) n xs):(lz base e size A n c xs).ok w:=by
 refine lN.C8 h (fun k hk=>?_)<|fun S w1 w2 hc hS h1=>?_
 .rcases h.2 with⟨hv,_⟩|⟨g,cap,aBl,hv,_,hh,_⟩
  .injection hv with hv;subst hv;simp at hk
  injection hv with hv;subst hv;simp at hk;subst hk;exact mV.lt (t:=e) (cs:=aBl) hh
 refine⟨h1.1,?_⟩;rcases h1.2 with h2|⟨g,cap,aBl,hv,hg,hh,h3⟩
 .exact .inl h2
 injection hv with hv _ W2;subst hv W2;exact .inr ⟨g,_,aBl,Z,hg,(mV.ni (t:=e) (cs:=aBl) hh hc<|hS g Z),h3⟩
theorem lz.nil(w:lE)(base e size:Nat):(lz base e size none 0 0 []).ok w:=lz.ok (World.ownsRow_nil w base e size)
theorem lz.HZ{g size:Nat}{cs:lW}(h:mV w g e cs)(hb:base<=g)(hn:cs.size=n*size)(hm:n<=9223372036854775807):(lz base e size (some ⟨g,0,none⟩) n n cs.toList).ok w:=lz.ok ⟨by simpa using hn,.inr ⟨g,n,cs,rfl,hb,h,ku _,hm,hn,by rw[fq];simp[hn]⟩⟩
section
variable{P:lY}{N:Nat}{aBi:nI}{Q:pg}{rest:List Oper}{ρ:lB}{o:Oper}{w0 w:lE}{S:lF}{H:List lN}{d t:Nat}
theorem IN{x:mN}{size m c2:Nat}{aBp:mb}(i:Nat)(hi:H[i]?=some (lz base e size A n c xs))(hI:ly S w0 w H)(hw:nH aBi ρ o)(hd:o.dst=some d)(hN:Nat.blt d N)
  (ho:o.op=.call {callee:=.builtin .append,args:= #[x,y],argTypes:= #[t,t]}) (hx:ev ρ x=.slice A n c) (hy:ev ρ y=me b j m c2) (ht:P.underlying t=some (.slice e))
  (pE:(P.info? e).map (fun i=>(i.zero,i.size,i.bytes))=some (some z,size,by_)) (pF:z.cells.size=size) (mR:0<size) (aBn:aBp.length=m*size) (xW:∀k u,aBp[k]?=some u->w.cell? ⟨b,j+k,none⟩=some u) (h1:aBp.all (·.oneCell'))
  (sS:n+m<=9223372036854775807) (xT:(n+m)*by_<=140737488355328) (sF:base<=w.heap.size)
  (h:∀A' c' w',n+m<=c'->c'<=9223372036854775807->ly S w0 w' (H.set i<|lz base e size A' (n+m) c'<|xs++aBp)->WL P N aBi Q rest (upd ρ d<|.slice A' (n+m) c') w'):WL P N aBi Q (o::rest) ρ w:=by
 cases hp:P.info? e with
 |none=>simp[hp]at pE|some q=>
  simp only[hp,jk,ia,jP]at pE;obtain⟨q1,q2,q3⟩:=pE;have qc:w.ownsRow base e size (.slice A n c) n xs:=(hI.ok _<|mZ hi).1;have⟨v',w',nK,r1,r2,_,r3⟩:=run_append_own_at (P:=P) w base t o.type e q z size by_ ht hp q1 q2 q3 pF mR (.slice A n c) n xs qc ⟨b,j,none⟩ m c2 aBp aBn (fun k u hk=>by rw[jU];exact xW k u hk) (iq.1 h1) (by simpa[maxLen]using sS) xT sF;have aog:∃A' c',v'=.slice A' (n+m) c'/\n+m<=c'/\c'<=9223372036854775807:=(Rd.wP (D:=fun _=>True) r1<|fun _ _ _=>trivial).form;obtain⟨A',c',rfl,oT,rJ⟩:=aog;refine zi hw hd hN (v:=.slice A' (n+m) c') (w':=w') (by simp[execOp,ho,resolve,invoke,builtin,hx,hy,nK])<|h A' c' w' oT rJ<|hI.upd i hi ((mC.refl _ w).grown r2<|fun k hk=>.inl ?_) (lz.ok r1)<|fun k hk=>?_
  .rw[EF]at hk;exact hk
  rw[EF,EF]at r3;have nY:A'.map (·.block)=some k:=hk;rcases r3 with r3|r3
  .exact .inl (show A.map (·.block)=some k by rw[<-r3];exact nY)
  rw[nY]at r3;injection r3 with r3;exact .inr aa
theorem K8{x:mN}{size m c2:Nat}{aBp:mb}(hI:ly S w0 w (lz base e size A n c xs::H))(hw:nH aBi ρ o)(hd:o.dst=some d)(hN:Nat.blt d N)
  (ho:o.op=.call {callee:=.builtin .append,args:= #[x,y],argTypes:= #[t,t]}) (hx:ev ρ x=.slice A n c) (hy:ev ρ y=me b j m c2) (ht:P.underlying t=some (.slice e))
  (pE:(P.info? e).map (fun i=>(i.zero,i.size,i.bytes))=some (some z,size,by_)) (pF:z.cells.size=size) (mR:0<size) (aBn:aBp.length=m*size) (xW:∀k u,aBp[k]?=some u->w.cell? ⟨b,j+k,none⟩=some u) (h1:aBp.all (·.oneCell'))
  (sS:n+m<=9223372036854775807) (xT:(n+m)*by_<=140737488355328) (sF:base<=w.heap.size)
  (h:∀A' c' w',n+m<=c'->c'<=9223372036854775807->ly S w0 w' (lz base e size A' (n+m) c' (xs++aBp)::H)->WL P N aBi Q rest (upd ρ d<|.slice A' (n+m) c') w'):WL P N aBi Q (o::rest) ρ w:=
 IN 0 rfl hI hw hd hN ho hx hy ht pE pF mR aBn xW h1 sS xT sF h
theorem ZT{x:mN}{size m c2:Nat}{aBp:mb}(hI:ly S w0 w (e0::lz base e size A n c xs::H))(hw:nH aBi ρ o)(hd:o.dst=some d)(hN:Nat.blt d N)
  (ho:o.op=.call {callee:=.builtin .append,args:= #[x,y],argTypes:= #[t,t]}) (hx:ev ρ x=.slice A n c) (hy:ev ρ y=me b j m c2) (ht:P.underlying t=some (.slice e))
  (pE:(P.info? e).map (fun i=>(i.zero,i.size,i.bytes))=some (some z,size,by_)) (pF:z.cells.size=size) (mR:0<size) (aBn:aBp.length=m*size) (xW:∀k u,aBp[k]?=some u->w.cell? ⟨b,j+k,none⟩=some u) (h1:aBp.all (·.oneCell'))
  (sS:n+m<=9223372036854775807) (xT:(n+m)*by_<=140737488355328) (sF:base<=w.heap.size)
  (h:∀A' c' w',n+m<=c'->c'<=9223372036854775807->ly S w0 w' (e0::lz base e size A' (n+m) c' (xs++aBp)::H)->WL P N aBi Q rest (upd ρ d<|.slice A' (n+m) c') w'):WL P N aBi Q (o::rest) ρ w:=
 IN 1 rfl hI hw hd hN ho hx hy ht pE pF mR aBn xW h1 sS xT sF h
theorem Tz{x:mN}{size:Nat}{m:Nat}{c2:Nat}(by_:Nat){aBp:mb}(z:lH)(hI:ly S w0 w (e0::lz base e size A n c xs::H))(lG:E0 aBi ρ o d N (o.op,ev ρ x,ev ρ y) (.call {callee:=.builtin .append,args:= #[x,y],argTypes:= #[t,t]},.slice A n c,me b j m c2))(ht:P.underlying t=some (.slice e))(po:z.cells.size=size)(aBn:aBp.length=m*size)(xW:∀k u,aBp[k]?=some u->w.cell? ⟨b,j+k,none⟩=some u)(h1:aBp.all (·.oneCell'))(sF:base<=w.heap.size)(h6_:∀A' c' w',n+m<=c'->c'<=9223372036854775807->ly S w0 w' (e0::lz base e size A' (n+m) c' (xs++aBp)::H)->WL P N aBi Q rest (upd ρ d (.slice A' (n+m) c')) w')(h1_:(P.info? e).map (fun i=>(i.zero,i.size,i.bytes))=some (some z,size,by_):=by kernel_rfl)(xR:0<size:=by omega)(h4_:n+m<=9223372036854775807:=by omega)(h5_:(n+m)*by_<=140737488355328:=by omega):WL P N aBi Q (o::rest) ρ w:=ZT (by_:=by_) (z:=z) hI (q1 lG) (q1 (q2 lG)) (q1 (q2 (q2 lG))) (q1 (q3 lG)) (q1 (q2 (q3 lG))) (q2 (q2 (q3 lG))) ht h1_ po xR aBn xW h1 h4_ h5_ sF h6_
theorem GU{x:mN}{size m c2:Nat}{aBp:mb}(hI:ly S w0 w (e0::e1::lz base e size A n c xs::H))(hw:nH aBi ρ o)(hd:o.dst=some d)(hN:Nat.blt d N)
  (ho:o.op=.call {callee:=.builtin .append,args:= #[x,y],argTypes:= #[t,t]}) (hx:ev ρ x=.slice A n c) (hy:ev ρ y=me b j m c2) (ht:P.underlying t=some (.slice e))
  (pE:(P.info? e).map (fun i=>(i.zero,i.size,i.bytes))=some (some z,size,by_)) (pF:z.cells.size=size) (mR:0<size) (aBn:aBp.length=m*size) (xW:∀k u,aBp[k]?=some u->w.cell? ⟨b,j+k,none⟩=some u) (h1:aBp.all (·.oneCell'))
  (sS:n+m<=9223372036854775807) (xT:(n+m)*by_<=140737488355328) (sF:base<=w.heap.size)
  (h:∀A' c' w',n+m<=c'->c'<=9223372036854775807->ly S w0 w' (e0::e1::lz base e size A' (n+m) c' (xs++aBp)::H)->WL P N aBi Q rest (upd ρ d<|.slice A' (n+m) c') w'):WL P N aBi Q (o::rest) ρ w:=
 IN 2 rfl hI hw hd hN ho hx hy ht pE pF mR aBn xW h1 sS xT sF h
theorem Si{x:mN}{size m c2:Nat}{aBp:mb}(hI:ly S w0 w (e0::e1::e2::lz base e size A n c xs::H))(hw:nH aBi ρ o)(hd:o.dst=some d)(hN:Nat.blt d N)
  (ho:o.op=.call {callee:=.builtin .append,args:= #[x,y],argTypes:= #[t,t]}) (hx:ev ρ x=.slice A n c) (hy:ev ρ y=me b j m c2) (ht:P.underlying t=some (.slice e))
  (pE:(P.info? e).map (fun i=>(i.zero,i.size,i.bytes))=some (some z,size,by_)) (pF:z.cells.size=size) (mR:0<size) (aBn:aBp.length=m*size) (xW:∀k u,aBp[k]?=some u->w.cell? ⟨b,j+k,none⟩=some u) (h1:aBp.all (·.oneCell'))
  (sS:n+m<=9223372036854775807) (xT:(n+m)*by_<=140737488355328) (sF:base<=w.heap.size)
  (h:∀A' c' w',n+m<=c'->c'<=9223372036854775807->ly S w0 w' (e0::e1::e2::lz base e size A' (n+m) c' (xs++aBp)::H)->WL P N aBi Q rest (upd ρ d<|.slice A' (n+m) c') w'):WL P N aBi Q (o::rest) ρ w:=
 IN 3 rfl hI hw hd hN ho hx hy ht pE pF mR aBn xW h1 sS xT sF h
theorem aiy{x:mN}{size m c2:Nat}{aBp:mb}(hI:ly S w0 w (e0::e1::e2::e3::lz base e size A n c xs::H))(hw:nH aBi ρ o)(hd:o.dst=some d)(hN:Nat.blt d N)
  (ho:o.op=.call {callee:=.builtin .append,args:= #[x,y],argTypes:= #[t,t]}) (hx:ev ρ x=.slice A n c) (hy:ev ρ y=me b j m c2) (ht:P.underlying t=some (.slice e))
  (pE:(P.info? e).map (fun i=>(i.zero,i.size,i.bytes))=some (some z,size,by_)) (pF:z.cells.size=size) (mR:0<size) (aBn:aBp.length=m*size) (xW:∀k u,aBp[k]?=some u->w.cell? ⟨b,j+k,none⟩=some u) (h1:aBp.all (·.oneCell'))
  (sS:n+m<=9223372036854775807) (xT:(n+m)*by_<=140737488355328) (sF:base<=w.heap.size)
  (h:∀A' c' w',n+m<=c'->c'<=9223372036854775807->ly S w0 w' (e0::e1::e2::e3::lz base e size A' (n+m) c' (xs++aBp)::H)->WL P N aBi Q rest (upd ρ d<|.slice A' (n+m) c') w'):WL P N aBi Q (o::rest) ρ w:=
 IN 4 rfl hI hw hd hN ho hx hy ht pE pF mR aBn xW h1 sS xT sF h
theorem aiz{x:mN}{size m c2:Nat}{aBp:mb}(hI:ly S w0 w (e0::e1::e2::e3::e4::lz base e size A n c xs::H))(hw:nH aBi ρ o)(hd:o.dst=some d)(hN:Nat.blt d N)
  (ho:o.op=.call {callee:=.builtin .append,args:= #[x,y],argTypes:= #[t,t]}) (hx:ev ρ x=.slice A n c) (hy:ev ρ y=me b j m c2) (ht:P.underlying t=some (.slice e))
  (pE:(P.info? e).map (fun i=>(i.zero,i.size,i.bytes))=some (some z,size,by_)) (pF:z.cells.size=size) (mR:0<size) (aBn:aBp.length=m*size) (xW:∀k u,aBp[k]?=some u->w.cell? ⟨b,j+k,none⟩=some u) (h1:aBp.all (·.oneCell'))
  (sS:n+m<=9223372036854775807) (xT:(n+m)*by_<=140737488355328) (sF:base<=w.heap.size)
  (h:∀A' c' w',n+m<=c'->c'<=9223372036854775807->ly S w0 w' (e0::e1::e2::e3::e4::lz base e size A' (n+m) c' (xs++aBp)::H)->WL P N aBi Q rest (upd ρ d<|.slice A' (n+m) c') w'):WL P N aBi Q (o::rest) ρ w:=
 IN 5 rfl hI hw hd hN ho hx hy ht pE pF mR aBn xW h1 sS xT sF h
end
open Go
def OU(P:lY)(t n:Nat):Bool:=match P.underlying t with
 |some (.struct fs)=>(fs.toList.map (fun f=>f.offset)==List.range n)&&fs.toList.all (fun f=>f.name != "_" &&(match P.underlying f.type with|some (.int _)=>true|_=>false))&& !P.stoodInHeld t&& !P.eqGuardType P.depth t|_=>false
def mW(l:mq):List Value:=l.map (Value.int .i64)
section
variable{P:lY}{ρ:lB}{o:Oper}{w:lE}{x y z:mN}{v:lH}{t t':lT}
theorem agj{f:Nat}(hu:P.underlying f=some (.int k))(hi:i<la.length):(part f (mW la).toArray i).run P w=.ok (Y (la.getD i 0)) w:=by
 have hp:yW P f:=by simp[yW,hu]
 simp[part,run_isAgg_plain hp,mW,nM hi,List.getD]
theorem agh(d n:Nat)(la lb:mq)(ha:la.length=n)(hb:lb.length=n):∀(fs:List Field),(fs.all (fun f=>f.name != "_" &&(match P.underlying f.type with|some (.int _)=>true|_=>false))=true)->(∀f∈fs,f.offset<n)->
  (Op.eqFields (d+1) (mW la).toArray (mW lb).toArray fs).run P w=.ok (fs.all fun f=>la.getD f.offset 0==lb.getD f.offset 0) w
 |[],_,_=>by simp[Op.eqFields]
 |f::fs,h1,h2=>by
  rw[jK,ij,ij]at h1;obtain⟨⟨hn,hu⟩,hr⟩:=h1;have PU:f.name≠ "_" :=by simpa using hn
  split at hu
  .rename_i k hk;have lX:=h2 f aq;rw[Op.eqFields,lq PU];simp only[ki,agj hk (show f.offset<la.length by omega),agj hk (show f.offset<lb.length by omega),Result.andThen_ok,run_equalIn_int w d f.type .i64 k _ _ hk,jK];cases hc:la.getD f.offset 0==lb.getD f.offset 0
   .simp
   simp only[jH,gy,kZ,jI];exact agh d n la lb ha hb fs hr (fun g hg=>h2 g<|by simp[hg])
  cases hu
theorem aiT{lb:mq}(ha:la.length=n)(hb:lb.length=n):((List.range n).all fun i=>la.getD i 0==lb.getD i 0)=decide (la=lb):=by
 rw[iO,decide_eq_true_iff,iq];constructor
 .intro h;refine List.ext_getElem aa<|fun i h1 h2=>?_;have:=h i aF;simpa[List.getD,nM h1,nM h2]using this
 rintro rfl i _;simp
theorem auD{lb:mq}(hB:OU P t n)(ha:la.length=n)(hb:lb.length=n):(Op.equalIn 10000 t (.agg (mW la).toArray) (.agg (mW lb).toArray)).run P w=.ok (decide (la=lb)) w:=by
 unfold OU at hB;split at hB
 .rename_i fs VJ;simp only[ij,gP,kM]at hB;obtain⟨⟨⟨h1,h2⟩,h3⟩,h4⟩:=hB;have hf:P.fieldsOf t=fs:=by unfold Program.fieldsOf;rw[VJ]
  rw[run_equalIn_struct w 9999 t _ _ (by rw[hf];exact VJ) h3,hf]
  rw[agh 9998 n la lb ha hb fs.toList h2 (fun f hf=>by
   have:f.offset∈fs.toList.map (fun f=>f.offset):=List.mem_map_of_mem hf;rw[h1]at this
   simpa using this)]
  rw[<-aiT ha hb,<-h1,List.all_map]
  rfl
 cases hB
theorem atH{lb:mq}(ho:o.op=.binOp .neq t x y t')(hB:OU P t n)(hx:ev ρ x=.agg (mW la).toArray)(hy:ev ρ y=.agg (mW lb).toArray)(ha:la.length=n)(hb:lb.length=n):lQ P ρ o w (.bool (!decide (la=lb))):=by
 have hg:P.eqGuardType P.depth t=false:=by
  unfold OU at hB;split at hB
  .simp only[ij,gP]at hB;exact hB.2
  cases hB
 have h1:=run_eqGuard_agg (P:=P) w .neq t x y (mW la).toArray (mW lb).toArray hg;have h2:=run_neq_struct (P:=P) w t (mW la).toArray (mW lb).toArray;rw[auD hB ha hb]at h2;simp[lQ,execOp,ho,hx,hy,h1,h2]
end
open Go
section
variable{P:lY}{ρ:lB}{o:Oper}{w:lE}{x y z:mN}{v:lH}{t t':lT}
end
open Go
section
variable{P:lY}{ρ:lB}{o:Oper}{w:lE}{x y z:mN}{v:lH}{t t':lT}
theorem atA{b:Int}(ho:o.op=.call {callee:=.builtin .max,args:= #[x,y],argTypes:= #[t,t']})(hx:ev ρ x=Y a)(hy:ev ρ y=Y b):lQ P ρ o w (Y (max a b)):=by
 have e:max a b=if b>a then b else a:=by rw[Int.max_def];split<;>split<;>omega
 rw[e];simp[lQ,execOp,ho,resolve,invoke,builtin,hx,hy,Builtin.max_,Builtin.max2]
end
open Go
section
variable{P:lY}{ρ:lB}{o:Oper}{w:lE}{x y z:mN}{v:lH}{t t':lT}
theorem Kh{name:String}{as:List Operand}{vs:mb}(ho:o.op=.call {callee:=.invoke x name,args:=as.toArray,argTypes:=ts})(hx:ev ρ x=.iface t u)(hv:as.map (ev ρ)=vs)
  (hm:∀w:lE,(callMethod (.iface t u) name vs.toArray).run P w=.ok (.enter f (u::vs).toArray) w):(execOp (ev ρ) o).run P w=.ok (.enter f (u::vs).toArray) w:=by
 have:=hm w;simp[execOp,ho,resolve,invoke,hx,hv,Array.extract_append,this]
end
section
variable{P:lY}{N:Nat}{aBi:nI}{Q:pg}{S:oQ}{T:nN}{aBo:Nat}{aBj:pe}{ρ:lB}{w:lE}{o:Oper}{v:lH}{d:Nat}
end
section
variable{S:lF}{w0 w:lE}{H:List lN}
theorem ly.perm{H':List lN}(h:ly S w0 w H)(p:H.Perm H'):ly S w0 w H':=⟨h.ni,fun e he=>h.ok e<|p.mem_iff.2 he,fun e he=>h.own e<|p.mem_iff.2 he,(p.pairwise_iff<|fun {a b} qU k h1 h2=>qU k h2 h1).1 h.apart⟩
theorem ly.pQ{a b:lN}(h:ly S w0 w (a::b::H)):ly S w0 w (b::a::H):=h.perm (.swap ..)
theorem ly.vR{a b c:lN}(h:ly S w0 w (a::b::c::H)):ly S w0 w (a::c::b::H):=h.perm (.cons _ (.swap ..))
end
open Go
theorem ayl(l:mb):∀(j off:Nat) (cs:lW),(l.zipIdx j).foldl (fun cs (p:Value×Nat)=>cs.setIfInBounds (off+p.2) p.1) cs=sd cs (off+j) l:=by
 induction l with
 |nil=>intro j off cs;rfl
 |cons u l ih=>
  intro j off cs;rw[iE,iW,ih]
  rfl
theorem abt{size:Nat}:∀(ls:List (List Value)) (i:Nat) (done Er:mb),done.length=i*size->Er.length=ls.length*size->(∀l∈ls,l.length=size)->
  Instr.fill (fun i=>some (i*size,size)) (done++Er).toArray ((ls.zipIdx i).map fun x=>(x.2,Value.agg x.1.toArray))=some (done++ls.flatten).toArray
 |[],i,done,Er,h1,h2,h3=>by
  have:Er=[]:=by simpa using h2
  simp[Instr.fill,this]
 |l::ls,i,done,Er,h1,h2,h3=>by
  have hl:=h3 l aq;rw[ix,kr,kx]at h2;rw[iE,jL,Instr.fill];have hc:(Value.agg l.toArray).cells=l.toArray:=rfl;simp only[hc];rw[lp (by simp[hl,h1,h2])];have hf:l.toArray.zipIdx.foldl (fun cs (x:Value×Nat)=>cs.setIfInBounds (i*size+x.2) x.1) (done++Er).toArray=((done++l)++Er.drop size).toArray:=by
   have:=ayl l 0 (i*size) (done++Er).toArray;rw[j1]at this;have e:l.toArray.zipIdx=(l.zipIdx).toArray:=aq;rw[e,List.foldl_toArray']
   .apply Eq.trans this;apply kH;rw[Kv _ _ _ (by simp[h1,h2];omega)];simp[<-h1,hl]
   simp
  have ih:=abt ls (i+1) (done++l) (Er.drop size) (by simp[h1,hl,kr]) (by simp[h2]) (fun m hm=>h3 m<|by simp[hm]);rw[hf,ih];simp
section
variable{P:lY}{N:Nat}{aBi:nI}{Q:pg}{rest:List Oper}{ρ:lB}{o:Oper}{w0 w w':lE}{S:lF}{H:List lN}{d g t tt:Nat}{cs:lW}{v:lH}
theorem auE{size:Nat}(ls:List (List Value))(ht:P.underlying t=some (.slice e))(hs:pq P e size)(hz:(P.info? e).bind (·.zero)=some z)(hn:ls.length=n)(hl:∀l∈ls,l.length=size)(hm:n*size<=16777216):
  (Instr.buildSlice t n<|((ls.zipIdx).map fun x=>(x.2,Value.agg x.1.toArray)).toArray).run P w=.ok (me w.heap.size 0 n n) (w.alloc<|.cells ls.flatten.toArray e):=by
 have ve:¬n*size>16777216:=aa;have MY:(zeroValue e).run P w=.ok z w:=by
  cases hi:P.info? e with
  |none=>simp[hi]at hz|some q=>simp only[hi,iI]at hz;simp[zeroValue,typeInfo,hi,hz]
 have key:∀zero:lW,Instr.fill (fun i=>some (i*size,size)) ((Array.range<|n*size).map (zero[· %zero.size]!)) ((ls.zipIdx).map fun x=>(x.2,Value.agg x.1.toArray))=some ls.flatten.toArray:=by intro zero;have:=abt (size:=size) ls 0 [] (((Array.range<|n*size).map (zero[· %zero.size]!)).toList) aq (by simp[hn]) hl;rw[je,je,Array.toArray_toList]at this;exact this
 unfold Instr.buildSlice;simp only[ki,jD ht,Result.andThen_ok,yZ hs];by_cases h0:n*size=0
 .simp[h0,key #[],newRow]at*;have:=key #[];simp at this;simp[this,newRow]
 simp[ve,h0,MY,key z.cells,newRow]
theorem ZU{size:Nat}(ls:List (List Value))(hI:ly S w0 w H)(hw:nH aBi ρ o)(hd:o.dst=some d)(hN:Nat.blt d N)(ho:o.op=.buildSlice t n ps.toArray)(hq:(ps.map fun p=>(p.1,ev ρ p.2))=(ls.zipIdx).map fun x=>(x.2,Value.agg x.1.toArray))
  (ht:P.underlying t=some (.slice e)) (hs:pq P e size) (hz:((P.info? e).bind (·.zero)).isSome) (hn:ls.length=n) (hl:∀l∈ls,l.length=size) (hm:n*size<=16777216)
  (h:∀g w',Pure w w'->g=w.heap.size->ly S w0 w' (B g e ls.flatten.toArray::H)->WL P N aBi Q rest (upd ρ d<|me g 0 n n) w'):WL P N aBi Q (o::rest) ρ w:=by
 have⟨z,hz⟩:=eO.1 hz;refine zi hw hd hN ?_<|h _ _ ((Pure.refl w).alloc _) Z<|hI.box e ls.flatten.toArray;have:=auE (P:=P) (w:=w) ls ht hs hz hn hl hm;rw[<-hq]at this;simp only[execOp,ho];simp[this]
end
end Go.Proofs.YtfjcghhjlmfggaaGreatDoor
