/- FarmMany: lemmas. -/
import Derived.Test.YtfjcghhjlmfggaaGreatDoorPLin10
set_option linter.unusedSectionVars false
set_option linter.unusedVariables false
set_option linter.unusedSimpArgs false
set_option maxHeartbeats 8000000
set_option maxRecDepth 100000
namespace Go.Proofs.YtfjcghhjlmfggaaGreatDoor
theorem cq{p:Prop}(h:p:=by rw[e1];rfl):p:=h
theorem dJ{p:Prop}(h:p:=by simp[pB]):p:=h
section
open Tryz
open Go Go.RowKit
variable{lK:nI}{mh:List Oper}{N_ d_:Nat}{Q_:pg}
abbrev ma(l:List UInt8):Value:=.string ⟨l.toArray⟩
theorem Gw(l:ox):(⟨l.toArray⟩:ByteArray).size=l.length:=by simp[ByteArray.size]
theorem ahc(l:ox):(⟨l.toArray⟩:ByteArray).data.toList=l:=rfl
theorem ahd(l:ox):(⟨l.toArray⟩:ByteArray).toList=l:=aq
section
variable{P:lY}{ρ:lB}{o:Oper}{w:lE}{x y z:mN}{t t':lT}{k k':IntKind}{l m:ox}
theorem atW{c:UInt8}{i:Nat}(ho:o.op=.index t x y)(ht:P.underlying t=some .string)(hx:ev ρ x=ma l)(hy:ev ρ y=.int k (i:Int))(hi:l[i]?=some c):lQ P ρ o w (.int .u8 (c.toNat:Int)):=by
 have hl:=(oS hi).1;have h:=run_index_string (P:=P) w t ⟨l.toArray⟩ k (i:Int) ht;rw[lh ⟨aa,by rw[Gw];omega⟩]at h;have e:(⟨l.toArray⟩:ByteArray)[(i:Int).toNat]'(by rw[Gw];omega)=c:=by show l.toArray[(i:Int).toNat]'_=c;have:=(oS hi).2;simpa using this
 rw[e]at h;simp[lQ,execOp,ho,hx,hy,h]
theorem Ul{c:UInt8}{i:Nat}(lG:@Eq _ (nH lK ρ o,o.dst,Nat.blt d_ N_,o.op) (true,some d_,true,.index t x y))(ht:P.underlying t=some .string)(h1_:@Eq _ (ev ρ x,ev ρ y) (ma l,.int k (i:Int)))(K_:WL P N_ lK Q_ mh (upd ρ d_ (.int .u8 (c.toNat:Int))) w)(po:l[i]?=some c:=by assumption):WL P N_ lK Q_ (o::mh) ρ w:=DM (q1 lG) (q1 (q2 lG)) (q1 (q2 (q2 lG))) (atW (q2 (q2 (q2 lG))) ht (q1 h1_) (q2 h1_) po) K_
theorem awQ(a b:Nat):(⟨l.toArray⟩:ByteArray).extract a b=⟨((l.drop a).take (b-a)).toArray⟩:=by apply ByteArray.ext;rw[ByteArray.data_extract];simp[List.extract_eq_take_drop]
theorem Gq{a b:Nat}(ho:o.op=.slice t x (some y) (some z) none)(ht:P.underlying t=some .string)(hx:ev ρ x=ma l)(hy:ev ρ y=.int k (a:Int))(hz:ev ρ z=.int k' (b:Int))(qU:a<=b)(hb:b<=l.length):lQ P ρ o w (ma ((l.drop a).take (b-a))):=by
 show lQ P ρ o w (Value.string ⟨((l.drop a).take<|b-a).toArray⟩);rw[<-awQ];have hs:b<=(⟨l.toArray⟩:ByteArray).size:=by rw[Gw];exact hb
 simp[lQ,execOp,ho,hx,hy,hz,Instr.sliceAt,Instr.slice,Instr.sliceBounds,Instr.sliceBound,asIntOf,jD ht,qU,hs]
theorem atY(ho:o.op=.call {callee:=.builtin .len,args:= #[x],argTypes:= #[t]})(ht:P.underlying t=some .string)(hx:ev ρ x=ma l):lQ P ρ o w (lI l.length):=by
 have:=X4 (P:=P) (w:=w) ho ht hx
 rwa [Gw]at this
theorem U5(lG:@Eq _ (nH lK ρ o,o.dst,Nat.blt d_ N_,o.op) (true,some d_,true,.call {callee:=.builtin .len,args:= #[x],argTypes:= #[t]}))(ht:P.underlying t=some .string)(h1_:ev ρ x=ma l)(K_:WL P N_ lK Q_ mh (upd ρ d_ (lI l.length)) w):WL P N_ lK Q_ (o::mh) ρ w:=DM (q1 lG) (q1 (q2 lG)) (q1 (q2 (q2 lG))) (atY (q2 (q2 (q2 lG))) ht h1_) K_
theorem afG(ho:o.op=.binOp .eql t x y t')(hx:ev ρ x=ma l)(hy:ev ρ y=ma m):lQ P ρ o w (.bool (decide (l=m))):=by have:=atX (P:=P) (w:=w) ho hx hy;rw[ahd,ahd]at this;rw[show decide (l=m)=(l==m)from by cases h:decide (l=m)<;>simp_all];exact this
theorem Yp(ho:o.op=.binOp .eql t x y t')(hx:ev ρ x=ma l)(hy:ev ρ y=ma m)(h:l=m):lQ P ρ o w (.bool true):=by
 have:=afG (P:=P) (w:=w) ho hx hy
 rwa [jB h]at this
theorem Us(lG:@Eq _ (nH lK ρ o,o.dst,Nat.blt d_ N_,o.op,ev ρ x,ev ρ y) (true,some d_,true,.binOp .eql t x y t',ma l,ma m))(K_:WL P N_ lK Q_ mh (upd ρ d_ (.bool true)) w)(h1_:l=m:=by decide):WL P N_ lK Q_ (o::mh) ρ w:=DM (q1 lG) (q1 (q2 lG)) (q1 (q2 (q2 lG))) (Yp (q1 (q2 (q2 (q2 lG)))) (q1 (q2 (q2 (q2 (q2 lG))))) (q2 (q2 (q2 (q2 (q2 lG))))) h1_) K_
theorem afH(ho:o.op=.binOp .eql t x y t')(hx:ev ρ x=ma l)(hy:ev ρ y=ma m)(h:l≠m):lQ P ρ o w (.bool false):=by
 have:=afG (P:=P) (w:=w) ho hx hy
 rwa [jo h]at this
theorem U8(lG:@Eq _ (nH lK ρ o,o.dst,Nat.blt d_ N_,o.op,ev ρ x,ev ρ y) (true,some d_,true,.binOp .eql t x y t',ma l,ma m))(K_:WL P N_ lK Q_ mh (upd ρ d_ (.bool false)) w)(h1_:l≠m:=by assumption):WL P N_ lK Q_ (o::mh) ρ w:=DM (q1 lG) (q1 (q2 lG)) (q1 (q2 (q2 lG))) (afH (q1 (q2 (q2 (q2 lG)))) (q1 (q2 (q2 (q2 (q2 lG))))) (q2 (q2 (q2 (q2 (q2 lG))))) h1_) K_
theorem Uo(lG:@Eq _ (nH lK ρ o,o.dst,Nat.blt d_ N_,o.op,ev ρ x,ev ρ y) (true,some d_,true,.binOp .eql t x y t',ma l,ma m))(K_:WL P N_ lK Q_ mh (upd ρ d_ (.bool false)) w)(h1_:l≠m:=by decide):WL P N_ lK Q_ (o::mh) ρ w:=DM (q1 lG) (q1 (q2 lG)) (q1 (q2 (q2 lG))) (afH (q1 (q2 (q2 (q2 lG)))) (q1 (q2 (q2 (q2 (q2 lG))))) (q2 (q2 (q2 (q2 (q2 lG))))) h1_) K_
theorem afI(ho:o.op=.binOp .neq t x y t')(hx:ev ρ x=ma l)(hy:ev ρ y=ma m):lQ P ρ o w (.bool (!decide (l=m))):=by
 have e:decide (l=m)=(l==m):=by cases h:decide (l=m)<;>simp_all
 rw[e];simp[lQ,execOp,ho,hx,hy,eqGuard,binOp,Op.stringOp]
theorem afJ(ho:o.op=.binOp .neq t x y t')(hx:ev ρ x=ma l)(hy:ev ρ y=ma m)(h:l≠m):lQ P ρ o w (.bool true):=by
 have:=afI (P:=P) (w:=w) ho hx hy
 rwa [jo h]at this
theorem Yq(ho:o.op=.binOp .neq t x y t')(hx:ev ρ x=ma l)(hy:ev ρ y=ma m)(h:l=m):lQ P ρ o w (.bool false):=by
 have:=afI (P:=P) (w:=w) ho hx hy
 rwa [jB h]at this
end
open Go.RowKit
abbrev Sg:=lC×Nat
def yi(s:Sg):List Value:=[ma s.1,.int .i64 (s.2:Int)]
theorem agu(s:Sg):(yi s).length=2:=rfl
theorem ER(l:List Sg)(e:Sg):(l++[e]).flatMap yi=l.flatMap yi++yi e:=aq
def xO(bs:ox)(fr:Option Nat)(i:Nat):lC:=match fr with
 |none=>[]
 |some f=>(bs.drop f).take<|i-f
def pB(bs:ox)(out:List Sg)(fr:Option Nat)(i:Nat):List Sg:=match fr with
 |none=>out|some f=>out++[((bs.drop f).take<|i-f,f)]
def frV(fr:Option Nat):Int:=match fr with
 |none=> -1|some f=>(f:Int)
structure uW(bs:ox)(i:Nat)(out:List Sg)(fr:Option Nat):Prop where
 eq:out.map (·.1)++tg (xO bs fr i) (bs.drop i)=uy bs
 lt:∀f,fr=some f->f<i/\f<bs.length
 fin:bs.length<i->fr=none
 len:out.length<=2*i
section
variable{bs:ox}{i:Nat}{out:List Sg}{fr:Option Nat}
theorem uW.start:uW bs 0 [] none:=⟨by simp[xO,uy],aq,fun _=>rfl,aq⟩
theorem akt(h:uW bs i out fr){f:Nat}(hf:fr=some f):xO bs fr i≠[]:=by have:=h.lt f hf;subst hf;intro hc;have hl:=kY List.length hc;simp only[xO,iz,iy,iZ]at hl;omega
theorem TX(h:uW bs i out fr):(pB bs out fr i).map (·.1)=out.map (·.1)++uF (xO bs fr i):=by
 cases fr with
 |none=>simp[pB,xO,uF]|some f=>have:=akt h rfl;simp only[uF,lp this];simp[pB,xO]
theorem FF:(pB bs out fr i).length<=out.length+1:=by cases fr<;>simp[pB]
theorem uW.single(h:uW bs i out fr){c:UInt8}(hc:bs[i]?=some c)(hs:Ii c):uW bs (i+1) (pB bs out fr i++[([c],i)]) none:=by
 have⟨hi,FR⟩:=oS hc;have he:=h.eq;rw[eF hi,FR,tg,lq hs]at he;refine⟨?_,aq,fun _=>rfl,?_⟩
 .rw[jb,TX h,<-he];simp[xO]
 have:=FF (bs:=bs) (i:=i) (out:=out) (fr:=fr);have:=h.len;simp only[gD,fI];omega
theorem uW.space(h:uW bs i out fr){c:UInt8}(hc:bs[i]?=some c)(hs:Ii c=false)(D7:c=32):uW bs (i+1) (pB bs out fr i) none:=by
 have⟨hi,FR⟩:=oS hc;have he:=h.eq;rw[eF hi,FR,tg,hs,lp aq,lq D7]at he;refine⟨?_,aq,fun _=>rfl,?_⟩
 .rw[TX h,<-he];simp[xO]
 have:=FF (bs:=bs) (i:=i) (out:=out) (fr:=fr);have:=h.len;omega
theorem uW.word(h:uW bs i out fr){c:UInt8}(hc:bs[i]?=some c)(hs:Ii c=false)(D7:c≠32):uW bs (i+1) out (some (fr.getD i)):=by
 have⟨hi,FR⟩:=oS hc;have he:=h.eq;rw[eF hi,FR,tg,hs,lp aq,lp D7]at he;refine⟨?_,fun f hf=>?_,fun hl=>aa,by have:=h.len;omega⟩
 .have e:xO bs (some<|fr.getD i) (i+1)=xO bs fr i++[c]:=by
   cases fr with
   |none=>
    simp only[xO,iJ,je];rw[eF hi,FR,show i+1-i=1 by omega]
    rfl
   |some f=>
    have hf:=h.lt f rfl;simp only[xO,iK];rw[show i+1-f=(i-f)+1 by omega,gZ,gB,show f+(i-f)=i by omega,hc]
    rfl
  rw[e];exact he
 cases hf;cases fr with
 |none=>simp only[iJ];omega|some f=>have:=h.lt f rfl;simp only[iK];omega
theorem uW.last(h:uW bs bs.length out fr):uW bs (bs.length+1) (pB bs out fr bs.length) none:=by
 have he:=h.eq;rw[fp (ku _),tg]at he;refine⟨?_,aq,fun _=>rfl,?_⟩
 .rw[TX h,<-he];simp[xO,tg,uF,fp]
 have:=FF (bs:=bs) (i:=bs.length) (out:=out) (fr:=fr);have:=h.len;omega
theorem uW.end_(h:uW bs (bs.length+1) out fr):out.map (·.1)=uy bs:=by have he:=h.eq;have:=h.fin aa;subst this;rw[fp aa]at he;simpa[xO,tg,uF]using he
end
theorem agx(c:UInt8):Ii c↔c.toNat=40\/c.toNat=41\/c.toNat=44:=by
 unfold Ii;simp only[iP,kM,<-UInt8.toNat_inj,or_assoc]
 rfl
theorem au5(bs:ox)(w0:lE)(hl:bs.length<=100000):
  Cq 53 #[ma bs] w0 fun e w'=>∃(A:lO) (c:Nat) (out:List Sg),e=.returned (.slice A out.length c)/\out.map (·.1)=uy bs++[[]]/\ly NF w0 w' [lz 0 190 2 A out.length c (out.flatMap yi)]:=by
 have hI:=ly.start (fun _=>False) w0;apply Vo func53 Z;refine Wq<|Vm Z<|Wn<|Wq<|Vm Z<|Wn<|Wq<|Vb Z<|Wn<|Ws<|Ws ?_;refine Wr<|Vb Z<|Wn<|Wb ?_;have FN:=hI.fresh (Pure.refl w0) (lz.nil w0 0 190 2) (fun k hk=>by simp[lz]at hk)
 refine Wl (fun mu ρ w=>∃(i:Nat) (out:List Sg) (fr:Option Nat) (A:lO) (c:Nat),mu=bs.length+1-i/\i<=bs.length+1/\uW bs i out fr/\lA ρ [(0,ma bs),(3,.slice A out.length c),(4,Y (frV fr)),(5,lI i)]/\
   ly NF w0 w [lz 0 190 2 A out.length c (out.flatMap yi)]) (bs.length+1)
  ⟨0,[],none,none,0,rfl,kz _,.start,⟨rfl,rfl,rfl,rfl,trivial⟩,FN⟩ ?_
 rintro mu ρ w ⟨i,out,fr,A,c,rfl,hi,hS,hH,hI⟩;obtain⟨σ,rfl⟩:=hH.open;have hol:=hS.len;by_cases aBm:i<=bs.length;rotate_left
 .obtain rfl:i=bs.length+1:=aa;refine Ws<|Wq<|V0 Z<|Vu Z<|U5 Z nS Z ?_;refine Wv Z (by exact X5 rfl rfl rfl aa) ?_;refine Wn<|Wc false Z ?_;apply WE;refine Wq<|Vf Z<|Vu Z<|U5 Z nS Z<|Tf [(0,.string ⟨#[]⟩),(1,Y _)] [.string ⟨#[]⟩,Y _] Z [.string ⟨#[]⟩,Y 0] [0,1] Z (fun _=>ai)<|T7 [(0,.agg #[_,_])] [_,_] [.string ⟨#[]⟩,Y 0] [0] hI rfl se (fun _=>ai) ?_;rintro b88 w- -hI;apply Tz 24 (.agg #[.string ⟨#[]⟩,Y 0]) hI Z se Z (by rfl) hI.qP (by rfl) (kz _);rintro A89 c89 w ay4 azt hI;have hI:=hI.d0;refine Vm Z<|Wn ?_;apply WR;have e1:(out++[(([]:lC),bs.length)]).length=out.length+1:=aq;refine lV 2 Z ⟨A89,c89,out++[([],bs.length)],cq,by rw[jb,hS.end_];rfl,?_⟩;rw[ER,e1];exact hI
 refine Ws<|Wq<|V0 Z<|Vu Z<|U5 Z nS Z ?_;refine Wv Z (by exact X6 rfl rfl rfl aa) ?_;refine Wn<|Wc true Z<|Wk<|Ws<|Wb ?_;rcases j6 i bs.length with CQ|oh;rotate_left
 .obtain rfl:i=bs.length:=aa;refine Wq<|V0 Z<|Vu Z<|U5 Z nS Z<|Vq Z<|V3 Z<|V2 Z<|V2 Z<|V2 Z<|V2 Z<|V2 Z<|V2 Z<|V2 Z ?_;refine V2 Z<|V2 Z<|V2 Z<|V2 Z<|V2 Z<|V2 Z<|V2 Z<|V2 Z<|V2 Z<|Va Z<|V5 Z<|Wn<|Ws<|Wr ?_;refine V0 Z<|Vu Z<|U5 Z nS Z<|Vq Z<|V3 Z<|V2 Z<|V2 Z<|Va Z<|V3 Z<|V2 Z<|V2 Z<|V2 Z<|V2 Z<|Va Z ?_;refine V5 Z<|Wn ?_;refine Wx (fun ρ w=>∃A c,lA ρ [(0,ma bs),(3,.slice A (pB bs out fr bs.length).length c),(4,Y<|-1),(5,lI bs.length),(6,.bool false),(7,.bool false)]/\ly NF w0 w [lz 0 190 2 A (pB bs out fr bs.length).length c ((pB bs out fr bs.length).flatMap yi)]) ?_ ?_
  .cases fr with
   |none=>refine Wq<|V0 Z<|Un Z<|V3 Z<|V2 Z<|V2 Z<|Va Z<|Wn<|Wc false Z<|Wk ?_;exact⟨A,c,xe,hI⟩|some f=>have hf:=hS.lt f rfl;refine Wq<|V0 Z<|Un Z<|V3 Z<|V3 Z<|Tm Z<|Vg Z<|Wn<|Wc true Z<|Wq<|Vf Z<|Vu Z ?_;refine V0 Z<|V0 Z ?_;refine Wv Z (Gq Z nS Z Z Z aa aa) ?_;refine V0 Z<|Tf [(0,.string _),(1,Y _)] [_,_] Z [.string ⟨#[]⟩,Y 0] [0,1] Z (fun _=>ai)<|T7 [(0,.agg #[_,_])] [_,_] [.string ⟨#[]⟩,Y 0] [0] hI rfl se (fun _=>ai) ?_;rintro Oz w- -hI;apply Tz 24 (.agg #[.string ⟨#[]⟩,Y 0]) hI Z se Z (by rfl) hI.qP (by rfl) (kz _);rintro Dw DV w Pe Pu hI;have hI:=hI.d0;refine Vm Z<|Wn<|Wr<|Vb Z<|Wn ?_;have e1:(pB bs out (some f) bs.length).length=out.length+1:=dJ;refine⟨Dw,DV,⟨Z,cq,rfl,rfl,rfl,rfl,trivial⟩,?_⟩;rw[e1];simp only[pB,ER];exact hI
  have tE:=FF (bs:=bs) (i:=bs.length) (out:=out) (fr:=fr);rintro ρ w ⟨A,c,hH,hI⟩;obtain⟨σ,rfl⟩:=hH.open;refine Wb<|Wq<|V3 Z<|V5 Z<|Wn<|Wc false Z<|Wq<|V3 Z<|V3 Z<|V2 Z<|V2 Z<|Va Z ?_;refine V5 Z<|Wn<|Wc false Z<|Wk<|Wr<|V0 Z<|Vx Z<|Vb Z<|Wn ?_;exact⟨0,aa,bs.length+1,_,none,A,c,aa,aa,hS.last,oy,hI⟩
 obtain⟨ch,pM⟩:∃ch,bs[i]?=some ch:=⟨bs[i],nM CQ⟩
 cases hs:Ii ch with
 |true=>
  have r8:=(agx ch).1 hs;rcases r8 with FK|h41|h44
  .refine Wq<|V0 Z<|Vu Z<|U5 Z nS Z<|Vt Z<|V3 Z<|Vu Z<|V0 Z<|Ul Z nS Z ?_;refine Vz Z<|V3 Z<|V2 Z<|V2 Z<|V2 Z<|V2 Z<|Vg Z<|V3 Z<|V2 Z<|V2 Z<|V2 Z<|V2 Z<|Vg Z<|Vg Z ?_;refine V5 Z<|Wn<|Wq<|V0 Z<|Vu Z<|U5 Z nS Z<|Vt Z<|V3 Z<|V3 Z<|Th Z<|Vg Z<|V3 Z<|V2 Z ?_;refine V2 Z<|V2 Z<|V2 Z<|Va Z<|V5 Z<|Wn ?_;refine Wx (fun ρ w=>∃A c,lA ρ [(0,ma bs),(3,.slice A (pB bs out fr i).length c),(4,Y<|-1),(5,lI i),(6,.bool true),(7,.bool false)]/\ly NF w0 w [lz 0 190 2 A (pB bs out fr i).length c ((pB bs out fr i).flatMap yi)]) ?_ ?_
   .cases fr with
    |none=>refine Wq<|V0 Z<|Un Z<|V3 Z<|V2 Z<|V2 Z<|Va Z<|Wn<|Wc false Z<|Wk ?_;exact⟨A,c,xe,hI⟩|some f=>have hf:=hS.lt f rfl;refine Wq<|V0 Z<|Un Z<|V3 Z<|V3 Z<|Tm Z<|Vg Z<|Wn<|Wc true Z<|Wq<|Vf Z<|Vu Z ?_;refine V0 Z<|V0 Z ?_;refine Wv Z (Gq Z nS Z Z Z aa aa) ?_;refine V0 Z<|Tf [(0,.string _),(1,Y _)] [_,_] Z [.string ⟨#[]⟩,Y 0] [0,1] Z (fun _=>ai)<|T7 [(0,.agg #[_,_])] [_,_] [.string ⟨#[]⟩,Y 0] [0] hI rfl se (fun _=>ai) ?_;rintro Oz w- -hI;apply Tz 24 (.agg #[.string ⟨#[]⟩,Y 0]) hI Z se Z (by rfl) hI.qP (by rfl) (kz _);rintro Dw DV w Pe Pu hI;have hI:=hI.d0;refine Vm Z<|Wn<|Wr<|Vb Z<|Wn ?_;have e1:(pB bs out (some f) i).length=out.length+1:=dJ;refine⟨Dw,DV,⟨Z,cq,rfl,rfl,rfl,rfl,trivial⟩,?_⟩;rw[e1];simp only[pB,ER];exact hI
   have tE:=FF (bs:=bs) (i:=i) (out:=out) (fr:=fr);rintro ρ w ⟨A,c,hH,hI⟩;obtain⟨σ,rfl⟩:=hH.open;refine Wb<|Wq<|V3 Z<|V5 Z<|Wn<|Wc true Z<|Wr<|Vf Z<|Vu Z<|V0 Z<|V0 Z<|Vx Z ?_;refine Wv Z (Gq (a:=i) (b:=i+1) Z nS Z Z Z aa aa) ?_;refine V0 Z<|Tf [(0,.string _),(1,Y _)] [_,_] Z [.string ⟨#[]⟩,Y 0] [0,1] Z (fun _=>ai)<|T7 [(0,.agg #[_,_])] [_,_] [.string ⟨#[]⟩,Y 0] [0] hI rfl se (fun _=>ai) ?_;rintro b75 w- -hI;apply Tz 24 (.agg #[.string ⟨#[]⟩,Y 0]) hI Z se Z (by rfl) hI.qP (by rfl) (kz _);rintro KS c76 w abP acd hI;have hI:=hI.d0;refine Vm Z<|Wn<|Wr<|V0 Z<|Vx Z<|Vb Z<|Wn ?_;have e1:(pB bs out fr i++[([ch],i)]).length=(pB bs out fr i).length+1:=aq;have e2:(bs.drop i).take (i+1-i)=[ch]:=by have⟨h1,h2⟩:=oS pM;rw[eF h1,h2,show i+1-i=1 by omega];rfl
   rw[e2]at hI;refine⟨bs.length+1-(i+1),aa,i+1,_,none,KS,c76,rfl,aa,hS.single pM hs,⟨rfl,cq,rfl,rfl,trivial⟩,?_⟩;rw[e1,ER];exact hI
  .refine Wq<|V0 Z<|Vu Z<|U5 Z nS Z<|Vt Z<|V3 Z<|Vu Z<|V0 Z<|Ul Z nS Z ?_;refine Vv Z<|V3 Z<|Vu Z<|V0 Z<|Ul Z nS Z ?_;refine Vz Z<|Va Z<|V3 Z<|V2 Z<|V2 Z<|V2 Z<|V2 Z<|Vg Z<|Vg Z<|V5 Z<|Wn<|Wq<|V0 Z ?_;refine Vu Z<|U5 Z nS Z<|Vt Z<|V3 Z<|V3 Z<|Th Z<|Vg Z<|V3 Z<|V2 Z<|V2 Z<|V2 Z<|V2 Z<|Va Z<|V5 Z ?_;apply Wn;refine Wx (fun ρ w=>∃A c,lA ρ [(0,ma bs),(3,.slice A (pB bs out fr i).length c),(4,Y<|-1),(5,lI i),(6,.bool true),(7,.bool false)]/\ly NF w0 w [lz 0 190 2 A (pB bs out fr i).length c ((pB bs out fr i).flatMap yi)]) ?_ ?_
   .cases fr with
    |none=>refine Wq<|V0 Z<|Un Z<|V3 Z<|V2 Z<|V2 Z<|Va Z<|Wn<|Wc false Z<|Wk ?_;exact⟨A,c,xe,hI⟩|some f=>have hf:=hS.lt f rfl;refine Wq<|V0 Z<|Un Z<|V3 Z<|V3 Z<|Tm Z<|Vg Z<|Wn<|Wc true Z<|Wq<|Vf Z<|Vu Z ?_;refine V0 Z<|V0 Z ?_;refine Wv Z (Gq Z nS Z Z Z aa aa) ?_;refine V0 Z<|Tf [(0,.string _),(1,Y _)] [_,_] Z [.string ⟨#[]⟩,Y 0] [0,1] Z (fun _=>ai)<|T7 [(0,.agg #[_,_])] [_,_] [.string ⟨#[]⟩,Y 0] [0] hI rfl se (fun _=>ai) ?_;rintro Oz w- -hI;apply Tz 24 (.agg #[.string ⟨#[]⟩,Y 0]) hI Z se Z (by rfl) hI.qP (by rfl) (kz _);rintro Dw DV w Pe Pu hI;have hI:=hI.d0;refine Vm Z<|Wn<|Wr<|Vb Z<|Wn ?_;have e1:(pB bs out (some f) i).length=out.length+1:=dJ;refine⟨Dw,DV,⟨Z,cq,rfl,rfl,rfl,rfl,trivial⟩,?_⟩;rw[e1];simp only[pB,ER];exact hI
   have tE:=FF (bs:=bs) (i:=i) (out:=out) (fr:=fr);rintro ρ w ⟨A,c,hH,hI⟩;obtain⟨σ,rfl⟩:=hH.open;refine Wb<|Wq<|V3 Z<|V5 Z<|Wn<|Wc true Z<|Wr<|Vf Z<|Vu Z<|V0 Z<|V0 Z<|Vx Z ?_;refine Wv Z (Gq (a:=i) (b:=i+1) Z nS Z Z Z aa aa) ?_;refine V0 Z<|Tf [(0,.string _),(1,Y _)] [_,_] Z [.string ⟨#[]⟩,Y 0] [0,1] Z (fun _=>ai)<|T7 [(0,.agg #[_,_])] [_,_] [.string ⟨#[]⟩,Y 0] [0] hI rfl se (fun _=>ai) ?_;rintro b75 w- -hI;apply Tz 24 (.agg #[.string ⟨#[]⟩,Y 0]) hI Z se Z (by rfl) hI.qP (by rfl) (kz _);rintro KS c76 w abP acd hI;have hI:=hI.d0;refine Vm Z<|Wn<|Wr<|V0 Z<|Vx Z<|Vb Z<|Wn ?_;have e1:(pB bs out fr i++[([ch],i)]).length=(pB bs out fr i).length+1:=aq;have e2:(bs.drop i).take (i+1-i)=[ch]:=by have⟨h1,h2⟩:=oS pM;rw[eF h1,h2,show i+1-i=1 by omega];rfl
   rw[e2]at hI;refine⟨bs.length+1-(i+1),aa,i+1,_,none,KS,c76,rfl,aa,hS.single pM hs,⟨rfl,cq,rfl,rfl,trivial⟩,?_⟩;rw[e1,ER];exact hI
  refine Wq<|V0 Z<|Vu Z<|U5 Z nS Z<|Vt Z<|V3 Z<|Vu Z<|V0 Z<|Ul Z nS Z ?_;refine Vv Z<|V3 Z<|Vu Z<|V0 Z<|Ul Z nS Z ?_;refine Vv Z<|Va Z<|V3 Z<|Vu Z<|V0 Z<|Ul Z nS Z ?_;refine Vz Z<|Va Z<|Vg Z<|V5 Z<|Wn<|Wq<|V0 Z<|Vu Z<|U5 Z nS Z<|Vt Z<|V3 Z<|V3 Z<|Th Z ?_;refine Vg Z<|V3 Z<|V2 Z<|V2 Z<|V2 Z<|V2 Z<|Va Z<|V5 Z<|Wn ?_;refine Wx (fun ρ w=>∃A c,lA ρ [(0,ma bs),(3,.slice A (pB bs out fr i).length c),(4,Y<|-1),(5,lI i),(6,.bool true),(7,.bool false)]/\ly NF w0 w [lz 0 190 2 A (pB bs out fr i).length c ((pB bs out fr i).flatMap yi)]) ?_ ?_
  .cases fr with
   |none=>refine Wq<|V0 Z<|Un Z<|V3 Z<|V2 Z<|V2 Z<|Va Z<|Wn<|Wc false Z<|Wk ?_;exact⟨A,c,xe,hI⟩|some f=>have hf:=hS.lt f rfl;refine Wq<|V0 Z<|Un Z<|V3 Z<|V3 Z<|Tm Z<|Vg Z<|Wn<|Wc true Z<|Wq<|Vf Z<|Vu Z ?_;refine V0 Z<|V0 Z ?_;refine Wv Z (Gq Z nS Z Z Z aa aa) ?_;refine V0 Z<|Tf [(0,.string _),(1,Y _)] [_,_] Z [.string ⟨#[]⟩,Y 0] [0,1] Z (fun _=>ai)<|T7 [(0,.agg #[_,_])] [_,_] [.string ⟨#[]⟩,Y 0] [0] hI rfl se (fun _=>ai) ?_;rintro Oz w- -hI;apply Tz 24 (.agg #[.string ⟨#[]⟩,Y 0]) hI Z se Z (by rfl) hI.qP (by rfl) (kz _);rintro Dw DV w Pe Pu hI;have hI:=hI.d0;refine Vm Z<|Wn<|Wr<|Vb Z<|Wn ?_;have e1:(pB bs out (some f) i).length=out.length+1:=dJ;refine⟨Dw,DV,⟨Z,cq,rfl,rfl,rfl,rfl,trivial⟩,?_⟩;rw[e1];simp only[pB,ER];exact hI
  have tE:=FF (bs:=bs) (i:=i) (out:=out) (fr:=fr);rintro ρ w ⟨A,c,hH,hI⟩;obtain⟨σ,rfl⟩:=hH.open;refine Wb<|Wq<|V3 Z<|V5 Z<|Wn<|Wc true Z<|Wr<|Vf Z<|Vu Z<|V0 Z<|V0 Z<|Vx Z ?_;refine Wv Z (Gq (a:=i) (b:=i+1) Z nS Z Z Z aa aa) ?_;refine V0 Z<|Tf [(0,.string _),(1,Y _)] [_,_] Z [.string ⟨#[]⟩,Y 0] [0,1] Z (fun _=>ai)<|T7 [(0,.agg #[_,_])] [_,_] [.string ⟨#[]⟩,Y 0] [0] hI rfl se (fun _=>ai) ?_;rintro b75 w- -hI;apply Tz 24 (.agg #[.string ⟨#[]⟩,Y 0]) hI Z se Z (by rfl) hI.qP (by rfl) (kz _);rintro KS c76 w abP acd hI;have hI:=hI.d0;refine Vm Z<|Wn<|Wr<|V0 Z<|Vx Z<|Vb Z<|Wn ?_;have e1:(pB bs out fr i++[([ch],i)]).length=(pB bs out fr i).length+1:=aq;have e2:(bs.drop i).take (i+1-i)=[ch]:=by have⟨h1,h2⟩:=oS pM;rw[eF h1,h2,show i+1-i=1 by omega];rfl
  rw[e2]at hI;refine⟨bs.length+1-(i+1),aa,i+1,_,none,KS,c76,rfl,aa,hS.single pM hs,⟨rfl,cq,rfl,rfl,trivial⟩,?_⟩;rw[e1,ER];exact hI
 |false=>
  have r8:¬(ch.toNat=40\/ch.toNat=41\/ch.toNat=44):=fun h=>by rw[<-agx,hs]at h;cases h
  by_cases D7:ch=32
  .have amw:ch.toNat=32:=by rw[D7];rfl
   refine Wq<|V0 Z<|Vu Z<|U5 Z nS Z<|Vt Z<|V3 Z<|Vu Z<|V0 Z<|Ul Z nS Z ?_;refine Vv Z<|V3 Z<|Vu Z<|V0 Z<|Ul Z nS Z ?_;refine Vv Z<|Va Z<|V3 Z<|Vu Z<|V0 Z<|Ul Z nS Z ?_;refine Vv Z<|Va Z<|Vg Z<|V5 Z<|Wn<|Wq<|V0 Z<|Vu Z<|U5 Z nS Z<|Vt Z<|V3 Z<|V3 Z<|Tm Z ?_;refine Vg Z<|V3 Z<|Vu Z<|V0 Z<|Ul Z nS Z ?_;refine U3 Z<|Vg Z<|V5 Z<|Wn ?_;refine Wx (fun ρ w=>∃A c,lA ρ [(0,ma bs),(3,.slice A (pB bs out fr i).length c),(4,Y<|-1),(5,lI i),(6,.bool false),(7,.bool false)]/\ly NF w0 w [lz 0 190 2 A (pB bs out fr i).length c ((pB bs out fr i).flatMap yi)]) ?_ ?_
   .cases fr with
    |none=>refine Wq<|V0 Z<|Un Z<|V3 Z<|V2 Z<|V2 Z<|Va Z<|Wn<|Wc false Z<|Wk ?_;exact⟨A,c,xe,hI⟩|some f=>have hf:=hS.lt f rfl;refine Wq<|V0 Z<|Un Z<|V3 Z<|V3 Z<|Tm Z<|Vg Z<|Wn<|Wc true Z<|Wq<|Vf Z<|Vu Z ?_;refine V0 Z<|V0 Z ?_;refine Wv Z (Gq Z nS Z Z Z aa aa) ?_;refine V0 Z<|Tf [(0,.string _),(1,Y _)] [_,_] Z [.string ⟨#[]⟩,Y 0] [0,1] Z (fun _=>ai)<|T7 [(0,.agg #[_,_])] [_,_] [.string ⟨#[]⟩,Y 0] [0] hI rfl se (fun _=>ai) ?_;rintro Oz w- -hI;apply Tz 24 (.agg #[.string ⟨#[]⟩,Y 0]) hI Z se Z (by rfl) hI.qP (by rfl) (kz _);rintro Dw DV w Pe Pu hI;have hI:=hI.d0;refine Vm Z<|Wn<|Wr<|Vb Z<|Wn ?_;have e1:(pB bs out (some f) i).length=out.length+1:=dJ;refine⟨Dw,DV,⟨Z,cq,rfl,rfl,rfl,rfl,trivial⟩,?_⟩;rw[e1];simp only[pB,ER];exact hI
   have tE:=FF (bs:=bs) (i:=i) (out:=out) (fr:=fr);rintro ρ w ⟨A,c,hH,hI⟩;obtain⟨σ,rfl⟩:=hH.open;refine Wb<|Wq<|V3 Z<|V5 Z<|Wn<|Wc false Z<|Wq<|V3 Z<|V3 Z<|V2 Z<|V2 Z<|Va Z ?_;refine V5 Z<|Wn<|Wc false Z<|Wk<|Wr<|V0 Z<|Vx Z<|Vb Z<|Wn ?_;exact⟨bs.length+1-(i+1),aa,i+1,_,none,A,c,rfl,aa,hS.space pM hs D7,oy,hI⟩
  have amw:ch.toNat≠32:=fun h=>D7 (UInt8.toNat_inj.1<|by rw[h];rfl);refine Wq<|V0 Z<|Vu Z<|U5 Z nS Z<|Vt Z<|V3 Z<|Vu Z<|V0 Z<|Ul Z nS Z ?_;refine Vv Z<|V3 Z<|Vu Z<|V0 Z<|Ul Z nS Z ?_;refine Vv Z<|Va Z<|V3 Z<|Vu Z<|V0 Z<|Ul Z nS Z ?_;refine Vv Z<|Va Z<|Vg Z<|V5 Z<|Wn<|Wq<|V0 Z<|Vu Z<|U5 Z nS Z<|Vt Z<|V3 Z<|V3 Z<|Tm Z ?_;refine Vg Z<|V3 Z<|Vu Z<|V0 Z<|Ul Z nS Z ?_;refine Ug Z<|Vg Z<|V5 Z<|Wn ?_;cases fr with
  |none=>refine Ws<|Wq<|V0 Z<|Un Z<|V3 Z<|V2 Z<|V2 Z<|Va Z<|Wn<|Wc false Z<|Wk<|Wb<|Ws ?_;refine Wr<|V3 Z<|V5 Z<|Wn<|Wc false Z<|Wq<|V3 Z<|V3 Z<|V0 Z ?_;apply Wv Z (by exact Kk rfl rfl rfl);refine Vg Z<|V5 Z<|Wn<|Wc true Z<|Wr<|V0 Z<|Vb Z<|Wn<|Wr<|V0 Z<|Vx Z<|Vb Z<|Wn ?_;exact⟨bs.length+1-(i+1),aa,i+1,_,some i,A,c,rfl,aa,hS.word pM hs D7,oy,hI⟩|some f=>refine Ws<|Wq<|V0 Z<|Un Z<|V3 Z<|V3 Z<|Th Z<|Vg Z<|Wn<|Wc false Z<|Wk<|Wb<|Ws ?_;refine Wr<|V3 Z<|V5 Z<|Wn<|Wc false Z<|Wq<|V3 Z<|V3 Z<|V0 Z ?_;apply Wv Z (by exact Kk rfl rfl rfl);refine Vg Z<|V5 Z<|Wn<|Wc false Z<|Wk<|Wr<|V0 Z<|Vx Z<|Vb Z<|Wn ?_;exact⟨bs.length+1-(i+1),aa,i+1,_,some f,A,c,rfl,aa,hS.word pM hs D7,oy,hI⟩
structure uB(w:lE):Prop where
 EY:∃tp p,w.var? prog "strconv.ErrSyntax" =some #[.iface tp p]
 EN:∃tp p,w.var? prog "strconv.ErrRange" =some #[.iface tp p]
 tab:Lib.TabIs prog w "internal/strconv.uint64pow10" .u64 Lib.pow10Tab
def A9(S:lF):Prop:=¬S 5/\¬S 6/\¬S 7
theorem LQ:prog.globalNamed "strconv.ErrSyntax" =some 5:=ai
theorem LP:prog.globalNamed "strconv.ErrRange" =some 6:=ai
theorem Pc:prog.globalNamed "internal/strconv.uint64pow10" =some 7:=ai
theorem Zb{S:lF}{w w':lE}{name:String}{g:Nat}{cs:lW}(hg:prog.globalNamed name=some g)(hc:mC S w w')(hS:¬S g)(h:w.var? prog name=some cs):w'.var? prog name=some cs:=by
 unfold World.var? at h|-;rw[hg,iI]at h|-;have lX:g<w.heap.size:=by refine iG fun hn=>?_;rw[fg hn]at h;cases h
 rw[hc.block g lX hS];exact h
theorem uB.ni{S:lF}{w w':lE}(h:uB w)(hc:mC S w w')(hS:A9 S):uB w':=by obtain⟨⟨t1,p1,h1⟩,⟨t2,p2,h2⟩,h3⟩:=h;exact⟨⟨t1,p1,Zb LQ hc hS.1 h1⟩,⟨t2,p2,Zb LP hc hS.2.1 h2⟩,Zb Pc hc hS.2.2 h3⟩
theorem A9.none:A9 (fun _=>False):=⟨id,id,id⟩
def Oy(t:lC)(w:lE)(e:Ending)(w':lE):Prop:=(match Lib.atoiAll t with
 |.ok n=>e=.returned (.tuple #[.int .i64 n,.nilIface])/\ -9223372036854775808<=n/\n<=9223372036854775807
 |_=>∃n T u,e=.returned (.tuple #[.int .i64 n,.iface T u]))/\Pure w w'
theorem Z8(t:lC)(ht:t.length<=1000000)(w:lE)(hG:uB w):Cq 112 #[ma t] w (Oy t w):=by
 have hs:(⟨t.toArray⟩:ByteArray).size=t.length:=Gw t;unfold Oy;cases h:Lib.atoiAll t
 .rename_i n;refine(Any.strconv_Atoi_ok laysC172 ⟨t.toArray⟩ aa n h w).mono ?_;rintro e w' ⟨rfl,hw⟩;refine⟨⟨Z,by have:=Lib.atoiAll_bounds h;omega⟩,?_⟩;rcases hw with rfl|⟨x,rfl⟩
  .exact Pure.refl _
  exact Lib.bytesWorld_below _ _ _
 .have⟨tp,p,hv⟩:=hG.EY;refine(Any.strconv_Atoi_syntax_var laysC172 ⟨t.toArray⟩ aa h tp p w hv).mono ?_;rintro e w' ⟨N,rfl, -, -,hb⟩;exact⟨⟨_,_,_,Z⟩,hb⟩
 have⟨tp,p,hv⟩:=hG.EN;refine(Any.strconv_Atoi_range_var laysC172 ⟨t.toArray⟩ aa h tp p w hv).mono ?_;rintro e w' ⟨N,rfl, -, -,hb⟩;exact⟨⟨_,_,_,Z⟩,hb⟩
theorem Xi(n:Int)(h1: -9223372036854775808<=n)(h2:n<=9223372036854775807)(w:lE)(hG:uB w):Cq 113 #[Y n] w fun e w'=>e=.returned (ma (Lib.itoa n))/\Pure w w':=by
 refine(Any.strconv_Itoa laysM171 n h1 h2 w hG.tab).mono ?_;rintro e w' ⟨rfl,k,os,rfl⟩;refine⟨Z,⟨Z,Z,Z,?_,fun j hj=>?_⟩⟩
 .show w.heap.size<=(w.heap++os).size;rw[gO];omega
 show(w.heap++os)[j]?=w.heap[j]?;rw[ef hj]
abbrev ue(l:List UInt8):ByteArray:=⟨l.toArray⟩
theorem agD(l sep:ox)(ws:List (List UInt8))(hl:l.length<=100000)(nZ:1<=sep.length)(hc:Lib.countB (ue l) (ue sep)+1=ws.length)(nP:Lib.splitB (ue sep) 0 (Lib.countB (ue l) (ue sep)) (ue l)=ws.map ue)(w:lE)(hM:vX w):
  Cq 44 #[ma l,ma sep] w fun e w'=>∃g,e=.returned (me g 0 ws.length ws.length)/\ly NF w w' [B g 9 (ws.map ma).toArray]:=by
 obtain⟨m,hm⟩:=hM;have hz:(ue l).size=l.length:=Gw _;have xw:(ue sep).size=sep.length:=Gw _;refine(Any.strings_Split {laysM146 with} laysM146.i9 (ue l) (ue sep) m w aa hm aa).mono ?_;rintro e w' ⟨rfl,rfl⟩;rw[nP,hc,List.map_map];exact⟨_,Z,(ly.start (fun _=>False) w).box _ _⟩
theorem akv(l sep a b:ox)(f:Bool)(hl:l.length<=100000)(hc:Lib.cut l sep=(a,b,f))(w:lE)(hM:vX w):
  Cq 45 #[ma l,ma sep] w fun e w'=>e=.returned (.tuple #[ma a,ma b,.bool f])/\Pure w w':=by
 obtain⟨m,hm⟩:=hM;have hz:(ue l).size=l.length:=Gw _;refine(Any.strings_Cut {laysM145 with} (ue l) (ue sep) m w aa hm).mono ?_;rintro e w' ⟨rfl,n,rfl⟩;rw[ahc,ahc,hc];exact⟨Z,(Pure.refl w).drewN n⟩
theorem aqg(A:lO)(c:Nat)(l:List (List UInt8))(x:ox)(D:lF)(w0:lE)(h:Rd w0 D 1 (.slice A l.length c) l.length (l.map ma))(hl:l.length<=1000):
  Cq 79 #[.slice A l.length c,ma x] w0 fun en w'=>∃z:Int,en=.returned (Y z)/\(0<=z↔x∈l)/\Pure w0 w':=by
 have hI:=ly.start (fun _=>False) w0;refine Vo func79 Z<|Wq<|Vb Z<|Wn<|Ws<|Wq<|Vf Z<|Vp Z y9 Z<|V0 Z<|Wn<|Wb ?_;refine Wl (fun mu ρ w=>∃k:Nat,mu=l.length-k/\k<=l.length/\(∀j,j<k->l[j]?≠some x)/\lA ρ [(8,lI k),(7,lI l.length),(0,.slice A l.length c),(1,ma x)]/\ly NF w0 w []) l.length
  ⟨0,rfl,aa,fun j hj=>aa,⟨rfl,rfl,rfl,rfl,trivial⟩,hI⟩ ?_
 clear hI;rintro mu ρ w ⟨k,rfl,hk,mI,hH,hI⟩;obtain⟨σ,rfl⟩:=hH.open;by_cases ow:k<l.length;rotate_left
 .refine Wq<|Vq Z<|Yg Z<|WE<|Wq<|Vb Z<|Wn<|WR<|lV 4 Z ⟨-1,Z,⟨fun h=>aa,fun h=>?_⟩,hI.pu⟩;have⟨j,hj⟩:=fR h;exact ll hj<|mI j (by have:=(oS hj).1;omega)
 have hx:l[k]?=some l[k]:=nM ow;generalize l[k]=y at hx;obtain⟨b,o,rfl,_,_,hc⟩:=Rd.get h (k:=k) (u:=ma y) (by rw[gW,hx];rfl) aa;refine Wq<|Vt Z<|Yu Z<|Wk<|Ws<|Wb<|Wq<|V0 Z<|Vb Z<|Wn ?_;by_cases hxy:x=y
 .exact Wq<|Vu Z<|Vf Z<|V0 Z<|Uq Z y9 Z<|V4 (.string _) Z (hI.my hc)<|Wv Z (by exact Yp rfl rfl rfl aX)<|Yt Z<|Wq<|V0 Z<|Vb Z<|Wn<|WR<|lV 4 Z ⟨k,Z,⟨fun _=>by rw[hxy];exact mZ hx,fun _=>aa⟩,hI.pu⟩
 refine Wq<|Vu Z<|Vf Z<|V0 Z<|Uq Z y9 Z<|V4 (.string _) Z (hI.my hc)<|U8 Z<|Yf Z<|Wk<|Wr<|Vx Z<|V0 Z<|Wn ⟨l.length-(k+1),aa,k+1,rfl,aa,fun j hj=>?_,oy,hI⟩;by_cases qE:j<k
 .exact mI j qE
 obtain rfl:j=k:=aa;rw[hx];exact fun h=>hxy (jl h).symm
theorem aaJ(A:lO)(c:Nat)(l:List (List UInt8))(x:ox)(D:lF)(w0:lE)(h:Rd w0 D 1 (.slice A l.length c) l.length (l.map ma))(hl:l.length<=1000)(r:Bool)(hr:r=decide (x∈l)):
  Cq 47 #[.slice A l.length c,ma x] w0 fun en w'=>en=.returned (.bool r)/\Pure w0 w':=by
 have hI:=ly.start (fun _=>False) w0;refine Vo func47 Z<|Wq<|V5 Z<|Wn<|Wq<|Vf Z<|Vu Z<|V7 [.slice _ _ _,.string _] Z func79 Z<|(aqg A c l x D _ h hl).mono ?_;rintro e w1 ⟨z,rfl,hz,hp⟩;apply rV;have hI:=hI.pure hp;refine Un Z<|V5 Z<|Wn<|WR<|lV 4 Z ⟨?_,hI.pu⟩;show Ending.returned (.bool<|decide (0<=z))=_;rw[hr];congr 2;exact iL.2 hz
theorem XE(w0 w:lE)(H:List lN)(b g T:Nat)(s:ox)(ws:List (List UInt8))(m:Nat)(off val:Nat->Nat)(KB:Nat->Array Value)(XT:lW)
  (hI:ly NF w0 w (B g 174 XT::B b T (KB 0)::H)) (hp:∀k,k<m->XT[k]?=some (lJ b<|off k)) (mo:∀k,k<m->Nat.blt (off k) (KB k).size/\(KB k).setIfInBounds (off k) (Y (val k:Int))=KB (k+1))
  (hw:∀k,k<m->ws[k]?=some (Lib.itoa (val k:Int))/\val k<=1000000) (hm:ws.length=m) (azJ:m<=10) (hl:s.length<=1000) (hc:Lib.countB (ue s) (ue [32])+1=ws.length) (nP:Lib.splitB (ue [32]) 0 (Lib.countB (ue s)<|ue [32]) (ue s)=ws.map ue) (hG:uB w0) (hM:vX w0):
  Cq 78 #[ma s,me g 0 m m] w fun e w'=>e=.returned .nilIface/\ly NF w0 w' (B b T (KB m)::H):=by
 have hN:=fun(w:lE) (hp:Pure w0 w)=>hG.ni (hp.ni NF) A9.none;refine Vo func78 Z<|Wq<|Vh Z<|Wn<|Wq<|Vu Z<|V7 [.string _,.string _] Z func44 Z<|(agD s [32] ws aa aw hc nP _<|hM.pure hI.pu).mono ?_;rintro e w1 ⟨gs,rfl,hT⟩;apply rV;have hI:=hI.app1 hT;refine Vm Z<|Wn ?_;subst hm;refine Ws<|Wq<|Vf Z<|Vp Z y9 Z<|Vf Z<|Vp Z underlying239 Z<|U3 Z<|Yf Z<|Wk<|Ws<|Ws<|Wr<|Vf Z<|Vp Z underlying239 Z<|V0 Z<|Wn<|Wb ?_;refine Wl (fun mu ρ w=>∃k:Nat,mu=ws.length-k/\k<=ws.length/\lA ρ [(20,lI k),(19,lI ws.length),(18,me g 0 ws.length ws.length),(5,me gs 0 ws.length ws.length)]/\ly NF w0 w (B gs 9 (ws.map ma).toArray::B g 174 XT::B b T (KB k)::H)) ws.length
  ⟨0,rfl,aa,⟨rfl,rfl,rfl,rfl,trivial⟩,hI⟩ ?_
 rintro mu ρ w ⟨k,rfl,hk,hH,hI⟩;obtain⟨σ,rfl⟩:=hH.open;by_cases ow:k<ws.length;rotate_left
 .obtain rfl:k=ws.length:=aa;exact Wq<|Vq Z<|Yg Z<|WE<|Wq<|Vh Z<|Wn<|WR<|lV 4 Z ⟨Z,hI.d0.d0⟩
 have⟨BU,hvk⟩:=hw k ow;have⟨nZ,tF⟩:=mo k ow;have oX:=hp k ow;have Pw:(ws.map ma).toArray[k]?=some (ma<|Lib.itoa (val k:Int)):=by rw[fG,gW,BU];rfl
 refine Wq<|Vt Z<|Yu Z<|Wk<|Ws<|Wb<|Wq<|V0 Z<|Tx Z underlying239 Z<|V4 (.pointer _) Z (hI.c1 oX)<|Vb Z<|Uf Z<|Wn<|Wq<|Vf Z<|V0 Z<|Tx Z y9 Z<|V4 (.string _) Z (hI.c0 Pw)<|V7 [.string _] Z func112 Z<|(Z8 (Lib.itoa (val k:Int)) (by have:=aqs (n:=(val k:Int)) aa aa;omega) _<|hN _ hI.pu).mono ?_;unfold Oy;rw[ai9 aa aa];rintro e w1 ⟨⟨rfl, -⟩,Ax⟩;apply rV;have hI:=hI.pure Ax;refine Vy Z<|Vi Z<|Vi Z<|Vb Z<|Vh Z<|Wn<|Ws<|Wb<|Ws<|Yi hI fun Sx hY hZ hI=>?_;refine Wt 0 Z (lL hY fun hI=>(by exact afr rfl rfl))<|Wt 1 Z (lL hY fun hI=>(by exact afz rfl mY rfl))<|Te 2 Z<|Vw 3 Z<|T8 5 Z<|Vw 6 Z<|Uc 7 Z y9 Z<|V9 8 (.string _) Z (lL hY fun h=>h.c0 Pw)<|Vr 4 Z<|V7 [Y _] Z func113 Z<|(Xi (val k:Int) aa aa _<|hN _ hI.pu).mono<|pJ hI fun w1 Ax hI=>Wn ⟨hZ _ hI,(Wt 9 Z (lL hY fun hI=>(Yq Z Z Z Z))<|Ts 10 Z<|Ue 11 Z<|Yz<|Wc false Z<|Wq<|V0 Z<|Vq Z<|V3 Z<|V0 Z<|Ti Z<|Va Z<|V5 Z<|Wn<|Wc false Z<|Wk<|Wr<|V8 Z<|V0 Z<|Ve Z<|La (u:=Y (val k:Int)) hI Z Z Z Z Z Z ai Z nZ tF ?_)⟩;rintro w hI;exact Wn<|Wr<|Vx Z<|V0 Z<|Wn ⟨ws.length-(k+1),aa,k+1,rfl,aa,oy,hI⟩
end
section
open Tryz
open Go Go.ChangeShapes Go.WideShapes Go.Deep
variable{lK:nI}{mh:List Oper}{N_ d_:Nat}{Q_:pg}
section
variable{H:Type}{enc:TypeId×Value->H}{w:lE}{base:Nat}{spare:pw}{held:Bool}
set_option maxRecDepth 8000 in
theorem asA{aBo:Nat}{y:mb}{x:DataW H×List MemPlace}(h:DataW.trod enc prog w base spare held aBo 27 y=some x):∃(n k a t:Int) (b:Bool),y=[Y n,Y k,Y a,Y t,.bool b]:=by
 have⟨aBn,tE⟩:=asx underlying27 ai ai h;have⟨v0,n0,d0,e0,h0⟩:=tE 0 _ rfl;have⟨v1,n1,d1,e1,h1⟩:=tE 1 _ rfl;have⟨v2,n2,d2,e2,h2⟩:=tE 2 _ rfl;have⟨v3,n3,d3,e3,h3⟩:=tE 3 _ rfl;have⟨v4,n4,d4,e4,h4⟩:=tE 4 _ rfl;have⟨z0,C6,_⟩:=jr sM h0;have⟨z1,pF,_⟩:=jr sM h1;have⟨z2,xw,_⟩:=jr sM h2;have⟨z3,F6,_⟩:=jr sM h3;have⟨z4,F7,_⟩:=DataW.trod_bool E6 h4;injection C6 with C6 _;injection pF with pF _;injection xw with xw _;injection F6 with F6 _;injection F7 with F7 _;subst C6 pF xw F6 F7;refine⟨z0,z1,z2,z3,z4,?_⟩
 match y,aBn,e0,e1,e2,e3,e4 with
 |[y0,y1,y2,y3,y4],_,e0,e1,e2,e3,e4=>simp only[eU,eT,ia]at e0 e1 e2 e3 e4;rw[e0,e1,e2,e3,e4]
end
end
end Go.Proofs.YtfjcghhjlmfggaaGreatDoor
namespace Go.Proofs.YtfjcghhjlmfggaaGreatDoor
theorem aH{p:Prop}(h:p:=by exact H9 rfl rfl rfl (by omega)):p:=h
theorem cF{p:Prop}(h:p:=by exact Yq rfl rfl rfl (by assumption)):p:=h
theorem bK{p:Prop}(h:p:=by exact afJ rfl rfl rfl (by assumption)):p:=h
theorem aO{p:Prop}(h:p:=by rw[Option.map_eq_none_iff];exact Option.eq_none_iff_forall_ne_some.2 fun v hv=>by obtain⟨q1,q2,q3,q4⟩:=QJ.1 hv;rw[hx]at q1;cases q1):p:=h
theorem cK{p:Prop}(h:p:=by unfold AE;rw[hx];simp only;rw[if_pos hit];exact nR):p:=h
theorem aM{p:Prop}(h:p:=by rw[Option.map_eq_none_iff];exact Option.eq_none_iff_forall_ne_some.2 fun v hv=>by obtain⟨q1,q2,q3,q4⟩:=QJ.1 hv;rw[hx]at q1;cases q1;omega):p:=h
theorem cT{p:Prop}(h:p:=by unfold eW;rw[h1];simp only;rw[h2];exact FO):p:=h
open Tryz
open Go.RowKit
variable{c n:Nat}
mutual
inductive qe:Ge->Value->List lN->Prop
 |rd {k b}:qe (.rd k) (.iface 195<|mP b) [B b 197 #[.int .i64 k]]|wr {k l t b}: -1000000<=l->l<=t->t<=1000000->qe (.wr k l t) (.iface 242<|mP b) [B b 244 #[.int .i64 k,.int .i64 l,.int .i64 t]]|qO {n g v L b}:n<=1000->qe g v L->qe (.qO n g) (.iface 199<|mP b) (B b 201 #[v,.int .i64 (n:Int)]::L)|mix {gs vs L b A c}:gs.length<=1000000->ri gs vs L->qe (.mix gs) (.iface 205<|mP b) (B b 207 #[.slice A gs.length c]::lz 0 73 1 A gs.length c vs::L)|tN {gs vs L b A c}:gs.length<=1000000->ri gs vs L->qe (.tN gs) (.iface 208<|mP b) (B b 209 #[.slice A gs.length c]::rS 73 1 A gs.length c vs::L)
inductive ri:List Ge->List Value->List lN->Prop
 |nil:ri [] [] []|cons {g v L gs vs M}:qe g v L->ri gs vs M->ri (g::gs) (v::vs) (L++M)
end
theorem qe.val{g:Ge}{v:lH}{L:List lN}(h:qe g v L):∃T b,v=.iface T (mP b):=by cases h<;>exact⟨_,_,rfl⟩
theorem ri.len:∀{gs:List Ge} {vs:mb} {L:List lN},ri gs vs L->vs.length=gs.length
 |_,_,_,.nil=>rfl|_,_,_,.cons _ h=>by simp[ri.len h]
theorem ri.one:∀{gs:List Ge} {vs:mb} {L:List lN},ri gs vs L->∀u∈vs,u.oneCell'
 |_,_,_,.nil=>aq|_,_,_,.cons h h2=>by
  intro u hu;rcases jM.1 hu with rfl|hu
  .obtain⟨T,b,rfl⟩:=h.val;rfl
  exact ri.one h2 u hu
theorem ri.at_:∀{gs:List Ge} {vs:mb} {L:List lN} (_:ri gs vs L) (i:Nat) (g:Ge),gs[i]?=some g->
  ∃v M R,vs[i]?=some v/\qe g v M/\L.Perm (M++R)/\ri (gs.eraseIdx i) (vs.eraseIdx i) R/\∀g' M',qe g' v M'->∃L',ri (gs.set i g') vs L'/\L'.Perm (M'++R)
 |_,_,_,.nil,i,g,hi=>by simp at hi
 |_,_,_,@ri.cons g0 v0 L0 gs vs M0 h0 h1,0,g,hi=>by simp only[eU,ia]at hi;subst hi;exact⟨v0,L0,M0,Z,h0,List.Perm.refl _,h1,fun g' M' h'=>⟨M'++M0,.cons h' h1,List.Perm.refl _⟩⟩
 |_,_,_,@ri.cons g0 v0 L0 gs vs M0 h0 h1,i+1,g,hi=>by
  simp only[eT]at hi;have⟨v,M,R,hv,hg,hp,he,hs⟩:=ri.at_ h1 i g hi;refine⟨v,M,L0++R,by simpa using hv,hg,(hp.append_left L0).trans<|ee L0 M R,?_,fun g' M' h'=>?_⟩
  .simp only[eQ];exact .cons h0 he
  have⟨L',h2,wG⟩:=hs g' M' h';refine⟨L0++L',?_,(wG.append_left L0).trans<|ee L0 M' R⟩;simp only[gH];exact .cons h0 h2
section
variable{S:lF}{w0 w w':lE}{H:List lN}
theorem ly.JP{t:lN}{X L M:List lN}(h:ly S w0 w (t::(X++(L++M)))):ly S w0 w (t::(L++(X++M))):=h.perm ((ee X L M).cons t)
theorem ly.af3{base e n c j:Nat}{A:lO}{xs:mb}{u:lH}(hI:ly S w0 w (lz base e 1 A n c xs::H))(hj:xs[j]?=some u):∃g,A=some ⟨g,0,none⟩/\w.cell? ⟨g,j,none⟩=some u:=by
 have h1:w.ownsRow base e 1 (.slice A n c) n xs:=(hI.ok _<|gE ..).1;have hl:=(oS hj).1;rcases h1.2 with⟨hv,h0⟩|⟨g,cap,aBl,hv,hb,hh,sn,qb,mL,uv⟩
 .have:=h1.1;omega
 injection hv with q1 q2 q3;subst q1 q3;have hB:mV w g e aBl:=hh;refine⟨g,Z,?_⟩;rw[hB.cell,<-fx];rw[<-uv,gC]at hj;split at hj
 .exact hj
 cases hj
theorem ly.auv{base e n c j g:Nat}{xs:mb}{u:lH}(hI:ly S w0 w (lz base e 1 (some ⟨g,0,none⟩) n c xs::H))(hj:xs[j]?=some u):w.cell? ⟨g,j,none⟩=some u:=by have⟨g',hA,h⟩:=hI.af3 hj;injection hA with hA;injection hA with hA;subst hA;exact h
theorem ly.sub{H':List lN}(h:ly S w0 w H)(hs:H'.Sublist H):ly S w0 w H':=⟨h.ni,fun e he=>h.ok e (hs.subset he),fun e he=>h.own e (hs.subset he),h.apart.sublist hs⟩
theorem al6{n c k:Nat}{A:lO}{xs:mb}(hI:ly S w0 w (lz 0 73 1 A n c xs::H))(h1:∀u∈xs,u.oneCell')(hk:k<n)(hn:n<=1000000):
  Cq 228 #[.slice A n c,lI k,Y<|(k:Int)+1] w fun en w'=>∃A' c',en=.returned (.slice A' (n-1) c')/\ly S w0 w' (lz 0 73 1 A' (n-1) c' (xs.eraseIdx k)::H):=by
 have qc:w.ownsRow 0 73 1 (.slice A n c) n xs:=(hI.ok _<|gE ..).1;refine(al7 0 n k _ _ w qc h1 hk hn).mono ?_;rintro e w' ⟨v',rfl,ho,hc,hb⟩;obtain⟨A',c',rfl⟩:∃A' c',v'=.slice A' (n-1) c':=by
  rcases ho.2 with⟨hv,h0⟩|⟨g,cap,aBl,hv,_⟩
  .exact⟨none,0,by rw[hv,h0]⟩
  exact⟨_,_,hv⟩
 have ob:∀(A:lO) (n c:Nat),(Value.slice A n c).ownBlock=A.map (·.block):=fun A n c=>by cases A<;>rfl
 rw[ob,ob]at hb;refine⟨A',c',Z,hI.u0 (hc.mono fun k _ hk=>?_) (lz.ok ho) fun k hk=>.inl ?_⟩
 .show A.map (·.block)=some k;rw[<-ob A n c];exact hk.symm
 show A.map (·.block)=some k;rw[<-hb];exact hk
end
def SN(r:Option Ca):Bool:=(r.getD (false,0,0)).1
def SO(r:Option Ca):Int:=(r.getD (false,0,0)).2.1
def SP(r:Option Ca):Int:=(r.getD (false,0,0)).2.2
def OH(r:Option Ca):Value:=.agg #[.bool (SN r),.int .i64 (SO r),.int .i64 (SP r)]
def Cs(nums:mq)(D:lF)(A:lO)(len cp:Nat)(g:Ge)(v:lH)(L:List lN):Prop:=
 ∃T b f,v=.iface T (mP b)/\(∀y (w:lE),(callMethod (.iface T<|mP b) "Next" #[y]).run prog w=.ok (.enter f #[mP b,y]) w)/\
  ∀(S:lF) (w0 w:lE) (H:List lN) (q u:Nat),ly S w0 w (mX q (.slice A len cp) u::(L++H))->pL w0 D (.slice A len cp) nums->(∀k,D k->¬S k)->u+g.sz<=4611686018427387904->
   Cq f #[mP b,mP q] w fun e w'=>∃r g' L' u',Nx nums g u r g' u'/\qe g' v L'/\e=.returned (.tuple #[OH r,.bool r.isSome])/\ly S w0 w' (mX q (.slice A len cp) u'::(L'++H))
section
variable{nums:mq}{D:lF}{A:lO}{len cp:Nat}
theorem at4(k:Int)(b:Nat):Cs nums D A len cp (.rd k) (.iface 195 (mP b)) [B b 197 #[Y k]]:=by refine⟨_,_,225,Z,fun y w=>ai,?_⟩;intro S w0 w H q u hI hN hD hu;simp only[ir,je]at hI;unfold mX at hI;refine Vo func225 Z<|Wq<|T6 (.agg #[.bool false,Y 0,Y 0]) (#[.bool false,Y 0,Y 0]) hI Z ?_;rintro b4 w- -hI;refine V5 Z<|Wn<|Wq<|V8 Z<|Ve Z<|V6 0 Z<|V4 (Y _) Z (hI.c2 Z)<|Tf [(1,Y _)] [_,_,_] Z [.bool false,Y 0,Y 0] [1] Z (fun _=>ai)<|Ta 3 (#[_,_,_]) (.agg _) hI rfl ?_;intro w hI;exact V5 Z<|Wn<|WR<|Up 211 3 (.inr Z) Z hI.g0 ⟨some (false,k,0),.rd k,_,u,.rd,.rd,Z,hI.d0⟩
theorem axP(k l t:Int)(b:Nat)(h1: -1000000<=l)(h2:l<=t)(h3:t<=1000000):Cs nums D A len cp (.wr k l t) (.iface 242 (mP b)) [B b 244 #[Y k,Y l,Y t]]:=by refine⟨_,_,230,Z,fun y w=>ai,?_⟩;intro S w0 w H q u hI hN hD hu;simp only[ir,je]at hI;unfold mX at hI;have lX:=OB nums u (t-l+1) aa;refine Vo func230 Z<|Wq<|T6 (.agg #[.bool false,Y 0,Y 0]) (#[.bool false,Y 0,Y 0]) hI Z ?_;rintro b4 w- -hI;refine V5 Z<|Wn<|Ws<|Wd ai<|Wi (T:=[22]) hI.d1.drew ?_;intro Sx hY hZ;have hI:=hI.drew;refine Vj 0 Z<|Vk 1 Z<|Vd 2 0 Z<|V9 3 (Y _) Z (lL hY fun h=>h.c1 Z)<|Vj 4 Z<|Vk 5 Z<|Vd 6 1 Z<|V9 7 (Y _) Z (lL hY fun h=>h.c1 Z)<|Vj 8 Z<|Vj 9 Z<|Vk 10 Z<|Vd 11 2 Z<|V9 12 (Y _) Z (lL hY fun h=>h.c1 Z)<|Vj 13 Z<|Vk 14 Z<|Vd 15 1 Z<|V9 16 (Y _) Z (lL hY fun h=>h.c1 Z)<|Wt 17 Z (lL hY fun hI=>(by exact Kl rfl rfl rfl aa))<|Wt 18 Z (lL hY fun hI=>aH)<|Vr 19 Z<|V7 [.pointer _,Y _] Z func56 Z<|(SE S D w0 _ _ q A len cp nums u (t-l+1) (hI.pull 1 Z) hN hD aa aa (by have:(Ge.wr k l t).sz=1:=rfl;omega)).mono ?_;rintro e w1 ⟨rfl,nd⟩;apply rV;replace hI:ly S w0 w1 (B b4 211 #[.bool false,Y 0,Y 0]::B q 80 #[.slice A len cp,Y ((u+1:Nat):Int)]::B b 244 #[Y k,Y l,Y t]::H):=nd.back 1;refine Wn ⟨hZ _ hI.d1,(Wt 20 Z (lL hY fun hI=>aH)<|Ub 21 [(0,.bool _),(1,Y _),(2,Y _)] [_,_,_] Z [.bool false,Y 0,Y 0] [0,1,2] Z (fun _ _=>fun _=>ai)<|qn ai ?_)⟩;refine Tc 22 Z<|Ta 3 (#[_,_,_]) (.agg _) hI Z ?_;intro w hI;exact Wn<|Tc 23 Z<|V5 Z<|Wn<|qm ai<|WR<|Up 211 3 (.inr Z) Z hI.g0 ⟨some (true,k,l+xL nums u (t-l+1)),.wr k l t,_,u+1,.wr,.wr h1 h2 h3,Z,hI.d0⟩
theorem aqK(n:Nat)(g:Ge)(v:lH)(L:List lN)(b:Nat)(hn:n<=1000)(hg:qe g v L)(hG:Cs nums D A len cp g v L):Cs nums D A len cp (.qO n g) (.iface 199 (mP b)) (B b 201 #[v,lI n]::L):=by
 refine⟨_,_,226,Z,fun y w=>ai,?_⟩;intro S w0 w H q u hI hN hD hu;obtain⟨T,bc,f,rfl,hm,hG⟩:=hG;simp only[ir]at hI;have mR:(Ge.qO n g).sz=1+g.sz:=by simp only[Ge.sz]
 unfold mX at hI;refine Vo func226 Z<|Wq<|T6 (.agg #[.bool false,Y 0,Y 0]) (#[.bool false,Y 0,Y 0]) hI Z ?_;rintro b4 w- -hI;refine V5 Z<|Wn ?_;cases n with
 |zero=>refine Ws<|Wq<|V8 Z<|Ve Z<|V6 1 Z<|V4 (Y _) Z (hI.c2 Z)<|Vz Z<|Yt Z<|Wq<|Tf [] [_,_,_] Z [.bool false,Y 0,Y 0] [] Z (fun _=>ai)<|Ta 3 (#[_,_,_]) (.agg _) hI rfl ?_;intro w hI;exact V5 Z<|Wn<|WR<|Up 211 3 (.inr Z) Z hI.g0 ⟨none,.qO 0 g,_,u,.Qo,.qO hn hg,Z,hI.d0⟩
 |succ n=>refine Ws<|Wq<|V8 Z<|Ve Z<|V6 1 Z<|V4 (Y _) Z (hI.c2 Z)<|Vv Z<|Yf Z<|Wk<|Wq<|V8 Z<|Ve Z<|V6 1 Z<|V4 (Y _) Z (hI.c2 Z)<|Wv Z (Ib (a:=n+1) (b:=1) Z Z Z aa aa)<|Ve Z<|V6 1 Z<|La (u:=Y _) hI Z Z Z Z Z Z ai Z Z Z ?_;intro w hI;refine Wn<|Wq<|V8 Z<|Ve Z<|V6 0 Z<|Wv Z (EK Z ai Z<|by exact hI.c2 rfl)<|V8 Z<|z8 Z Z Z (Kh (f:=f) (vs:=[_]) Z Z Z<|fun w=>hm _ w)<|(hG S w0 _ _ q u ((hI.pull 1 Z).JP (X:=[_,_])) hN hD aa).mono ?_;rintro e w1 ⟨r,g',L',u',hx,hr,rfl,nd⟩;unfold OH;apply rV;replace hI:ly S w0 w1 (B b4 211 #[.bool false,Y 0,Y 0]::B q 80 #[.slice A len cp,lI u']::B b 201 #[.iface T (mP bc),lI n]::(L'++H)):=(nd.JP (L:=[_,_])).back 1;refine Vi Z<|Vi Z<|Ta 3 (#[_,_,_]) (.agg _) hI Z ?_;intro w hI;exact V5 Z<|Wn<|WR<|Up 211 3 (.inr Z) Z hI.g0 ⟨r,.qO n g',_,u',.qO hx,.qO aa hr,Z,hI.d0⟩
theorem arG(uh:List Ge)(Iu:mb)(L0:List lN)(b:Nat)(A0:lO)(c0:Nat)(BP:uh.length<=1000000)(vB:ri uh Iu L0)(hG:∀g,rP uh>=g.sz->∀v L,qe g v L->Cs nums D A len cp g v L):
  Cs nums D A len cp (.mix uh) (.iface 205<|mP b) (B b 207 #[.slice A0 uh.length c0]::lz 0 73 1 A0 uh.length c0 Iu::L0):=by
 refine⟨_,_,227,Z,fun y w=>ai,?_⟩;intro S w0 w H q u0 hI hN hD hu;simp only[ir]at hI;have mR:∀gs,(Ge.mix gs).sz=1+rP gs:=fun gs=>by simp only[Ge.sz]
 unfold mX at hI;refine Vo func227 Z<|Wq<|T6 (.agg #[.bool false,Y 0,Y 0]) (#[.bool false,Y 0,Y 0]) hI Z ?_;rintro b4 w- -hI;refine V5 Z<|Wn<|Ws<|Wb ?_
 refine Wl (fun mu ρ w=>∃(gs:List Ge) (vs:mb) (L:List lN) (A1:lO) (c1 u:Nat),mu=gs.length/\gs.length<=1000000/\rP gs<=rP uh/\ri gs vs L/\u+(Ge.mix gs).sz<=4611686018427387904/\(∀r yC y7,Nx nums (.mix gs) u r yC y7->Nx nums (.mix uh) u0 r yC y7)/\lA ρ [(0,mP b),(1,mP q),(4,mP b4)]/\
   ly S w0 w (B b4 211 #[.bool false,Y 0,Y 0]::B q 80 #[.slice A len cp,lI u]::B b 207 #[.slice A1 gs.length c1]::lz 0 73 1 A1 gs.length c1 vs::(L++H))) uh.length
  ⟨uh,Iu,L0,A0,c0,u0,rfl,BP,ku _,vB,hu,fun _ _ _ h=>h,⟨rfl,rfl,rfl,trivial⟩,hI⟩ ?_
 rintro mu ρ w ⟨gs,vs,L,A1,c1,u,rfl,hl,aBm,hg,hu,vF,hH,hI⟩;obtain⟨σ,rfl⟩:=hH.open;rcases gJ gs.length with hz|uq
 .have Hs:gs=[]:=dX hz;subst Hs;simp only[iZ]at hI;refine Ws<|Wq<|V8 Z<|Ve Z<|V6 0 Z<|V4 (.slice _ _ _) Z (hI.c2 Z)<|Vp Z AQ Z<|Ti Z<|Yf Z<|WE<|Wq<|Tf [] [_,_,_] Z [.bool false,Y 0,Y 0] [] Z (fun _=>ai)<|Ta 3 (#[_,_,_]) (.agg _) hI rfl ?_;intro w hI;exact V5 Z<|Wn<|WR<|Up 211 3 (.inr Z) Z hI.g0 ⟨none,.mix [],_,u,vF _ _ _ .JQ,.mix aq hg,Z,hI.d0.pQ.pQ⟩
 have BH:=OB nums u (gs.length:Int) aa;obtain⟨i,hi⟩:∃i:Nat,xL nums u (gs.length:Int)=(i:Int):=⟨(xL nums u (gs.length:Int)).toNat,aa⟩
 have CQ:i<gs.length:=aa;obtain⟨g,xj⟩:∃g,gs[i]?=some g:=⟨gs[i],nM CQ⟩
 have⟨v,M,R,hvi,WG,hp,hrE,hrS⟩:=hg.at_ i g xj;have apF:=RE gs i g xj;obtain⟨T,bc,f,rfl,hm,UG⟩:=hG g aa v M WG;obtain⟨ga,rfl, -⟩:=(hI.pull 3 rfl).af3 hvi;have ay8:=mR gs;replace hI:ly S w0 w (B b4 211 #[.bool false,Y 0,Y 0]::B q 80 #[.slice A len cp,lI u]::B b 207 #[me ga 0 gs.length c1]::lz 0 73 1 (some ⟨ga,0,none⟩) gs.length c1 vs::(M++(R++H))):=hI.perm (((((by rw[<-gR];exact hp.append_right H:(L++H).Perm (M++(R++H))).cons _).cons _).cons _).cons _)
 refine Ws<|Wq<|V8 Z<|Ve Z<|V6 0 Z<|V4 (.slice _ _ _) Z (hI.c2 Z)<|Vp Z AQ Z<|Ty Z<|Yt Z<|Wk<|Wb<|Ws<|Wr<|V8 Z<|V8 Z<|Ve Z<|V6 0 Z<|V4 (.slice _ _ _) Z (hI.c2 Z)<|Vp Z AQ Z<|V7 [.pointer _,Y _] Z func56 Z<|(SE S D w0 _ _ q A len cp nums u (gs.length:Int) (hI.pull 1 Z) hN hD aa aa aa).mono ?_;rintro e w1 ⟨rfl,nd⟩;rw[hi];apply rV;replace hI:ly S w0 w1 (B b4 211 #[.bool false,Y 0,Y 0]::B q 80 #[.slice A len cp,Y ((u+1:Nat):Int)]::B b 207 #[me ga 0 gs.length c1]::lz 0 73 1 (some ⟨ga,0,none⟩) gs.length c1 vs::(M++(R++H))):=nd.back 1;refine Vb Z<|Wn<|Ws<|Wq<|V8 Z<|Ve Z<|V6 0 Z<|V4 (.slice _ _ _) Z (hI.c2 Z)<|V0 Z<|Tx Z AQ Z<|Wv Z (EK Z ai Z<|by exact((hI.pull 3 rfl).auv hvi))<|V8 Z<|z8 Z Z Z (Kh (f:=f) (vs:=[_]) Z Z Z<|fun w=>hm _ w)<|(UG S w0 _ _ q (u+1) ((hI.pull 1 Z).JP (X:=[_,_,_])) hN hD aa).mono ?_;rintro e w1 ⟨r,g',M',u',hx,hr,rfl,nd⟩;unfold OH;apply rV;replace hI:ly S w0 w1 (B b4 211 #[.bool false,Y 0,Y 0]::B q 80 #[.slice A len cp,lI u']::B b 207 #[me ga 0 gs.length c1]::lz 0 73 1 (some ⟨ga,0,none⟩) gs.length c1 vs::(M'++(R++H))):=(nd.JP (L:=[_,_,_])).back 1;refine Vy Z<|Vi Z<|Vi Z<|T6 (.agg #[.bool false,Y 0,Y 0]) (#[.bool false,Y 0,Y 0]) hI Z ?_;rintro b7 w- -hI;apply Ta 3 (#[_,_,_]) (.agg _) hI Z;intro w hI;refine V5 Z<|Wn<|Wq<|V3 Z<|Wn ?_;cases r with
 |some c=>
  refine Wc true Z<|Wq<|U1 3 Z hI.g0<|DK (u:=.agg _) (vs:= #[_,_,_]) (n:=3) hI Z Z Z Z Z Z ai Z Z Z ?_;intro w hI;refine V5 Z<|Wn<|WR<|Up 211 3 (.inr Z) Z hI.g1 ?_;have⟨L2,Pj,wG⟩:=hrS g' M' hr;refine⟨some c,.mix<|gs.set i g',_,u',vF _ _ _<|.JS xj (by rw[hi]) hx,.mix (A:=some ⟨ga,0,none⟩) (c:=c1) (by rw[ja];exact hl) Pj,Z,?_⟩;rw[ja];apply hI.d0.d0.perm;have F1:(M'++(R++H)).Perm (L2++H):=by rw[<-gR];exact wG.symm.append_right H
  exact((F1.cons _).cons _).cons _
 |none=>
  refine Wc false Z<|Wk ?_;have hI:=hI.d0;refine Wr<|V8 Z<|V8 Z<|Ve Z<|V6 0 Z<|V4 (.slice _ _ _) Z (hI.c2 Z)<|V0 Z<|V0 Z<|Vx Z<|V7 [.slice _ _ _,Y _,Y _] Z func228 Z<|(al6 (hI.pull 3 Z) hg.one CQ hl).mono ?_;rintro e w1 ⟨A',c',rfl,nd⟩;apply rV;replace hI:ly S w0 w1 (B b4 211 #[.bool false,Y 0,Y 0]::B q 80 #[.slice A len cp,lI u']::B b 207 #[me ga 0 gs.length c1]::lz 0 73 1 A' (gs.length-1) c' (vs.eraseIdx i)::(M'++(R++H))):=nd.back 3;refine Ve Z<|V6 0 Z<|Ow (u:=.slice _ _ _) (vs:= #[_]) (n:=1) hI Z Z Z Z Z Z ai Z Z Z ?_;intro w hI;apply Wn;have hlE:(gs.eraseIdx i).length=gs.length-1:=by rw[eA CQ]
  refine⟨(gs.eraseIdx i).length,aa,gs.eraseIdx i,vs.eraseIdx i,R,A',c',u',rfl,aa,aa,hrE,?_,fun r yC y7 h=>vF _ _ _<|.JR xj (by rw[hi]) hx h,sf,?_⟩
  .have:=hx.sz;have:=mR<|gs.eraseIdx i;omega
  rw[hlE];exact hI.sub<|((((eJ ..).cons_cons _).cons_cons _).cons_cons _).cons_cons _
theorem aw2(uh:List Ge)(Iu:mb)(L0:List lN)(b:Nat)(A0:lO)(c0:Nat)(BP:uh.length<=1000000)(vB:ri uh Iu L0)(hG:∀g,rP uh>=g.sz->∀v L,qe g v L->Cs nums D A len cp g v L):
  Cs nums D A len cp (.tN uh) (.iface 208<|mP b) (B b 209 #[.slice A0 uh.length c0]::rS 73 1 A0 uh.length c0 Iu::L0):=by
 refine⟨_,_,229,Z,fun y w=>ai,?_⟩;intro S w0 w H q u0 hI hN hD hu;simp only[ir]at hI;have mR:∀gs,(Ge.tN gs).sz=1+rP gs:=fun gs=>by simp only[Ge.sz]
 unfold mX at hI;refine Vo func229 Z<|Wq<|T6 (.agg #[.bool false,Y 0,Y 0]) (#[.bool false,Y 0,Y 0]) hI Z ?_;rintro b4 w- -hI;refine V5 Z<|Wn<|Ws<|Wb ?_
 refine Wl (fun mu ρ w=>∃(gs:List Ge) (vs:mb) (L:List lN) (A1:lO) (c1 u:Nat),mu=gs.length/\gs.length<=1000000/\rP gs<=rP uh/\ri gs vs L/\u+(Ge.tN gs).sz<=4611686018427387904/\(∀r yC y7,Nx nums (.tN gs) u r yC y7->Nx nums (.tN uh) u0 r yC y7)/\lA ρ [(0,mP b),(1,mP q),(4,mP b4)]/\
   ly S w0 w (B b4 211 #[.bool false,Y 0,Y 0]::B q 80 #[.slice A len cp,lI u]::B b 209 #[.slice A1 gs.length c1]::rS 73 1 A1 gs.length c1 vs::(L++H))) uh.length
  ⟨uh,Iu,L0,A0,c0,u0,rfl,BP,ku _,vB,hu,fun _ _ _ h=>h,⟨rfl,rfl,rfl,trivial⟩,hI⟩ ?_
 rintro mu ρ w ⟨gs,vs,L,A1,c1,u,rfl,hl,aBm,hg,hu,vF,hH,hI⟩;obtain⟨σ,rfl⟩:=hH.open;cases hg with
 |nil=>simp only[iZ]at hI;refine Ws<|Wq<|V8 Z<|Ve Z<|V6 0 Z<|V4 (.slice _ _ _) Z (hI.c2 Z)<|Vp Z AQ Z<|Ti Z<|Yf Z<|WE<|Wq<|Tf [] [_,_,_] Z [.bool false,Y 0,Y 0] [] Z (fun _=>ai)<|Ta 3 (#[_,_,_]) (.agg _) hI rfl ?_;intro w hI;exact V5 Z<|Wn<|WR<|Up 211 3 (.inr Z) Z hI.g0 ⟨none,.tN [],_,u,vF _ _ _ .Y8,.tN aq .nil,Z,hI.d0.pQ.pQ⟩
 |@cons g v M gs vs R WG hrR=>
 have apF:rP (g::gs)=1+g.sz+rP gs:=by simp only[rP]
 obtain⟨T,bc,f,rfl,hm,UG⟩:=hG g aa v M WG;obtain⟨ga,oa,rfl, -⟩:=(hI.pull 3 rfl).ahL (j:=0) rfl;have azb:=mR<|g::gs;have JB:∀{w:lE} {H:List lN},ly S w0 w (rS 73 1 (some ⟨ga,oa,none⟩) (g::gs).length c1 (.iface T (mP bc)::vs)::H)->w.cell? ⟨ga,oa,none⟩=some (.iface T<|mP bc):=fun h=>by have⟨g1,o1,h1,h2⟩:=h.ahL (j:=0) rfl;injection h1 with h1;injection h1 with h1 h3;subst h1 h3;exact h2
 rw[gR]at hI;have uq:0<(g::gs).length:=aq;refine Ws<|Wq<|V8 Z<|Ve Z<|V6 0 Z<|V4 (.slice _ _ _) Z (hI.c2 Z)<|Vp Z AQ Z<|Ty Z<|Yt Z<|Wk<|Wb<|Ws<|Wq<|V8 Z<|Ve Z<|V6 0 Z<|V4 (.slice _ _ _) Z (hI.c2 Z)<|Wv Z (zN (i:=0) Z AQ ai Z Z aq)<|Wv Z (EK Z ai Z<|by exact(JB<|hI.pull 3 rfl))<|V8 Z<|z8 Z Z Z (Kh (f:=f) (vs:=[_]) Z Z Z<|fun w=>hm _ w)<|(UG S w0 _ _ q u ((hI.pull 1 Z).JP (X:=[_,_,_])) hN hD aa).mono ?_;rintro e w1 ⟨r,g',M',u',hx,hr,rfl,nd⟩;unfold OH;apply rV;replace hI:ly S w0 w1 (B b4 211 #[.bool false,Y 0,Y 0]::B q 80 #[.slice A len cp,lI u']::B b 209 #[me ga oa (g::gs).length c1]::rS 73 1 (some ⟨ga,oa,none⟩) (g::gs).length c1 (.iface T (mP bc)::vs)::(M'++(R++H))):=(nd.JP (L:=[_,_,_])).back 1;refine Vy Z<|Vi Z<|Vi Z<|T6 (.agg #[.bool false,Y 0,Y 0]) (#[.bool false,Y 0,Y 0]) hI Z ?_;rintro b6 w- -hI;apply Ta 3 (#[_,_,_]) (.agg _) hI Z;intro w hI;refine V5 Z<|Wn<|Wq<|V3 Z<|Wn ?_;cases r with
 |some c=>refine Wc true Z<|Wq<|U1 3 Z hI.g0<|DK (u:=.agg _) (vs:= #[_,_,_]) (n:=3) hI Z Z Z Z Z Z ai Z Z Z ?_;intro w hI;refine V5 Z<|Wn<|WR<|Up 211 3 (.inr Z) Z hI.g1 ⟨some c,.tN<|g'::gs,_,u',vF _ _ _<|.NU hx,.tN (A:=some ⟨ga,oa,none⟩) (c:=c1) hl<|.cons hr hrR,Z,?_⟩;simp only[ir,gR];exact hI.d0.d0
 |none=>refine Wc false Z<|Wk ?_;have hI:=hI.d0;refine Wr<|V8 Z<|V8 Z<|Ve Z<|V6 0 Z<|V4 (.slice _ _ _) Z (hI.c2 Z)<|Wv Z (afD (sz:=1) (i:=1) Z AQ ai Z Z aa)<|Ve Z<|V6 0 Z<|Ow (u:=.slice _ _ _) (vs:= #[_]) (n:=1) hI Z Z Z Z Z Z ai Z Z Z ?_;intro w hI;apply Wn;replace hI:=(hI.pull 3 rfl).axB (n:=gs.length);have nR:ly S w0 w (B b4 211 #[.bool false,Y 0,Y 0]::B q 80 #[.slice A len cp,lI u']::B b 209 #[.slice (if c1=1 then some ⟨ga,oa,none⟩else(some ⟨ga,oa,none⟩:lO).map (·.add (1*1))) gs.length (c1-1)]::rS 73 1 (if c1=1 then some ⟨ga,oa,none⟩else(some ⟨ga,oa,none⟩:lO).map (·.add (1*1))) gs.length (c1-1) vs::(M'++(R++H))):=hI.back 3;have pO:=hx.sz;have hT:=mR gs;have yK:(g::gs).length=gs.length+1:=rfl;exact⟨gs.length,aa,gs,vs,R,(if c1=1 then some ⟨ga,oa,none⟩else(some ⟨ga,oa,none⟩:lO).map (·.add (1*1))),c1-1,u',rfl,aa,aa,hrR,aa,fun r yC y7 h=>vF _ _ _<|.NT hx h,sf,(nR.sub<|((((eJ ..).cons_cons _).cons_cons _).cons_cons _).cons_cons _)⟩
theorem O9:∀(n:Nat) (g:Ge),g.sz<=n->∀v L,qe g v L->Cs nums D A len cp g v L
 |0,g,h,v,L,hr=>by
  have:0<g.sz:=by cases g<;>simp only[Ge.sz]<;>omega
  omega
 |n+1,g,h,v,L,hr=>by
  cases hr with
  |rd=>exact at4 _ _|wr h1 h2 h3=>exact axP _ _ _ _ h1 h2 h3|qO hn hg=>simp only[Ge.sz]at h;exact aqK _ _ _ _ _ hn hg<|O9 n _ aa _ _ hg|mix hl hg=>simp only[Ge.sz]at h;exact arG _ _ _ _ _ _ hl hg fun g qp v L hv=>O9 n g aa v L hv
  |tN hl hg=>simp only[Ge.sz]at h;exact aw2 _ _ _ _ _ _ hl hg fun g qp v L hv=>O9 n g aa v L hv
theorem qe.ama{g:Ge}{v:lH}{L:List lN}(h:qe g v L):Cs nums D A len cp g v L:=O9 _ g (ku _) v L h
end
def qW(g:Nat)(mf:List Sg):lN:=⟨fun k=>k=g,fun w=>∃(T:lT) (aBl:lW),mV w g T aBl/\∀(j:Nat) (u:lH),(mf.flatMap yi)[j]?=some u->aBl[j]?=some u⟩
def qq(p g:Nat)(mf:List Sg)(c i:Nat):lN:=B p 145 #[.slice (some ⟨g,i*2,none⟩) (mf.length-i) (c-i)]
structure wX(T:List lC)(mf:List Sg)(c:Nat):Prop where
 hs:mf.map (·.1)=T++[[]]
 ne:∀t∈T,t≠[]
 nc:mf.length<=c
 c63:c<=9223372036854775807
 tl:T.length<=100000
 tk:∀t∈T,t.length<=1000000
section
variable{T:List lC}{mf:List Sg}{c i p g:Nat}{S:lF}{w0 w:lE}{H:List lN}
theorem wX.len(h:wX T mf c):mf.length=T.length+1:=by have:=kY List.length h.hs;simpa using this
theorem wX.at_(h:wX T mf c)(hi:i<=T.length):∃n,mf[i]?=some (oL (T.drop i),n):=by
 have hl:i<mf.length:=by rw[h.len];omega
 refine⟨mf[i].2,?_⟩;rw[nM hl];congr 1;have h1:(mf.map (·.1))[i]?=some mf[i].1:=by rw[gW,nM hl];rfl
 rw[h.hs]at h1;refine Prod.ext ?_ Z;show mf[i].1=oL (T.drop i);rcases j6 i T.length with h2|h2
 .rw[eH h2,nM h2]at h1;rw[eF h2];exact(jl h1).symm
 obtain rfl:i=T.length:=aa;rw[ey (ku _),j8]at h1;rw[fp (ku _)];exact(jl h1).symm
theorem wX.tok(h:wX T mf c)(i:Nat):(oL (T.drop i)).length<=1000000:=by
 rcases j6 i T.length with h2|h2
 .rw[eF h2];exact h.tk _<|iw h2
 rw[fp h2];simp[oL]
theorem qW.cells(hI:ly S w0 w (qW g mf::H)){s:Sg}(hi:mf[i]?=some s):w.cell? ⟨g,i*2,none⟩=some (ma s.1)/\w.cell? ⟨g,i*2+1,none⟩=some (lI s.2):=by have⟨T,aBl,hb,hc⟩:=(hI.ok _<|gE ..).1;have h0:=O2 agu mf i 0 s hi aa;have h1:=O2 agu mf i 1 s hi aa;rw[hb.cell,hb.cell];exact⟨hc _ _ h0,hc _ _ h1⟩
theorem wX.cells(h:wX T mf c)(hi:i<=T.length)(hI:ly S w0 w (qq p g mf c i::qW g mf::H)):w.cell? ⟨g,i*2,none⟩=some (ma (oL (T.drop i)))/\∃n:Nat,w.cell? ⟨g,i*2+1,none⟩=some (lI n):=by have⟨n,hn⟩:=h.at_ hi;have:=qW.cells hI.d0 hn;exact⟨this.1,n,this.2⟩
end
theorem GC(T:List lC)(mf:List Sg)(c i p g:Nat)(S:lF)(w0 w:lE)(H:List lN)(ec:Int)(hP:wX T mf c)(hi:i<=T.length)(hI:ly S w0 w (qq p g mf c i::qW g mf::H)):
  Cq 83 #[mP p,Y ec] w fun e w'=>∃aBh u,e=.returned (.iface aBh u)/\ly S w0 w' (uT (.iface aBh u) ec::qq p g mf c i::qW g mf::H):=by
 have⟨hc,n,hn⟩:=hP.cells hi hI;have hl:=hP.len;have sn:=hP.nc;unfold qq at hI;refine Vo func83 Z<|Wq<|Vh Z<|Wn<|Wq<|V0 Z<|V8 Z<|Ve Z<|V6 0 Z<|V4 (.slice _ _ _) Z (hI.c0 Z)<|Wv Z (yX (sz:=2) (i:=0) Z se ai Z Z aa)<|Tl 1 Z<|V4 (Y _) Z hn<|Tf [(0,Y _),(1,Y _)] [_,_] Z [Y 0,Y 0] [0,1] Z (fun _=>ai)<|Tg (.agg _) (#[_,_]) hI rfl ?_;rintro IU w- -hI;exact T9 Z underlying111 Z<|Vn Z<|Wn<|WR<|lV 4 Z ⟨_,_,Z,hI.abg⟩
theorem QV(T:List lC)(mf:List Sg)(c i p g:Nat)(S:lF)(w0 w:lE)(H:List lN)(hP:wX T mf c)(hi:i<=T.length)(hI:ly S w0 w (qq p g mf c i::qW g mf::H)):
  Cq 84 #[mP p] w fun e w'=>e=.returned (ma<|oL<|T.drop i)/\∃i',i'<=T.length/\T.drop i'=(T.drop i).tail/\ly S w0 w' (qq p g mf c i'::qW g mf::H):=by
 have⟨hc,n,hn⟩:=hP.cells hi hI;have hl:=hP.len;have sn:=hP.nc;unfold qq at hI;refine Vo func84 Z<|Wq<|Ud Z<|Wn<|Wq<|V8 Z<|Ve Z<|V6 0 Z<|V4 (.slice _ _ _) Z (hI.c0 Z)<|Wv Z (yX (sz:=2) (i:=0) Z se ai Z Z aa)<|Tq Z<|V4 (.string _) Z hc<|Ud Z<|Wn ?_;rcases j6 i T.length with lX|oh
 .have mK:oL (T.drop i)≠[]:=by
   rw[eF lX];exact hP.ne _<|iw lX
  refine Ws<|Wq<|Vu Z<|Wv Z bK<|Yt Z<|Wr<|V8 Z<|V8 Z<|Ve Z<|V6 0 Z<|V4 (.slice _ _ _) Z (hI.c0 Z)<|Wv Z (by exact afC (sz:=2) (i:=1) rfl se ai rfl rfl aa aa)<|Ve Z<|V6 0 Z<|Ta 1 #[_] (.slice _ _ _) hI Z ?_;intro w hI;refine Wn<|Wq<|Vu Z<|Ud Z<|Wn<|WR<|lV 2 Z ⟨Z,i+1,aa,?_,?_⟩
  .rw[eF lX];rfl
  unfold qq;rw[show(i+1)*2=i*2+1*2 by omega,Nat.sub_add_eq mf.length,Nat.sub_add_eq c];exact hI
 have he:oL (T.drop i)=[]:=by rw[fp oh];rfl
 refine Ws<|Wq<|Vu Z<|Wv Z cF<|Yf Z<|Wk<|Wq<|Vu Z<|Ud Z<|Wn<|WR<|lV 2 Z ⟨Z,i,hi,?_,hI⟩;rw[fp oh];rfl
theorem I2(T:List lC)(mf:List Sg)(c i p g:Nat)(S:lF)(w0 w:lE)(H:List lN)(t:lC)(hP:wX T mf c)(hi:i<=T.length)(hI:ly S w0 w (qq p g mf c i::qW g mf::H)):
  Cq 55 #[mP p,ma t] w fun e w'=>(oL (T.drop i)=t/\e=.returned .nilIface/\∃i',i'<=T.length/\T.drop i'=(T.drop i).tail/\ly S w0 w' (qq p g mf c i'::qW g mf::H))\/
   (oL (T.drop i)≠t/\∃aBh u,e=.returned (.iface aBh u)/\ly S w0 w' (uT (.iface aBh u) 3::qq p g mf c i::qW g mf::H)):=by
 have⟨hc,n,hn⟩:=hP.cells hi hI;have hl:=hP.len;have sn:=hP.nc;have si:=hI;unfold qq at hI;refine Vo func55 Z<|Wq<|Vh Z<|Wn ?_;by_cases ht:oL (T.drop i)=t
 .refine Ws<|Wq<|V8 Z<|Ve Z<|V6 0 Z<|V4 (.slice _ _ _) Z (hI.c0 Z)<|Wv Z (yX (sz:=2) (i:=0) Z se ai Z Z aa)<|Tq Z<|V4 (.string _) Z hc<|Vu Z<|Wv Z cF<|Yf Z<|Wk<|Wq<|V8 Z<|V7 [.pointer _] Z func84 Z<|(QV T mf c i p g S w0 _ H hP hi hI).mono ?_;rintro e w1 ⟨rfl,i',mr,hd,nd⟩;exact rV<|Wn<|Wq<|Vh Z<|Wn<|WR<|lV 4 Z<|.inl ⟨ht,Z,i',mr,hd,nd⟩
 refine Ws<|Wq<|V8 Z<|Ve Z<|V6 0 Z<|V4 (.slice _ _ _) Z (hI.c0 Z)<|Wv Z (yX (sz:=2) (i:=0) Z se ai Z Z aa)<|Tq Z<|V4 (.string _) Z hc<|Vu Z<|Wv Z bK<|Yt Z<|Wq<|V8 Z<|V7 [.pointer _,Y _] Z func83 Z<|(GC T mf c i p g S w0 _ H 3 hP hi hI).mono ?_;rintro e w1 ⟨aBh,u,rfl,nd⟩;exact rV<|Vn Z<|Wn<|WR<|lV 4 Z<|.inr ⟨ht,aBh,u,Z,nd⟩
def AE(t:lC):Int:=match Lib.atoiAll t with
 |.ok m=>if Lib.itoa m=t then 2 else 3
 |_=>3
theorem Db(T:List lC)(mf:List Sg)(c i p g:Nat)(S:lF)(w0 w:lE)(H:List lN)(a b:Int)(hP:wX T mf c)(hi:i<=T.length)(hI:ly S w0 w (qq p g mf c i::qW g mf::H))(hG:uB w0)(hS:A9 S):
  Cq 85 #[mP p,Y a,Y b] w fun e w'=>(∃n i',rL a b (T.drop i)=some (n,T.drop i')/\e=.returned (.tuple #[Y n,.nilIface])/\i'<=T.length/\ly S w0 w' (qq p g mf c i'::qW g mf::H))\/
   (rL a b (T.drop i)=none/\∃aBh u,e=.returned (.tuple #[Y 0,.iface aBh u])/\ly S w0 w' (uT (.iface aBh u) (AE<|oL<|T.drop i)::qq p g mf c i::qW g mf::H)):=by
 have⟨hc,n,hn⟩:=hP.cells hi hI;have hl:=hP.len;have sn:=hP.nc;have Pg:uB w:=hG.ni hI.ni hS;have adm:=hP.tok i;rw[asb];obtain⟨t,ht⟩:∃t,oL (T.drop i)=t:=⟨_,rfl⟩
 rw[ht]at hc adm|-;unfold qq at hI;refine Vo func85 Z<|Wq<|Vb Z<|Vh Z<|Wn<|Wq<|V8 Z<|Ve Z<|V6 0 Z<|V4 (.slice _ _ _) Z (hI.c0 Z)<|Wv Z (yX (sz:=2) (i:=0) Z se ai Z Z aa)<|Tq Z<|V4 (.string _) Z hc<|Ud Z<|Wn ?_;have yG:=Z8 t adm w Pg;unfold Oy at yG;cases hx:Lib.atoiAll t with
 |ok m=>
  rw[hx]at yG;refine Wq<|Vu Z<|V7 [.string _] Z func112 Z<|yG.mono ?_;rintro e w1 ⟨⟨rfl,rm,rK⟩,hp⟩;apply rV;have hI:=hI.pure hp;refine Vy Z<|Vi Z<|Vi Z<|Vb Z<|Vh Z<|Wn<|Ws<|Wb ?_;by_cases hit:Lib.itoa m=t
  .refine Wq<|Tb Z<|Tn Z mY Z<|V3 Z<|V0 Z<|V7 [Y _] Z func113 Z<|(Xi m rm rK _<|hG.ni hI.ni hS).mono<|pJ hI fun w1 Ax hI=>Vu Z<|Wv Z cF<|Va Z<|V5 Z<|Yf Z ?_;by_cases ha:m<a
   .refine Wq<|V0 Z<|V0 Z<|Vt Z<|V3 Z<|V2 Z<|V2 Z<|V2 Z<|Vg Z<|V5 Z<|Yt Z<|Ws<|Wr<|V8 Z<|V7 [.pointer _,Y _] Z func83 Z<|(GC T mf c i p g S w0 _ H 2 hP hi hI).mono ?_;rintro e w2 ⟨aBh,u,rfl,nR⟩;exact rV<|Vb Z<|Vn Z<|Wn<|WR<|nD 6 7 Z<|.inr ⟨aM,aBh,u,Z,cK⟩
   by_cases hb:b<m
   .refine Wq<|V0 Z<|V0 Z<|Vq Z<|V3 Z<|V0 Z<|V0 Z<|Ty Z<|Va Z<|V5 Z<|Yt Z<|Ws<|Wr<|V8 Z<|V7 [.pointer _,Y _] Z func83 Z<|(GC T mf c i p g S w0 _ H 2 hP hi hI).mono ?_;rintro e w2 ⟨aBh,u,rfl,nR⟩;exact rV<|Vb Z<|Vn Z<|Wn<|WR<|nD 6 7 Z<|.inr ⟨aM,aBh,u,Z,cK⟩
   refine Wq<|V0 Z<|V0 Z<|Vq Z<|V3 Z<|V0 Z<|V0 Z<|Ti Z<|Va Z<|V5 Z<|Yf Z<|Wk<|Wq<|V8 Z<|V7 [.pointer _] Z func84 Z<|(QV T mf c i p g S w0 _ H hP hi hI).mono ?_;rintro e w2 ⟨rfl,i',mr,hd,nR⟩;refine rV<|Wn<|Wq<|V0 Z<|Vb Z<|Vh Z<|Wn<|WR<|nD 6 7 Z<|.inl ⟨m,i',?_,Z,mr,nR⟩;rw[QJ.2 ⟨hx,hit,aa,aa⟩,hd]
   rfl
  refine Wq<|Tb Z<|Tn Z mY Z<|V3 Z<|V0 Z<|V7 [Y _] Z func113 Z<|(Xi m rm rK _<|hG.ni hI.ni hS).mono<|pJ hI fun w1 Ax hI=>Vu Z<|Wv Z bK<|Va Z<|V5 Z<|Yt Z<|Wq<|V8 Z<|V7 [.pointer _,Y _] Z func83 Z<|(GC T mf c i p g S w0 _ H 3 hP hi hI).mono ?_;rintro e w2 ⟨aBh,u,rfl,nR⟩;exact rV<|Vb Z<|Vn Z<|Wn<|WR<|nD 6 7 Z<|.inr ⟨(by rw[Option.map_eq_none_iff];exact Option.eq_none_iff_forall_ne_some.2 fun v hv=>by obtain⟨q1,q2,q3,q4⟩:=QJ.1 hv;rw[hx]at q1;cases q1;exact hit q2),aBh,u,Z,(by unfold AE;rw[hx];simp only;rw[lp hit];exact nR)⟩
 |range=>rw[hx]at yG;refine Wq<|Vu Z<|V7 [.string _] Z func112 Z<|yG.mono ?_;rintro e w1 ⟨⟨m,U0,u0,rfl⟩,hp⟩;apply rV;have hI:=hI.pure hp;refine Vy Z<|Vi Z<|Vi Z<|Vb Z<|Vn Z<|Wn<|Ws<|Wb<|Wq<|Vs Z<|Tp Z mY Z<|V3 Z<|V2 Z<|V2 Z<|V2 Z<|V2 Z<|Vg Z<|V5 Z<|Yt Z<|Wq<|V8 Z<|V7 [.pointer _,Y _] Z func83 Z<|(GC T mf c i p g S w0 _ H 3 hP hi hI).mono ?_;rintro e w2 ⟨aBh,u,rfl,nR⟩;exact rV<|Vb Z<|Vn Z<|Wn<|WR<|nD 6 7 Z<|.inr ⟨aO,aBh,u,Z,(by unfold AE;rw[hx];exact nR)⟩
 |_=>rw[hx]at yG;refine Wq<|Vu Z<|V7 [.string _] Z func112 Z<|yG.mono ?_;rintro e w1 ⟨⟨m,U0,u0,rfl⟩,hp⟩;apply rV;have hI:=hI.pure hp;refine Vy Z<|Vi Z<|Vi Z<|Vb Z<|Vn Z<|Wn<|Ws<|Wb<|Wq<|Vs Z<|Tp Z mY Z<|V3 Z<|V2 Z<|V2 Z<|V2 Z<|V2 Z<|Vg Z<|V5 Z<|Yt Z<|Wq<|V8 Z<|V7 [.pointer _,Y _] Z func83 Z<|(GC T mf c i p g S w0 _ H 3 hP hi hI).mono ?_;rintro e w2 ⟨aBh,u,rfl,nR⟩;exact rV<|Vb Z<|Vn Z<|Wn<|WR<|nD 6 7 Z<|.inr ⟨aO,aBh,u,Z,(by unfold AE;rw[hx];exact nR)⟩
def eW(l:List lC):Int:=match rL 0 7 l with
 |none=>AE<|oL l|some (_,s)=>match rL (-1000000) 1000000 s with
  |none=>AE<|oL s|some (_,s')=>AE<|oL s'
def z6(T:List lC)(mf:List Sg)(c p g:Nat)(S:lF)(w0:lE)(H:List lN)(r:Option (Ge×List lC))(ec:Int)(e:Ending)(w':lE):Prop:=
 (∃ge v L i',r=some (ge,T.drop i')/\e=.returned (.tuple #[v,.nilIface])/\qe ge v L/\i'<=T.length/\ly S w0 w' (qq p g mf c i'::qW g mf::(L++H)))\/
 (r=none/\∃aBh u i',e=.returned (.tuple #[.nilIface,.iface aBh u])/\i'<=T.length/\ly S w0 w' (uT (.iface aBh u) ec::qq p g mf c i'::qW g mf::H))
theorem afb(T:List lC)(mf:List Sg)(c i p g:Nat)(S:lF)(w0 w:lE)(H:List lN)(hP:wX T mf c)(hi:i<=T.length)(hI:ly S w0 w (qq p g mf c i::qW g mf::H))(hG:uB w0)(hS:A9 S):
  Cq 86 #[mP p] w (z6 T mf c p g S w0 H (pW<|T.drop i)<|eW<|T.drop i):=by
 unfold z6;refine Vo func86 Z<|Wq<|Vh Z<|Vh Z<|Wn ?_;cases h1:rL 0 7 (T.drop i)with
 |none=>
  refine Wq<|V8 Z<|V7 [.pointer _,Y _,Y _] Z func85 Z<|(Db T mf c i p g S w0 _ H 0 7 hP hi hI hG hS).mono ?_;rintro e w1 (⟨n,i1,hk, -, -, -⟩|⟨hk,aBh,u,rfl,FO⟩)
  .rw[h1]at hk;cases hk
  exact rV<|Vy Z<|Vi Z<|Vi Z<|Vb Z<|Vn Z<|Wn<|Ws<|Wq<|Vs Z<|Tp Z mY Z<|Yt Z<|Ws<|Wr<|Vs Z<|Vh Z<|Vn Z<|Wn<|WR<|nD 2 3 Z<|.inr ⟨(by unfold pW;rw[h1]),aBh,u,i,Z,hi,(by unfold eW;rw[h1];exact FO)⟩
 |some q1=>
  obtain⟨k,r1⟩:=q1;refine Wq<|V8 Z<|V7 [.pointer _,Y _,Y _] Z func85 Z<|(Db T mf c i p g S w0 _ H 0 7 hP hi hI hG hS).mono ?_;rintro e w1 (⟨k',i1,hk,rfl,sk,nd⟩|⟨hk, -⟩);rotate_left
  .rw[h1]at hk;cases hk
  rw[h1]at hk;cases hk;refine rV<|Vy Z<|Vi Z<|Vi Z<|Vb Z<|Vh Z<|Wn<|Ws<|Wq<|Tb Z<|Tn Z mY Z<|Yf Z<|Wk ?_;cases h2:rL (-1000000) 1000000 (T.drop i1)with
  |none=>
   refine Wq<|V8 Z<|V7 [.pointer _,Y _,Y _] Z func85 Z<|(Db T mf c i1 p g S w0 _ H (-1000000) 1000000 hP sk nd hG hS).mono ?_;rintro e w1 (⟨n,i1,hk, -, -, -⟩|⟨hk,aBh,u,rfl,FO⟩)
   .rw[h2]at hk;cases hk
   exact rV<|Vy Z<|Vi Z<|Vi Z<|Vb Z<|Vn Z<|Wn<|Ws<|Wq<|Vs Z<|Tp Z mY Z<|Yt Z<|Ws<|Wr<|Vs Z<|Vh Z<|Vn Z<|Wn<|WR<|nD 2 3 Z<|.inr ⟨(by unfold pW;rw[h1];simp only;rw[h2]),aBh,u,i1,Z,sk,cT⟩
  |some q2=>
   obtain⟨l,r2⟩:=q2;refine Wq<|V8 Z<|V7 [.pointer _,Y _,Y _] Z func85 Z<|(Db T mf c i1 p g S w0 _ H (-1000000) 1000000 hP sk nd hG hS).mono ?_;rintro e w1 (⟨l',i2,hk,rfl,rX,nR⟩|⟨hk, -⟩);rotate_left
   .rw[h2]at hk;cases hk
   rw[h2]at hk;cases hk;refine rV<|Vy Z<|Vi Z<|Vi Z<|Vb Z<|Vh Z<|Wn<|Ws<|Wq<|Tb Z<|Tn Z mY Z<|Yf Z<|Wk ?_;cases h3:rL l 1000000 (T.drop i2)with
   |none=>
    refine Wq<|V8 Z<|V0 Z<|V7 [.pointer _,Y _,Y _] Z func85 Z<|(Db T mf c i2 p g S w0 _ H l 1000000 hP rX nR hG hS).mono ?_;rintro e w1 (⟨n,i1,hk, -, -, -⟩|⟨hk,aBh,u,rfl,FO⟩)
    .rw[h3]at hk;cases hk
    exact rV<|Vy Z<|Vi Z<|Vi Z<|Vb Z<|Vn Z<|Wn<|Ws<|Wq<|Vs Z<|Tp Z mY Z<|Yt Z<|Ws<|Wr<|Vs Z<|Vh Z<|Vn Z<|Wn<|WR<|nD 2 3 Z<|.inr ⟨(by unfold pW;rw[h1];simp only;rw[h2];simp only;rw[h3]),aBh,u,i2,Z,rX,cT⟩
   |some q3=>
    obtain⟨t,r3⟩:=q3;refine Wq<|V8 Z<|V0 Z<|V7 [.pointer _,Y _,Y _] Z func85 Z<|(Db T mf c i2 p g S w0 _ H l 1000000 hP rX nR hG hS).mono ?_;rintro e w1 (⟨t',i3,hk,rfl,Ar,va⟩|⟨hk, -⟩);rotate_left
    .rw[h3]at hk;cases hk
    rw[h3]at hk;cases hk;refine rV<|Vy Z<|Vi Z<|Vi Z<|Vb Z<|Vh Z<|Wn<|Ws<|Wq<|Tb Z<|Tn Z mY Z<|Yf Z<|Wk ?_;have hI:=va;refine Wq<|V0 Z<|V0 Z<|V0 Z<|Tf [(0,Y _),(1,Y _),(2,Y _)] [_,_,_] Z [Y 0,Y 0,Y 0] [0,1,2] Z (fun _=>ai)<|Tg (.agg _) (#[_,_,_]) hI rfl ?_;rintro b37 w- -hI;refine T9 Z underlying242 Z<|Vn Z<|Vh Z<|Wn<|WR ?_;have yH:=Gi h2;have Ah:=Gi h3;refine nD 2 3 Z<|.inl ⟨.wr k l t,_,_,i3,?_,Z,.wr (b:=b37) yH.1 Ah.1 Ah.2.1,Ar,?_⟩
    .unfold pW;rw[h1];simp only;rw[h2];simp only;rw[h3]
    exact hI.pQ.vR
theorem asT(k:Nat)(l:List lC):pG (k+1) l=if oL l=KE then(rL 0 7 l.tail).map (fun r=>(.rd r.1,r.2))else if oL l=KH then pW l.tail else if oL l=KC then(match rL 0 1000 l.tail with
   |none=>none
   |some (n,s)=>(pG k s).map fun r=>(.qO n.toNat r.1,r.2))else if oL l=KD then(pV (pG k) l.tail).map (fun r=>(.mix r.1,r.2))else if oL l=KG then(pV (pG k) l.tail).map (fun r=>(.tN r.1,r.2))else none:=by
 cases l with
 |nil=>rfl|cons t s=>rfl
theorem asU(p:List lC->Option (Ge×List lC))(l:List lC):pV p l=if oL l=Is then pS p l.tail.length l.tail else none:=by
 cases l with
 |nil=>rfl|cons t s=>rfl
theorem aeR(p:List lC->Option (Ge×List lC))(n:Nat)(s:List lC):pS p (n+1) s=match p s with
  |none=>none|some (g,s')=>if oL s'=RF then some ([g],s'.tail)else if oL s'=Ir then(pS p n s'.tail).map (fun r=>(g::r.1,r.2))else none:=by
 rw[pS];cases p s with
 |none=>rfl|some q=>
  obtain⟨g,s'⟩:=q;cases s' with
  |nil=>rfl|cons t s'=>rfl
def eS(p:List lC->Option (Ge×List lC))(e:List lC->Int):Nat->List lC->Int
 |0,s=>e s|n+1,s=>match p s with
  |none=>e s|some (_,s')=>if oL s'=Ir then eS p e n s'.tail else 3
def eV(p:List lC->Option (Ge×List lC))(e:List lC->Int)(l:List lC):Int:=if oL l=Is then eS p e l.tail.length l.tail else 3
def eG:Nat->List lC->Int
 |0,_=>4
 |k+1,l=>if oL l=KE then AE (oL l.tail)else if oL l=KH then eW l.tail else if oL l=KC then(match rL 0 1000 l.tail with
   |none=>AE<|oL l.tail
   |some (_,s)=>eG k s)else if oL l=KD then eV (pG k) (eG k) l.tail else if oL l=KG then eV (pG k) (eG k) l.tail else 3
theorem alf(k:Nat)(l:List lC):eG (k+1) l=if oL l=KE then AE (oL l.tail)else if oL l=KH then eW l.tail else if oL l=KC then(match rL 0 1000 l.tail with
   |none=>AE<|oL l.tail
   |some (n,s)=>eG k s)else if oL l=KD then eV (pG k) (eG k) l.tail else if oL l=KG then eV (pG k) (eG k) l.tail else 3:=rfl
theorem ri.snoc:∀{gs:List Ge} {vs:mb} {L M:List lN} {g:Ge} {v:lH},ri gs vs L->qe g v M->ri (gs++[g]) (vs++[v]) (L++M)
 |_,_,_,M,g,v,.nil,h=>by
  have:=ri.cons h .nil
  rwa [iU]at this
 |_,_,_,M,g,v,.cons h0 h1,h=>by rw[gR];exact .cons h0<|ri.snoc h1 h
theorem ak8{T:List lC}{i j:Nat}(hj:j<=T.length)(hi:i<=T.length)(h:(T.drop j).length<(T.drop i).length):i<j:=by simp only[iy]at h;omega
def KY(k:Nat):Prop:=∀(d:Int) (T:List lC) (mf:List Sg) (c i p g:Nat) (S:lF) (w0 w:lE) (H:List lN),d=20-(k:Int)->wX T mf c->i<=T.length->ly S w0 w (qq p g mf c i::qW g mf::H)->uB w0->A9 S->
 Cq 54 #[mP p,.int .i64 d] w (z6 T mf c p g S w0 H (pG k<|T.drop i)<|eG k<|T.drop i)
def IL(T:List lC)(mf:List Sg)(c p g:Nat)(S:lF)(w0:lE)(H:List lN)(r:Option (List Ge×List lC))(ec:Int)(e:Ending)(w':lE):Prop:=
 (∃gs vs L A c' i',r=some (gs,T.drop i')/\e=.returned (.tuple #[.slice A gs.length c',.nilIface])/\ri gs vs L/\gs.length<=100000/\i'<=T.length/\ly S w0 w' (qq p g mf c i'::qW g mf::lz 0 73 1 A gs.length c' vs::(L++H)))\/
 (r=none/\∃aBh u i',e=.returned (.tuple #[.slice none 0 0,.iface aBh u])/\i'<=T.length/\ly S w0 w' (uT (.iface aBh u) ec::qq p g mf c i'::qW g mf::H))
theorem au2(k:Nat)(hk:k<=20)(Jf:KY k)(d:Int)(T:List lC)(mf:List Sg)(c i p g:Nat)(S:lF)(w0 w:lE)(H:List lN)(hd:d=20-(k:Int))(hP:wX T mf c)(hi:i<=T.length)(hI:ly S w0 w (qq p g mf c i::qW g mf::H))(hG:uB w0)(hS:A9 S):
  Cq 87 #[mP p,Y d] w (IL T mf c p g S w0 H (pV (pG k)<|T.drop i)<|eV (pG k) (eG k)<|T.drop i):=by
 unfold IL eV;rw[asU];have hTl:=hP.tl;refine Vo func87 Z<|Wq<|Vm Z<|Vh Z<|Wn ?_;by_cases ho:oL (T.drop i)=Is;rotate_left
 .refine Ws<|Wq<|V8 Z<|V7 [.pointer _,.string _] Z func55 Z<|(I2 T mf c i p g S w0 _ H Is hP hi hI).mono ?_;rintro e w1 (⟨h, -⟩|⟨h,aBh,u,rfl,nd⟩)
  .exact ll h ho
  exact rV<|Vn Z<|Wn<|Wq<|Vs Z<|Tp Z mY Z<|Yt Z<|Wq<|Vs Z<|Vm Z<|Vn Z<|Wn<|WR<|nD 4 5 Z<|.inr ⟨lp ho,aBh,u,i,Z,hi,(by rw[lp ho];exact nd)⟩
 rw[lq ho,lq ho];refine Ws<|Wq<|V8 Z<|V7 [.pointer _,.string _] Z func55 Z<|(I2 T mf c i p g S w0 _ H Is hP hi hI).mono ?_;rintro e w1 (⟨h,rfl,i1,sk,oU,nd⟩|⟨h, -⟩);rotate_left
 .exact ll ho h
 refine rV<|Vh Z<|Wn<|Wq<|Tb Z<|Tn Z mY Z<|Yf Z<|Wk<|Wq<|Vm Z<|Wn ?_;rw[<-oU];apply Wb;have FN:=nd.fresh (Pure.refl w1) (lz.nil w1 0 73 1) (fun k hk=>by simp[lz]at hk)
 refine Wl (fun mu ρ w=>∃(n:Nat) (gs:List Ge) (vs:mb) (L:List lN) (A:lO) (c1 i2:Nat),mu=n/\i2<=T.length/\gs.length<=i2/\(T.drop i2).length<=n/\ri gs vs L/\(pS (pG k) (T.drop i1).length (T.drop i1)=(pS (pG k) n (T.drop i2)).map (fun r=>(gs++r.1,r.2))/\eS (pG k) (eG k) (T.drop i1).length (T.drop i1)=eS (pG k) (eG k) n (T.drop i2))/\
   lA ρ [(0,mP p),(1,Y d),(7,.slice A gs.length c1)]/\ly S w0 w (lz 0 73 1 A gs.length c1 vs::qq p g mf c i2::qW g mf::(L++H))) (T.drop i1).length
  ⟨_,[],[],[],none,0,i1,rfl,sk,kz _,ku _,.nil,⟨aq,rfl⟩,⟨rfl,rfl,rfl,trivial⟩,FN⟩ ?_
 rintro mu ρ w ⟨n,gs,vs,L,A,c1,i2,rfl,rX,BM,hn,hL,⟨heq,Jl⟩,hH,hI⟩;obtain⟨σ,rfl⟩:=hH.open;apply Wb;have Wu:=XL k<|T.drop i2;cases hx:pG k (T.drop i2)with
 |none=>
  refine Wq<|V8 Z<|V0 Z<|V7 [.pointer _,Y _] Z func54 Z<|(Jf d T mf c i2 p g S w0 _ _ hd hP rX ((hI.pull 0 Z).pQ.vR) hG hS).mono ?_;unfold z6;rintro e w2 (⟨ge,v,L',i',h, -⟩|⟨-,aBh,u,i',rfl,mr,nR⟩)
  .rw[hx]at h;cases h
  refine rV<|Vy Z<|Vi Z<|Vi Z<|Vh Z<|Vn Z<|Wn<|Ws<|Wq<|Vs Z<|Tp Z mY Z<|Yt Z<|Ws<|Wr<|Vs Z<|Vm Z<|Vn Z<|Wn<|WR ?_;have hee:eS (pG k) (eG k) (T.drop i1).length (T.drop i1)=eG k (T.drop i2):=by
   rw[Jl];cases mu with
   |zero=>rfl|succ n=>simp only[eS,hx]
  rw[hee];refine nD 4 5 Z<|.inr ⟨?_,aBh,u,i',Z,mr,nR.sub ?_⟩
  .rw[heq];cases mu with
   |zero=>rfl|succ n=>rw[aeR,hx];rfl
  exact((((eJ ..).cons _).cons_cons _).cons_cons _).cons_cons _
 |some q=>
  obtain⟨ge,r⟩:=q;obtain⟨mR, -⟩:=Wu _ _ hx;have nP:=awU ge;refine Wq<|V8 Z<|V0 Z<|V7 [.pointer _,Y _] Z func54 Z<|(Jf d T mf c i2 p g S w0 _ _ hd hP rX ((hI.pull 0 Z).pQ.vR) hG hS).mono ?_;unfold z6;rintro e w2 (⟨Uu,v,M,i3,h,rfl,hM,Ar,nR⟩|⟨h, -⟩);rotate_left
  .rw[hx]at h;cases h
  rw[hx]at h;cases h;apply rV;replace hI:ly S w0 w2 (lz 0 73 1 A gs.length c1 vs::qq p g mf c i3::qW g mf::(L++(M++H))):=(nR.perm<|(((ee M [_]<|L++H).trans<|(ee M L H).cons _).cons _).cons _).vR.pQ;refine Vy Z<|Vi Z<|Vi Z<|Tt Z<|Vh Z<|Wn ?_;have azA:=ak8 Ar rX aa;have hMv:=hM.val;obtain⟨Tv,bv,rfl⟩:=hMv;refine Ws<|Wq<|Tb Z<|Tn Z mY Z<|Yf Z<|Wk<|Wq<|Vf Z<|Vs Z<|T7 [(0,_)] [_] [.nilIface] [0] hI Z AQ (fun _=>ai) ?_;rintro b27 w- -hI;apply Tz 16 .nilIface hI Z AQ Z (by rfl) hI.qP (by rfl) (kz _);rintro Ix c28 w ayV anK hI;have hI:=hI.d0;refine Vm Z<|Wn ?_;have e1:(gs++[ge]).length=gs.length+1:=aq;replace hI:ly S w0 w (lz 0 73 1 Ix (gs.length+1) c28 (vs++[.iface Tv (mP bv)])::qq p g mf c i3::qW g mf::((L++M)++H)):=by rw[gR];exact hI
  have hLM:=hL.snoc hM;obtain⟨nU, -, -⟩:=hP.cells Ar<|hI.d0;have hl:=hP.len;have sn:=hP.nc;obtain⟨n',rfl⟩:∃n',mu=n'+1:=⟨mu-1,aa⟩
  rw[aeR,hx]at heq;simp only at heq;simp only[eS,hx]at Jl;by_cases xq:oL (T.drop i3)=RF
  .unfold qq at hI;refine Ws<|Wq<|V8 Z<|Ve Z<|V6 0 Z<|V4 (.slice _ _ _) Z (hI.c1 Z)<|Wv Z (yX (sz:=2) (i:=0) Z se ai Z Z aa)<|Tq Z<|V4 (.string _) Z nU<|Wv Z (by exact Yp rfl rfl rfl aX)<|Yt Z<|Wq<|V8 Z<|V7 [.pointer _] Z func84 Z<|(QV T mf c i3 p g S w0 _ _ hP Ar<|hI.pQ.vR).mono ?_;rintro e w3 ⟨rfl,i4,PG,Hp,va⟩;refine rV<|Wn<|Wq<|Vf Z<|Vm Z<|Vh Z<|Wn<|WR<|nD 4 5 Z<|.inl ⟨gs++[ge],_,_,Ix,c28,i4,?_,by rw[e1];rfl,hLM,aa,PG,?_⟩
   .rw[heq,lq xq,Hp];rfl
   rw[e1];exact va
  have si:=hI;unfold qq at hI;refine Ws<|Wq<|V8 Z<|Ve Z<|V6 0 Z<|V4 (.slice _ _ _) Z (hI.c1 Z)<|Wv Z (yX (sz:=2) (i:=0) Z se ai Z Z aa)<|Tq Z<|V4 (.string _) Z nU<|U8 Z<|Yf Z<|Wk ?_;by_cases qb:oL (T.drop i3)=Ir
  .refine Wq<|V8 Z<|V7 [.pointer _,.string _] Z func55 Z<|(I2 T mf c i3 p g S w0 _ _ Ir hP Ar<|hI.pQ.vR).mono ?_;rintro e w3 (⟨h,rfl,i4,PG,Hp,va⟩|⟨h, -⟩);rotate_left
   .exact ll qb h
   refine rV<|Vh Z<|Wn<|Wq<|Tb Z<|Tn Z mY Z<|Yf Z<|Wk ⟨n',aa,n',gs++[ge],_,L++M,Ix,c28,i4,rfl,PG,?_,?_,hLM,?_,⟨rfl,rfl,by rw[e1];rfl,trivial⟩,?_⟩
   .have:(T.drop i4).length<=(T.drop i3).length:=by rw[Hp,List.length_tail];omega
    simp only[iy]at this;omega
   .rw[Hp];have:(T.drop i3).tail.length<=(T.drop i3).length-1:=by rw[List.length_tail];omega
    omega
   .rw[lq qb]at Jl;refine⟨?_,by rw[Jl,Hp]⟩;rw[heq,lp xq,lq qb,Hp];cases pS (pG k) n' (T.drop i3).tail with
    |none=>rfl|some x=>simp
   rw[e1];exact va.vR.pQ
  refine Wq<|V8 Z<|V7 [.pointer _,.string _] Z func55 Z<|(I2 T mf c i3 p g S w0 _ _ Ir hP Ar<|hI.pQ.vR).mono ?_;rintro e w3 (⟨h, -⟩|⟨h,aBh,u,rfl,va⟩)
  .exact ll h qb
  refine rV<|Vn Z<|Wn<|Wq<|Vs Z<|Tp Z mY Z<|Yt Z<|Wq<|Vs Z<|Vm Z<|Vn Z<|Wn<|WR ?_;rw[lp qb]at Jl;rw[Jl];refine nD 4 5 Z<|.inr ⟨?_,aBh,u,i3,Z,Ar,va.sub ?_⟩
  .rw[heq,lp xq,lp qb];rfl
  exact((((eJ ..).cons _).cons_cons _).cons_cons _).cons_cons _
theorem al8(k:Nat)(hk:k<20)(Jf:KY k):KY (k+1):=by
 intro d T mf c i p g S w0 w H hd hP hi hI hG hS;have Pr:=au2 k aa Jf;obtain⟨nU, -, -⟩:=hP.cells hi hI;have hl:=hP.len;have sn:=hP.nc;rw[asT,alf];have si:=hI;have vi:∀(w:lE),ly S w0 w (qq p g mf c i::qW g mf::H)->Cq 84 #[mP p] w fun e w'=>e=.returned (ma<|oL<|T.drop i)/\∃i',i'<=T.length/\T.drop i'=(T.drop i).tail/\ly S w0 w' (qq p g mf c i'::qW g mf::H):=fun w h=>QV T mf c i p g S w0 w H hP hi h;obtain⟨t,ht⟩:∃t,oL (T.drop i)=t:=⟨_,rfl⟩
 rw[ht]at nU vi|-;unfold z6;unfold qq at hI;refine Vo func54 Z<|Wq<|Vh Z<|Vh Z<|Wn<|Ws<|Wq<|V0 Z<|Ti Z<|Yf Z<|Wk<|Ws<|Wq<|V8 Z<|Ve Z<|V6 0 Z<|V4 (.slice _ _ _) Z (hI.c0 Z)<|Wv Z (yX (sz:=2) (i:=0) Z se ai Z Z aa)<|Tq Z<|V4 (.string _) Z nU<|Wn<|Wb ?_;by_cases hr:t=KE
 .subst hr;rw[lq rfl,lq rfl];refine Wq<|Us Z<|V5 Z<|Yt Z<|Wq<|V8 Z<|V7 [.pointer _] Z func84 Z<|(vi _ si).mono ?_;rintro e w1 ⟨rfl,i1,sk,oU,nd⟩;refine rV<|Wn ?_;rw[<-oU];cases h1:rL 0 7 (T.drop i1)with
  |none=>
   refine Wq<|V8 Z<|V7 [.pointer _,Y _,Y _] Z func85 Z<|(Db T mf c i1 p g S w0 _ H 0 7 hP sk nd hG hS).mono ?_;rintro e w2 (⟨n,i2,hk, -, -, -⟩|⟨hk,aBh,u,rfl,FO⟩)
   .rw[h1]at hk;cases hk
   exact rV<|Vy Z<|Vi Z<|Vi Z<|Vb Z<|Vn Z<|Wn<|Ws<|Wq<|Vs Z<|Tp Z mY Z<|Yt Z<|Ws<|Wr<|Vs Z<|Vh Z<|Vn Z<|Wn<|WR<|nD 4 5 Z<|.inr ⟨Z,aBh,u,i1,Z,sk,FO⟩
  |some q1=>
   obtain⟨n,r1⟩:=q1;refine Wq<|V8 Z<|V7 [.pointer _,Y _,Y _] Z func85 Z<|(Db T mf c i1 p g S w0 _ H 0 7 hP sk nd hG hS).mono ?_;rintro e w2 (⟨n',i2,hk,rfl,rX,nR⟩|⟨hk, -⟩);rotate_left
   .rw[h1]at hk;cases hk
   rw[h1]at hk;cases hk;refine rV<|Vy Z<|Vi Z<|Vi Z<|Vb Z<|Vh Z<|Wn<|Ws<|Wq<|Tb Z<|Tn Z mY Z<|Yf Z<|Wk ?_;have hI:=nR;refine Wq<|V0 Z<|Tf [(0,Y _)] [_] Z [Y 0] [0] Z (fun _=>ai)<|Tg (.agg _) #[_] hI rfl ?_;rintro b39 w- -hI;exact T9 Z underlying195 Z<|Vn Z<|Vh Z<|Wn<|WR<|nD 4 5 Z<|.inl ⟨.rd n,_,_,i2,Z,Z,.rd (b:=b39),rX,hI.pQ.vR⟩
 rw[lp hr,lp hr];by_cases W4:t=KH
 .subst W4;rw[lq rfl,lq rfl];refine Wq<|U8 Z<|V5 Z<|Yf Z<|Wq<|Us Z<|V5 Z<|Yt Z<|Wq<|V8 Z<|V7 [.pointer _] Z func84 Z<|(vi _ si).mono ?_;rintro e w1 ⟨rfl,i1,sk,oU,nd⟩;refine rV<|Wn ?_;rw[<-oU];cases Wy:pW (T.drop i1)with
  |none=>
   refine Wq<|V8 Z<|V7 [.pointer _] Z func86 Z<|(afb T mf c i1 p g S w0 _ H hP sk nd hG hS).mono ?_;unfold z6;rintro e w2 (⟨ge,v,L,i2,hk, -⟩|⟨hk,aBh,u,i2,rfl,rX,nR⟩)
   .rw[Wy]at hk;cases hk
   exact rV<|Vi Z<|Vi Z<|Vh Z<|Vn Z<|Wn<|WR<|nD 4 5 Z<|.inr ⟨Z,aBh,u,i2,Z,rX,nR⟩
  |some q=>
   obtain⟨ge,r1⟩:=q;refine Wq<|V8 Z<|V7 [.pointer _] Z func86 Z<|(afb T mf c i1 p g S w0 _ H hP sk nd hG hS).mono ?_;unfold z6;rintro e w2 (⟨Uu,v,L,i2,hk,rfl,hR,rX,nR⟩|⟨hk, -⟩);rotate_left
   .rw[Wy]at hk;cases hk
   rw[Wy]at hk;cases hk;obtain⟨Tv,bv,rfl⟩:=hR.val;exact rV<|Vi Z<|Vi Z<|Vn Z<|Vh Z<|Wn<|WR<|nD 4 5 Z<|.inl ⟨ge,_,L,i2,Z,Z,hR,rX,nR⟩
 rw[lp W4,lp W4];by_cases VU:t=KC
 .subst VU;rw[lq rfl,lq rfl];refine Wq<|U8 Z<|V5 Z<|Yf Z<|Wq<|U8 Z<|V5 Z<|Yf Z<|Wq<|Us Z<|V5 Z<|Yt Z<|Wq<|V8 Z<|V7 [.pointer _] Z func84 Z<|(vi _ si).mono ?_;rintro e w1 ⟨rfl,i1,sk,oU,nd⟩;refine rV<|Wn ?_;rw[<-oU];cases h1:rL 0 1000 (T.drop i1)with
  |none=>
   refine Wq<|V8 Z<|V7 [.pointer _,Y _,Y _] Z func85 Z<|(Db T mf c i1 p g S w0 _ H 0 1000 hP sk nd hG hS).mono ?_;rintro e w2 (⟨n,i2,hk, -, -, -⟩|⟨hk,aBh,u,rfl,FO⟩)
   .rw[h1]at hk;cases hk
   exact rV<|Vy Z<|Vi Z<|Vi Z<|Vb Z<|Vn Z<|Wn<|Ws<|Wq<|Vs Z<|Tp Z mY Z<|Yt Z<|Ws<|Wr<|Vs Z<|Vh Z<|Vn Z<|Wn<|WR<|nD 4 5 Z<|.inr ⟨Z,aBh,u,i1,Z,sk,FO⟩
  |some q1=>
   obtain⟨n,r1⟩:=q1;refine Wq<|V8 Z<|V7 [.pointer _,Y _,Y _] Z func85 Z<|(Db T mf c i1 p g S w0 _ H 0 1000 hP sk nd hG hS).mono ?_;rintro e w2 (⟨n',i2,hk,rfl,rX,nR⟩|⟨hk, -⟩);rotate_left
   .rw[h1]at hk;cases hk
   rw[h1]at hk;cases hk;refine rV<|Vy Z<|Vi Z<|Vi Z<|Vb Z<|Vh Z<|Wn ?_;have Ei:=Gi h1;obtain⟨m,rfl⟩:∃m:Nat,n=(m:Int):=⟨n.toNat,aa⟩
   simp only[gQ];refine Ws<|Wq<|Tb Z<|Tn Z mY Z<|Yf Z<|Wk ?_;cases hx:pG k (T.drop i2)with
   |none=>
    refine Wq<|V8 Z<|V0 Z<|Wv Z aH<|V7 [.pointer _,Y _] Z func54 Z<|(Jf (d+1) T mf c i2 p g S w0 _ H aa hP rX nR hG hS).mono ?_;unfold z6;rintro e w3 (⟨ge,v,L',i',h, -⟩|⟨-,aBh,u,i',rfl,mr,va⟩)
    .rw[hx]at h;cases h
    exact rV<|Vy Z<|Vi Z<|Vi Z<|Vh Z<|Vn Z<|Wn<|Ws<|Wq<|Vs Z<|Tp Z mY Z<|Yt Z<|Ws<|Wr<|Vs Z<|Vh Z<|Vn Z<|Wn<|WR<|nD 4 5 Z<|.inr ⟨Z,aBh,u,i',Z,mr,va⟩
   |some q=>
    obtain⟨ge,r⟩:=q;refine Wq<|V8 Z<|V0 Z<|Wv Z aH<|V7 [.pointer _,Y _] Z func54 Z<|(Jf (d+1) T mf c i2 p g S w0 _ H aa hP rX nR hG hS).mono ?_;unfold z6;rintro e w3 (⟨Uu,v,M,i3,h,rfl,hM,Ar,va⟩|⟨h, -⟩);rotate_left
    .rw[hx]at h;cases h
    rw[hx]at h;cases h;obtain⟨Tv,bv,rfl⟩:=hM.val;refine rV<|Vy Z<|Vi Z<|Vi Z<|Vn Z<|Vh Z<|Wn<|Ws<|Wq<|Tb Z<|Tn Z mY Z<|Yf Z<|Wk ?_;have hI:=va;refine Wq<|Vs Z<|V0 Z<|Tf [(0,_),(1,Y _)] [_,_] Z [.nilIface,Y 0] [0,1] Z (fun _=>ai)<|Tg (.agg _) (#[_,_]) hI rfl ?_;rintro b74 w- -hI;exact T9 Z underlying199 Z<|Vn Z<|Vh Z<|Wn<|WR<|nD 4 5 Z<|.inl ⟨.qO m ge,_,_,i3,Z,Z,.qO (b:=b74) aa hM,Ar,hI.pQ.vR⟩
 rw[lp VU,lp VU];by_cases VW:t=KD
 .subst VW;rw[lq rfl,lq rfl];refine Wq<|U8 Z<|V5 Z<|Yf Z<|Wq<|U8 Z<|V5 Z<|Yf Z<|Wq<|U8 Z<|V5 Z<|Yf Z<|Ws<|Wq<|Us Z<|V5 Z<|Yt Z<|Wk<|Wc true Z<|Ws<|Wr<|V8 Z<|V7 [.pointer _] Z func84 Z<|(vi _ si).mono ?_;rintro e w1 ⟨rfl,i1,sk,oU,nd⟩;refine rV<|Ud Z<|Wn ?_;rw[<-oU];cases hx:pV (pG k) (T.drop i1)with
  |none=>
   refine Wq<|V8 Z<|V0 Z<|Wv Z aH<|V7 [.pointer _,Y _] Z func87 Z<|(Pr (d+1) T mf c i1 p g S w0 _ H aa hP sk nd hG hS).mono ?_;unfold IL;rintro e w2 (⟨gs,vs,L,A,c',i2,h, -⟩|⟨-,aBh,u,i2,rfl,rX,nR⟩)
   .rw[hx]at h;cases h
   exact rV<|Vy Z<|Vi Z<|Vi Z<|Vm Z<|Vn Z<|Wn<|Ws<|Wb<|Wq<|Vs Z<|Tp Z mY Z<|V5 Z<|Wn<|Wc true Z<|Wq<|Vs Z<|Vh Z<|Vn Z<|Wn<|WR<|nD 4 5 Z<|.inr ⟨Z,aBh,u,i2,Z,rX,nR⟩
  |some q=>
   obtain⟨gs,r1⟩:=q;refine Wq<|V8 Z<|V0 Z<|Wv Z aH<|V7 [.pointer _,Y _] Z func87 Z<|(Pr (d+1) T mf c i1 p g S w0 _ H aa hP sk nd hG hS).mono ?_;unfold IL;rintro e w2 (⟨gs',vs,L,A,c',i2,h,rfl,hR,BM,rX,nR⟩|⟨h, -⟩);rotate_left
   .rw[hx]at h;cases h
   rw[hx]at h;cases h;refine rV<|Vy Z<|Vi Z<|Vi Z<|Vm Z<|Vh Z<|Wn<|Ws<|Wb<|Wq<|Tb Z<|Tn Z mY Z<|V5 Z<|Wn<|Wc false Z ?_;have hI:=nR;refine Wq<|Vu Z<|Us Z<|V5 Z<|Yt Z<|Wq<|Vf Z<|Tf [(0,.slice _ _ _)] [_] Z [.slice none 0 0] [0] Z (fun _=>ai)<|Tg (.agg _) #[_] hI rfl ?_;rintro b97 w- -hI;exact T9 Z underlying205 Z<|Vn Z<|Vh Z<|Wn<|WR<|nD 4 5 Z<|.inl ⟨.mix gs,_,_,i2,Z,Z,.mix (b:=b97) aa hR,rX,hI.pQ.vR⟩
 rw[lp VW,lp VW];by_cases WV:t=KG
 .subst WV;rw[lq rfl,lq rfl];refine Wq<|U8 Z<|V5 Z<|Yf Z<|Wq<|U8 Z<|V5 Z<|Yf Z<|Wq<|U8 Z<|V5 Z<|Yf Z<|Ws<|Wq<|U8 Z<|V5 Z<|Yf Z<|Wr<|Us Z<|V5 Z<|Yt Z<|Wq<|V8 Z<|V7 [.pointer _] Z func84 Z<|(vi _ si).mono ?_;rintro e w1 ⟨rfl,i1,sk,oU,nd⟩;refine rV<|Ud Z<|Wn ?_;rw[<-oU];cases hx:pV (pG k) (T.drop i1)with
  |none=>
   refine Wq<|V8 Z<|V0 Z<|Wv Z aH<|V7 [.pointer _,Y _] Z func87 Z<|(Pr (d+1) T mf c i1 p g S w0 _ H aa hP sk nd hG hS).mono ?_;unfold IL;rintro e w2 (⟨gs,vs,L,A,c',i2,h, -⟩|⟨-,aBh,u,i2,rfl,rX,nR⟩)
   .rw[hx]at h;cases h
   exact rV<|Vy Z<|Vi Z<|Vi Z<|Vm Z<|Vn Z<|Wn<|Ws<|Wb<|Wq<|Vs Z<|Tp Z mY Z<|V5 Z<|Wn<|Wc true Z<|Wq<|Vs Z<|Vh Z<|Vn Z<|Wn<|WR<|nD 4 5 Z<|.inr ⟨Z,aBh,u,i2,Z,rX,nR⟩
  |some q=>
   obtain⟨gs,r1⟩:=q;refine Wq<|V8 Z<|V0 Z<|Wv Z aH<|V7 [.pointer _,Y _] Z func87 Z<|(Pr (d+1) T mf c i1 p g S w0 _ H aa hP sk nd hG hS).mono ?_;unfold IL;rintro e w2 (⟨gs',vs,L,A,c',i2,h,rfl,hR,BM,rX,nR⟩|⟨h, -⟩);rotate_left
   .rw[hx]at h;cases h
   rw[hx]at h;cases h;refine rV<|Vy Z<|Vi Z<|Vi Z<|Vm Z<|Vh Z<|Wn<|Ws<|Wb<|Wq<|Tb Z<|Tn Z mY Z<|V5 Z<|Wn<|Wc false Z ?_;have hI:ly S w0 w2 (qq p g mf c i2::qW g mf::rS 73 1 A gs.length c' vs::(L++H)):=((nR.pull 2 rfl).axA).back 2;refine Wq<|Vu Z<|U8 Z<|V5 Z<|Yf Z<|Wk<|Wq<|Vf Z<|Tf [(0,.slice _ _ _)] [_] Z [.slice none 0 0] [0] Z (fun _=>ai)<|Tg (.agg _) #[_] hI rfl ?_;rintro aja w- -hI;exact T9 Z underlying208 Z<|Vn Z<|Vh Z<|Wn<|WR<|nD 4 5 Z<|.inl ⟨.tN gs,_,_,i2,Z,Z,.tN (b:=aja) aa hR,rX,hI.pQ.vR⟩
 rw[lp WV,lp WV];refine Wq<|U8 Z<|V5 Z<|Yf Z<|Wq<|U8 Z<|V5 Z<|Yf Z<|Wq<|U8 Z<|V5 Z<|Yf Z<|Ws<|Wq<|U8 Z<|V5 Z<|Yf Z<|Wr<|U8 Z<|V5 Z<|Yf Z<|Wk<|Wq<|V8 Z<|V7 [.pointer _,Y _] Z func83 Z<|(GC T mf c i p g S w0 _ H 3 hP hi si).mono ?_;rintro e w1 ⟨aBh,u,rfl,nd⟩;exact rV<|Vh Z<|Vn Z<|Wn<|WR<|nD 4 5 Z<|.inr ⟨Z,aBh,u,i,Z,hi,nd⟩
theorem al9:KY 0:=by intro d T mf c i p g S w0 w H hd hP hi hI hG hS;unfold z6;refine Vo func54 Z<|Wq<|Vh Z<|Vh Z<|Wn<|Ws<|Wq<|V0 Z<|Ty Z<|Yt Z<|Ws<|Wr<|V8 Z<|V7 [.pointer _,Y _] Z func83 Z<|(GC T mf c i p g S w0 _ H 4 hP hi hI).mono ?_;rintro e w1 ⟨aBh,u,rfl,nd⟩;exact rV<|Vh Z<|Vn Z<|Wn<|WR<|nD 4 5 Z<|.inr ⟨Z,aBh,u,i,Z,hi,nd⟩
theorem abH:∀(k:Nat),k<=20->KY k
 |0,_=>al9|k+1,h=>al8 k h<|abH k aa
def EG(bs:ox):Option Ge:=if bs.length<=2000 then H6 bs else none
def Nl(bs:ox):Int:=if bs.length<=2000 then(match pG 20 (uy bs)with
 |none=>eG 20<|uy bs
 |some _=>3)else 4
theorem au3{S:lF}{w0 w:lE}{H:List lN}{A:lO}{n c:Nat}{out:List Sg}(hI:ly S w0 w (lz 0 190 2 A n c (out.flatMap yi)::H))(hn:0<n):∃g,A=some ⟨g,0,none⟩/\n<=c/\c<=9223372036854775807/\ly S w0 w (qW g out::H):=by
 have h1:w.ownsRow 0 190 2 (.slice A n c) n (out.flatMap yi):=(hI.ok _<|gE ..).1;rcases h1.2 with⟨hv,h0⟩|⟨g,cap,aBl,hv,hb,hh,sn,qb,mL,uv⟩
 .omega
 injection hv with q1 q2 q3;subst q1 q3;have hB:mV w g 190 aBl:=hh;have hP:∀j u,(out.flatMap yi)[j]?=some u->aBl[j]?=some u:=fun j u hj=>by
  rw[<-uv,gC]at hj;split at hj
  .rwa [fx]at hj
  cases hj
 refine⟨g,Z,sn,qb,hI.u0 (e':=qW g out) (mC.refl _ _) (lN.C8 ⟨_,aBl,hB,hP⟩ (fun k hk=>?_)<|fun S w1 w2 hc hS h1=>?_)<|fun k hk=>.inl ?_⟩
 .have:k=g:=hk;subst this;exact hB.lt
 .obtain⟨T,aaQ,sV,vc⟩:=h1;exact⟨T,aaQ,mV.ni sV hc<|hS g Z,vc⟩
 have:k=g:=hk;subst this
 rfl
theorem asY{bs:ox}{g:Ge}{r:List lC}(h:pG 20 (uy bs)=some (g,r)):H6 bs=if r=[]then some g else none:=by
 unfold H6;rw[h];cases r with
 |nil=>rfl|cons a r=>rfl
theorem asX{bs:ox}(h:pG 20 (uy bs)=none):H6 bs=none:=by unfold H6;rw[h]
theorem XN(bs:ox)(w0:lE)(hG:uB w0)(hb:bs.length<=9000000000000000000):
  Cq 18 #[ma bs] w0 fun e w'=>(∃g v L,EG bs=some g/\e=.returned (.tuple #[v,.nilIface])/\qe g v L/\ly NF w0 w' L)\/
   (EG bs=none/\∃aBh u,e=.returned (.tuple #[.nilIface,.iface aBh u])/\ly NF w0 w' [uT (.iface aBh u) (Nl bs)]):=by
 have hI:=ly.start (fun _=>False) w0;unfold EG;refine Vo func18 Z<|Wq<|Vh Z<|Vh Z<|Wn ?_;by_cases hl:bs.length<=2000;rotate_left
 .exact Ws<|Wq<|Vu Z<|U5 Z nS Z<|Ty Z<|Yt Z<|Wq<|T9 Z pd Z<|Vh Z<|Vn Z<|Wn<|WR<|nD 2 3 Z<|.inr ⟨lp hl,_,_,Z,(by unfold Nl;rw[lp hl];exact hI.err 4)⟩
 rw[lq hl];refine Ws<|Wq<|Vu Z<|U5 Z nS Z<|Ti Z<|Yf Z<|Wk<|Wq<|Vu Z<|V7 [.string _] Z func53 Z<|(au5 bs _ aa).mono ?_;rintro e w1 ⟨A,c,out,rfl,x9,hJ⟩;apply rV;have hI:=hI.app1 hJ;have aBn:out.length=(uy bs).length+1:=by have:=kY List.length x9;simpa using this
 obtain⟨g,rfl,sn,anM,hI⟩:=au3 hI aa;have hP:wX (uy bs) out c:=⟨x9,RG bs [],sn,anM,by have:=ahq bs;omega,fun t ht=>by have:=aw9 bs t ht;omega⟩
 refine Tf [(0,.slice _ _ _)] [_] Z [.slice none 0 0] [0] Z (fun _=>ai)<|Tg (.agg _) #[_] hI rfl ?_;rintro IU w- -hI;refine Uf Z<|Wn ?_;have FN:ly NF w0 w (qq IU g out c 0::qW g out::[]):=hI;have oh:=abH 20 aa 0 (uy bs) out c 0 IU g (fun _=>False) w0 w [] rfl hP (kz _) FN hG A9.none;rw[ju]at oh;unfold z6 at oh;cases hx:pG 20 (uy bs)with
 |none=>
  rw[hx]at oh;refine Wq<|V8 Z<|V7 [.pointer _,Y _] Z func54 Z<|oh.mono ?_;rintro e w2 (⟨ge,v,L,i',h, -⟩|⟨-,aBh,u,i',rfl,mr,nR⟩)
  .cases h
  exact rV<|Vy Z<|Vi Z<|Vi Z<|Vh Z<|Vn Z<|Wn<|Ws<|Wq<|Vs Z<|Wv Z (by exact Q6 rfl mY rfl rfl)<|Yf Z<|Wk<|Ws<|Wq<|Vs Z<|Tp Z mY Z<|Yt Z<|Wq<|Vs Z<|Vh Z<|Vn Z<|Wn<|WR<|nD 2 3 Z<|.inr ⟨asX hx,aBh,u,Z,(by unfold Nl;rw[lq hl,hx];exact nR.d1.d1)⟩
 |some q=>
  obtain⟨ge,r⟩:=q;rw[asY hx];rw[hx]at oh;refine Wq<|V8 Z<|V7 [.pointer _,Y _] Z func54 Z<|oh.mono ?_;rintro e w2 (⟨Uu,v,L,i',h,rfl,hR,mr,nR⟩|⟨h, -⟩);rotate_left
  .cases h
  cases h;obtain⟨Tv,bv,rfl⟩:=hR.val;refine rV<|Vy Z<|Vi Z<|Vi Z<|Vn Z<|Vh Z<|Wn<|Ws<|Wq<|Tb Z<|Wv Z (by exact NC rfl mY rfl)<|Yt Z ?_;by_cases hr:(uy bs).drop i'=[]
  .rw[lq hr];refine Wr<|V8 Z<|V7 [.pointer _,.string _] Z func55 Z<|(I2 (uy bs) out c i' IU g _ w0 _ _ [] hP mr nR).mono ?_;rintro e w3 (⟨h,rfl,i4,PG,Hp,va⟩|⟨h, -⟩);rotate_left
   .exact ll (by rw[hr];rfl) h
   exact rV<|Vh Z<|Wn<|Ws<|Wq<|Tb Z<|Tn Z mY Z<|Yf Z<|Wk<|Wq<|Vs Z<|Vn Z<|Vh Z<|Wn<|WR<|nD 2 3 Z<|.inl ⟨ge,_,L,Z,Z,hR,by have:=va.d0.d0;rwa [iU]at this⟩
  rw[lp hr];have mK:oL ((uy bs).drop i')≠[]:=by have lX:i'<(uy bs).length:=iG fun hn=>hr<|fp hn;rw[eF lX];exact hP.ne _<|iw lX
  refine Wr<|V8 Z<|V7 [.pointer _,.string _] Z func55 Z<|(I2 (uy bs) out c i' IU g _ w0 _ _ [] hP mr nR).mono ?_;rintro e w3 (⟨h, -⟩|⟨h,aBh,u,rfl,va⟩)
  .exact ll h mK
  exact rV<|Vn Z<|Wn<|Ws<|Wq<|Vs Z<|Tp Z mY Z<|Yt Z<|Wq<|Vs Z<|Vh Z<|Vn Z<|Wn<|WR<|nD 2 3 Z<|.inr ⟨Z,aBh,u,Z,(by unfold Nl;rw[lq hl,hx];exact va.sub<|.cons_cons _<|iC _)⟩
end Go.Proofs.YtfjcghhjlmfggaaGreatDoor
namespace Go.Proofs.YtfjcghhjlmfggaaGreatDoor
theorem aR{p:Prop}(h:p:=by exact NC rfl mY rfl):p:=h
theorem dH{p:Prop}(h:p:=by rw[pO,BG.1,BG.2]):p:=h
theorem bV{p:Prop}(h:p:=by cases h):p:=h
theorem bP{p:Prop}(h:p:=by exact zN rfl nz (by kernel_rfl) rfl rfl (by omega)):p:=h
section
open Tryz
open Go.RowKit
variable{c:Int}{nums:mq}{k:Nat}{w w0:lE}
structure Fg where
 n:Nat
 k:Nat
 a:Nat
 t:Nat
 bk:Bool
 title:ox
 gen:ox
 lP:Int
structure Tr where
 st:l8
 g:Ge
 u:Nat
 b:Nat
 em:Bool
def vm(sb:Nat)(gv:lH)(q:Nat)(p:Fg)(b:Nat)(em:Bool):Array Value:= #[.pointer (some ⟨sb,0,none⟩),gv,.pointer (some ⟨q,0,none⟩),.int .i64 (p.n:Int),.int .i64 (p.k:Int),.int .i64 (p.a:Int),.int .i64 (p.t:Int),.bool p.bk,ma p.title,ma p.gen,.int .i64 p.lP,.int .i64 (b:Int),.bool em]
def R7(k v:Int)(w:Bool):Prop:=(0<=k/\k<8)/\(-1000000<=v/\v<=1000000)/\(w=false->v=0)
def yn(nums:mq)(t:Tr)(c:Int)(r:Bool)(t':Tr):Prop:=
 ((t.em=true\/40<=t.b\/∀c',¬zX t.st c c')/\r=false/\t'=t)\/
 (t.em=false/\t.b<40/\∃c',zX t.st c c'/\∃rr g' u',Nx nums t.g t.u rr g' u'/\
  ((rr=none/\r=false/\t'=⟨t.st,g',u',t.b,true⟩)\/
   ∃w k v,rr=some (w,k,v)/\((¬R7 k v w/\r=false/\t'=⟨t.st,g',u',t.b,false⟩)\/(R7 k v w/\r=true/\t'=⟨wi t.st c' k.toNat w v,g',u',t.b+1,false⟩))))
def qA(nums:mq)(u:Nat)(n:Int):Nat×Nat:=if 0<n then((xL nums u n).toNat,u+1)else(0,u)
theorem aam(S D:lF)(w0 w:lE)(H:List lN)(q:Nat)(A:lO)(len c:Nat)(nums:mq)(u:Nat)(n:Int)(hI:ly S w0 w (mX q (.slice A len c) u::H))(hN:pL w0 D (.slice A len c) nums)(hD:∀k,D k->¬S k)(FY:n<=9223372036854775807)(hu:u<9223372036854775807):
  Cq 56 #[mP q,Y n] w fun e w'=>∃(z:Nat) (u':Nat),e=.returned (Y (z:Int))/\(0<n->u'=u+1/\(z:Int)<n)/\(n<=0->z=0)/\u<=u'/\u'<=u+1/\(z=(qA nums u n).1/\u'=(qA nums u n).2)/\ly S w0 w' (mX q (.slice A len c) u'::H):=by
 by_cases hn:0<n
 .refine(SE S D w0 w H q A len c nums u n hI hN hD hn FY hu).mono ?_;rintro e w' ⟨rfl,h⟩;have hb:=OB nums u n hn;exact⟨(xL nums u n).toNat,u+1,by rw[Int.toNat_of_nonneg hb.1],fun _=>⟨rfl,aa⟩,fun h=>ll hn aa,aa,aa,by unfold qA;rw[lq hn];exact⟨rfl,rfl⟩,h⟩
 unfold mX at hI;exact Vo func56 Z<|Wq<|Vb Z<|Wn<|Ws<|Wq<|V8 Z<|Wv Z (Dg Z underlying77 Z Z)<|V3 Z<|V0 Z<|Wv Z (by exact X6 rfl rfl rfl aa)<|Va Z<|Yt Z<|Wq<|Vb Z<|Wn<|WR<|lV 4 Z ⟨0,u,Z,fun h=>ll h hn,fun _=>Z,aa,aa,by unfold qA;rw[lp hn];exact⟨rfl,rfl⟩,hI⟩
theorem ahA(S:lF)(w0 w:lE)(H:List lN)(q:Nat)(nv:lH)(u:Nat)(hI:ly S w0 w (mX q nv u::H)):
  Cq 20 #[mP q] w fun e w'=>e=.returned (lI u)/\ly S w0 w' (mX q nv u::H):=by
 unfold mX at hI;exact Vo func20 Z<|Wq<|Vb Z<|Wn<|Ws<|Wq<|V8 Z<|Wv Z (Dg Z underlying77 Z Z)<|Yf Z<|Wk<|Wq<|V8 Z<|Ve Z<|V6 1 Z<|Yc hI Z Z<|Vb Z<|Wn<|WR<|lV 2 Z ⟨Z,hI⟩
theorem asd(b n c:Nat)(A:lO)(w0:lE)(hc:w0.cell? ⟨b,7,none⟩=some (.slice A n c)):Cq 93 #[lJ b 7] w0 fun e w'=>e=.returned (lI n)/\Pure w0 w':=by have hI:=ly.start (fun _=>False) w0;exact Vo func93 Z<|Wq<|Vb Z<|Wn<|Wq<|V8 Z<|Ve Z<|Tq Z<|V4 (.slice _ _ _) Z (hI.my hc)<|Vp Z Ci Z<|Vb Z<|Wn<|WR<|lV 2 Z ⟨Z,hI.pu⟩
theorem Zd(b n c:Nat)(A:lO)(w0:lE)(hc:w0.cell? ⟨b,7,none⟩=some (.slice A n c)):Cq 59 #[lJ b 0] w0 fun e w'=>e=.returned (lI n)/\Pure w0 w':=by have hI:=ly.start (fun _=>False) w0;exact Vo func59 Z<|Wq<|Vb Z<|Wn<|Ws<|Wq<|V8 Z<|Wv Z (Dg Z Du Z Z)<|Yf Z<|Wk<|Wq<|V8 Z<|Ve Z<|V6 7 Z<|V7 [.pointer _] Z func93 Z<|(asd b n c A _<|hI.my hc).mono<|pJ hI fun w1 hp hI=>Vb Z<|Wn<|WR<|lV 2 Z ⟨Z,hI.pu⟩
theorem YL{S:lF}{X:List lN}{L:ny}{s:l8}(hI:ly S w0 w (X++lR L s)):w.cell? ⟨L.sb,7,none⟩=some (.slice L.MA s.lU.length L.mc):=hI.n9.cell 0 rfl rfl
theorem ly.oU{S:lF}{e:lN}{H:List lN}(h:ly S w0 w (e::H)):ly S w0 w [e]:=h.sub aq
theorem abI{α:Type}(X:List α)(a b:α)(L R:List α):(X++(a::b::(L++R))).Perm (b::(L++((X++[a])++R))):=by have e:X++(a::b::(L++R))=(X++[a])++(b::(L++R)):=aq;rw[e];exact List.perm_middle.trans<|(ee (X++[a]) L R).cons b
theorem atI{P:lY}{ρ:lB}{o:Oper}{x:mN}{T:lT}{v:lH}(ho:o.op=.nilCheck x)(hx:ev ρ x=.iface T v):lQ P ρ o w (.iface T v):=by simp[lQ,execOp,ho,hx]
theorem ahm(S D:lF)(w0 w:lE)(L:ny)(gv:lH)(LG:List lN)(q tb:Nat)(p:Fg)(t:Tr)(A:lO)(len cp:Nat)(nums:mq)(M:Nat)(c:Int)
  (hI:ly S w0 w (B tb 82 (vm L.sb gv q p t.b t.em)::mX q (.slice A len cp) t.u::(LG++lR L t.st))) (hr:qe t.g gv LG) (mH:nw L t.st M) (hM:M<=100000) (hN:pL w0 D (.slice A len cp) nums) (hD:∀k,D k->¬S k) (hu:t.u+t.g.sz<=4611686018427387904) (hb:t.b<=1000):
  Cq 57 #[mP tb,Y c] w fun e w'=>∃r t' L' rh,e=.returned (.bool r)/\yn nums t c r t'/\qe t'.g gv rh/\nw L' t'.st (M+1)/\L'.sb=L.sb/\L'.cut=L.cut/\L'.lb=L.lb/\
   ly S w0 w' (B tb 82 (vm L.sb gv q p t'.b t'.em)::mX q (.slice A len cp) t'.u::(rh++lR L' t'.st)):=by
 obtain⟨s,g,u,b,em⟩:=t;dsimp only at hI hr mH hu hb|-;have rY:=mH.k1.2;have xY:=mH.yB;obtain⟨T,bv,f,rfl,hme,hG⟩:=hr.ama (nums:=nums) (D:=D) (A:=A) (len:=len) (cp:=cp);refine Vo func57 Z<|Wq<|V5 Z<|Wn ?_;cases em with
 |true=>exact Ws<|Wq<|V8 Z<|Ve Z<|V6 12 Z<|V4 (.bool _) Z (hI.c0 Z)<|V3 Z<|V2 Z<|V2 Z<|V2 Z<|V2 Z<|V2 Z<|Vg Z<|V3 Z<|V2 Z<|V2 Z<|V2 Z<|V2 Z<|V2 Z<|V2 Z<|V2 Z<|Vg Z<|Yt Z<|Wq<|V5 Z<|Wn<|WR<|lV 4 Z ⟨false,⟨s,g,u,b,true⟩,L,LG,Z,.inl ⟨.inl Z,Z,Z⟩,hr,mH.mono aa,Z,Z,Z,hI⟩|false=>
  by_cases anw:40<=b
  .exact Ws<|Wq<|V8 Z<|Ve Z<|V6 12 Z<|V4 (.bool _) Z (hI.c0 Z)<|V3 Z<|V8 Z<|Ve Z<|V6 11 Z<|Yc hI Z Z<|Tw Z<|Va Z<|V3 Z<|V2 Z<|V2 Z<|V2 Z<|V2 Z<|V2 Z<|V2 Z<|V2 Z<|Vg Z<|Yt Z<|Wq<|V5 Z<|Wn<|WR<|lV 4 Z ⟨false,⟨s,g,u,b,false⟩,L,LG,Z,.inl ⟨.inr<|.inl anw,Z,Z⟩,hr,mH.mono aa,Z,Z,Z,hI⟩
  have abU:∀(w:lE),ly S w0 w (B tb 82 (vm L.sb (.iface T<|mP bv) q p b false)::mX q (.slice A len cp) u::(LG++lR L s))->
    Cq 88 #[lJ L.sb 0,Y c] w fun en w'=>∃v,en=.returned v/\((v=.nilIface/\∃c',zX s c c')\/((∃n,v=.iface 36 (Y n))/\∀c',¬zX s c c'))/\ly S w0 w' (B tb 82 (vm L.sb (.iface T<|mP bv) q p b false)::mX q (.slice A len cp) u::(LG++lR L s)):=by
   intro w hI;refine(abE L s c rY aa (p9<|lR L s) _<|ly.n9 (X:=B tb 82 (vm L.sb (.iface T<|mP bv) q p b false)::mX q (.slice A len cp) u::LG) hI).mono ?_;rintro en w1 ⟨hc,hJ⟩;have nd:=ly.qB (X:=B tb 82 (vm L.sb (.iface T<|mP bv) q p b false)::mX q (.slice A len cp) u::LG) hI hJ;rcases hc with⟨rfl,hm⟩|⟨⟨n,rfl⟩,mI⟩
   .exact⟨_,Z,.inl ⟨Z,hm⟩,nd⟩
   exact⟨_,Z,.inr ⟨⟨n,Z⟩,mI⟩,nd⟩
  by_cases yM:∃c',zX s c c';rotate_left
  .refine Ws<|Wq<|V8 Z<|Ve Z<|V6 12 Z<|V4 (.bool _) Z (hI.c0 Z)<|V3 Z<|V8 Z<|Ve Z<|V6 11 Z<|Yc hI Z Z<|Ua Z<|Va Z<|V3 Z<|V8 Z<|Ve Z<|V6 0 Z<|V4 (.pointer _) Z (hI.c0 Z)<|V0 Z<|V7 [.pointer _,Y _] Z func88 Z<|(abU _ hI).mono ?_;rintro e w1 ⟨v,rfl,hv,si⟩;rcases hv with⟨_,hm⟩|⟨⟨n,rfl⟩,_⟩
   .exact ll hm yM
   apply rV;replace hI:=si;exact Tp Z mY Z<|Va Z<|Yt Z<|Wq<|V5 Z<|Wn<|WR<|lV 4 Z ⟨false,⟨s,g,u,b,false⟩,L,LG,Z,.inl ⟨.inr<|.inr fun c' h=>yM ⟨c',h⟩,Z,Z⟩,hr,mH.mono aa,Z,Z,Z,hI⟩
  refine Ws<|Wq<|V8 Z<|Ve Z<|V6 12 Z<|V4 (.bool _) Z (hI.c0 Z)<|V3 Z<|V8 Z<|Ve Z<|V6 11 Z<|Yc hI Z Z<|Ua Z<|Va Z<|V3 Z<|V8 Z<|Ve Z<|V6 0 Z<|V4 (.pointer _) Z (hI.c0 Z)<|V0 Z<|V7 [.pointer _,Y _] Z func88 Z<|(abU _ hI).mono ?_;rintro e w1 ⟨v,rfl,hv,si⟩;rcases hv with⟨rfl,_⟩|⟨_,mI⟩
  rotate_left
  .obtain⟨c',hm⟩:=yM;exact ll hm<|mI c'
  apply rV;replace hI:=si;refine Tn Z mY Z<|Va Z<|Yf Z<|Wk ?_;obtain⟨c',yM⟩:=yM;refine Wx (fun ρ w=>∃rr g' rh u',Nx nums g u rr g' u'/\qe g' (.iface T<|mP bv) rh/\∃b5,lA ρ [(6,.bool rr.isSome),(5,mP b5),(0,mP tb),(1,Y c)]/\ly S w0 w (B b5 211 #[.bool (SN rr),Y<|SO rr,Y<|SP rr]::B tb 82 (vm L.sb (.iface T<|mP bv) q p b false)::mX q (.slice A len cp) u'::(rh++lR L s))) ?_ ?_
  .have abZ:∀(X:List lN) (w:lE),ly S w0 w (X++(B tb 82 (vm L.sb (.iface T<|mP bv) q p b false)::mX q (.slice A len cp) u::(LG++lR L s)))->
     Cq f #[mP bv,mP q] w fun e w'=>∃r g' L' u',Nx nums g u r g' u'/\qe g' (.iface T<|mP bv) L'/\e=.returned (.tuple #[.agg #[.bool (SN r),Y<|SO r,Y<|SP r],.bool r.isSome])/\
      ly S w0 w' (X++(B tb 82 (vm L.sb (.iface T<|mP bv) q p b false)::mX q (.slice A len cp) u'::(L'++lR L s))):=by
    intro X w hI;refine(hG S w0 _ _ q u (hI.perm<|abI X _ _ LG<|lR L s) hN hD aa).mono ?_;rintro e w1 ⟨r,g',L',u',py,qF,rfl,nd⟩;exact⟨r,g',L',u',py,qF,Z,nd.perm (abI X _ _ L'<|lR L s).symm⟩
   refine Wd ai<|Wi (T:=[]) hI.oU.drew ?_;intro Sx hY hZ;have hI:=hI.drew;refine Vj 0 Z<|Vk 1 Z<|Vd 2 1 Z<|V9 3 (.iface T<|mP bv) Z (lL hY fun h=>h.c0 Z)<|Vj 4 Z<|Vk 5 Z<|Vd 6 2 Z<|V9 7 (.pointer _) Z (lL hY fun h=>h.c0 Z)<|Wt 8 Z (lL hY fun hI=>(atI Z Z))<|Wt 9 Z (lL hY fun hI=>(by exact Ya rfl rfl))<|DN 10 14 Z Z ai Z Z ?_ ?_
   .refine z8 Z Z Z (Kh (f:=f) (vs:=[_]) Z Z Z<|fun w=>hme _ w)<|(abZ [] _ hI).mono ?_;rintro e w1 ⟨r,g',L',u',py,qF,rfl,nd⟩;apply rV;replace hI:=nd;refine Wn ⟨hZ _ hI.oU,(U9 11 Z<|Tj 12 Z<|Tj 13 Z<|Vr 14 Z<|T6 (.agg #[.bool false,Y 0,Y 0]) (#[.bool false,Y 0,Y 0]) hI Z ?_)⟩;rintro b5 w- -hI;refine Wn ⟨hZ _ hI.d0.oU,(Vr 15 Z<|Ta 3 (#[_,_,_]) (.agg _) hI Z ?_)⟩;intro w hI;exact Wn ⟨hZ _ hI.d0.oU,(Ue 16 (hS_:=hZ _ hI.d0.oU) Z<|Yz ⟨r,g',L',u',py,qF,_,oy,hI⟩)⟩
   apply T6 (.agg #[.bool false,Y 0,Y 0]) (#[.bool false,Y 0,Y 0]) hI Z;rintro b5 w- -hI;refine Wn ⟨hZ _ hI.d0.oU,(Vr 10 Z<|z8 Z Z Z (Kh (f:=f) (vs:=[_]) Z Z Z<|fun w=>hme _ w)<|(abZ [_] _ hI).mono ?_)⟩;rintro e w1 ⟨r,g',L',u',py,qF,rfl,nd⟩;apply rV;replace hI:=nd;refine Wn ⟨hZ _ hI.d0.oU,(U9 11 (hS_:=hZ _ hI.d0.oU) Z<|Tj 12 (hS_:=hZ _ hI.d0.oU) Z<|Tj 13 (hS_:=hZ _ hI.d0.oU) Z<|Vr 15 Z<|Ta 3 (#[_,_,_]) (.agg _) hI Z ?_)⟩;intro w hI;exact Wn ⟨hZ _ hI.d0.oU,(Ue 16 (hS_:=hZ _ hI.d0.oU) Z<|Yz ⟨r,g',L',u',py,qF,_,oy,hI⟩)⟩
  rintro ρ w ⟨rr,g',rh,u',py,qF,b5,hH,hI⟩;obtain⟨σ,rfl⟩:=hH.open;cases rr with
  |none=>refine Ws<|Wq<|V3 Z<|Tm Z<|Yt Z<|Wq<|V8 Z<|Ve Z<|V6 12 Z<|Fv (u:=.bool _) hI Z Z Z Z Z Z ai Z Z Z ?_;intro w hI;exact Wn<|Wq<|V5 Z<|Wn<|WR<|lV 4 Z ⟨false,⟨s,g',u',b,true⟩,L,rh,Z,.inr ⟨Z,by show b<40;omega,c',yM,none,g',u',py,.inl ⟨rfl,rfl,rfl⟩⟩,qF,mH.mono aa,rfl,rfl,rfl,hI.d0⟩
  |some ca=>
   obtain⟨wr,ky,vl⟩:=ca;replace hI:ly S w0 w (B b5 211 #[.bool wr,Y ky,Y vl]::B tb 82 (vm L.sb (.iface T<|mP bv) q p b false)::mX q (.slice A len cp) u'::(rh++lR L s)):=hI;refine Ws<|Wq<|V3 Z<|Th Z<|Yf Z<|Wk ?_;by_cases qN:R7 ky vl wr
   .have⟨⟨k1,k2⟩,⟨v1,v2⟩,hw⟩:=id qN;have hB:∀(w:lE),ly S w0 w (B b5 211 #[.bool wr,Y ky,Y vl]::B tb 82 (vm L.sb (.iface T<|mP bv) q p b false)::mX q (.slice A len cp) u'::(rh++lR L s))->
      Cq 89 #[lJ L.sb 0,Y c,Y ky,.bool wr,Y vl] w fun en w'=>∃L',en=.returned .nilIface/\nw L' (wi s c' ky.toNat wr vl) (M+1)/\L'.sb=L.sb/\L'.cut=L.cut/\L'.lb=L.lb/\ly S w0 w' (B b5 211 #[.bool wr,Y ky,Y vl]::B tb 82 (vm L.sb (.iface T<|mP bv) q p b false)::mX q (.slice A len cp) u'::(rh++lR L' (wi s c' ky.toNat wr vl))):=by
     intro w hI;refine(aak L s M mH hM (p9<|lR L s) _ (ly.n9 (X:=B b5 211 #[.bool wr,Y ky,Y vl]::B tb 82 (vm L.sb (.iface T<|mP bv) q p b false)::mX q (.slice A len cp) u'::rh) hI) c ky wr vl).mono ?_;rintro en w1 ⟨v,L',s',rfl,_,vC,pU,CM,qV,hJ,hex,_⟩;obtain⟨rfl,rfl⟩:=hex c' ky.toNat yM aa aa v1 v2 hw;exact⟨L',Z,vC,pU,CM,qV,ly.qB (X:=B b5 211 #[.bool wr,Y ky,Y vl]::B tb 82 (vm L.sb (.iface T<|mP bv) q p b false)::mX q (.slice A len cp) u'::rh) hI hJ⟩
    refine Ws<|Ws<|Yj [11] hI fun Sx hY hZ hI=>?_;refine Vj 0 Z<|Vk 1 Z<|Vd 2 0 Z<|V9 3 (.pointer _) Z (lL hY fun h=>h.c1 Z)<|Vw 4 Z<|Vd 5 1 Z<|Ye 6 hY Z Z<|Vd 7 0 Z<|V9 8 (.bool _) Z (lL hY fun h=>h.c0 Z)<|Vd 9 2 Z<|Ye 10 hY Z Z<|qn ai ?_;refine Tc 11 Z<|V7 [.pointer _,Y _,Y _,.bool _,Y _] Z func89 Z<|(hB _ hI).mono ?_;rintro e w1 ⟨L',rfl,vC,pU,CM,qV,nd⟩;apply rV;replace hI:=nd;refine Wn<|Tc 12 Z<|Tn Z mY Z<|Wn<|qm ai<|Wc false Z<|Wk<|Wq<|V8 Z<|Ve Z<|V6 11 Z<|Yd hI Z Z<|Vx Z<|Ve Z<|V6 11 Z<|Fv (u:=Y _) hI Z Z Z Z Z Z ai Z Z Z ?_;intro w hI;exact Wn<|Wq<|V5 Z<|Wn<|WR<|lV 4 Z ⟨true,⟨wi s c' ky.toNat wr vl,g',u',b+1,false⟩,L',rh,Z,.inr ⟨Z,by show b<40;omega,c',yM,some (wr,ky,vl),g',u',py,.inr ⟨wr,ky,vl,rfl,.inr ⟨qN,rfl,rfl⟩⟩⟩,qF,vC,pU,CM,qV,hI.d0⟩
   have hB:∀(w:lE),ly S w0 w (B b5 211 #[.bool wr,Y ky,Y vl]::B tb 82 (vm L.sb (.iface T<|mP bv) q p b false)::mX q (.slice A len cp) u'::(rh++lR L s))->
     Cq 89 #[lJ L.sb 0,Y c,Y ky,.bool wr,Y vl] w fun en w'=>∃n:Int,en=.returned (.iface 36<|Y n)/\ly S w0 w' (B b5 211 #[.bool wr,Y ky,Y vl]::B tb 82 (vm L.sb (.iface T<|mP bv) q p b false)::mX q (.slice A len cp) u'::(rh++lR L s)):=by
    intro w hI;refine(aak L s M mH hM (p9<|lR L s) _ (ly.n9 (X:=B b5 211 #[.bool wr,Y ky,Y vl]::B tb 82 (vm L.sb (.iface T<|mP bv) q p b false)::mX q (.slice A len cp) u'::rh) hI) c ky wr vl).mono ?_;rintro en w1 ⟨v,L',s',rfl,_,vC,pU,CM,qV,hJ,_,hx⟩;rcases hx with⟨⟨n,rfl⟩,hs,hL⟩|⟨_,c2,kn,_,h1,h2,h3,h4,_⟩
    .rw[hs,hL]at hJ;exact⟨n,Z,ly.qB (X:=B b5 211 #[.bool wr,Y ky,Y vl]::B tb 82 (vm L.sb (.iface T<|mP bv) q p b false)::mX q (.slice A len cp) u'::rh) hI hJ⟩
    exact ll ⟨⟨aa,aa⟩,h3,h4⟩ qN
   refine Ws<|Ws<|Yj [11] hI fun Sx hY hZ hI=>?_;refine Vj 0 Z<|Vk 1 Z<|Vd 2 0 Z<|V9 3 (.pointer _) Z (lL hY fun h=>h.c1 Z)<|Vw 4 Z<|Vd 5 1 Z<|Ye 6 hY Z Z<|Vd 7 0 Z<|V9 8 (.bool _) Z (lL hY fun h=>h.c0 Z)<|Vd 9 2 Z<|Ye 10 hY Z Z<|qn ai ?_;refine Tc 11 Z<|V7 [.pointer _,Y _,Y _,.bool _,Y _] Z func89 Z<|(hB _ hI).mono ?_;rintro e w1 ⟨n,rfl,nd⟩;apply rV;replace hI:=nd;exact Wn<|Tc 12 Z<|Tp Z mY Z<|Wn<|qm ai<|Wc true Z<|Wq<|V5 Z<|Wn<|WR<|lV 4 Z ⟨false,⟨s,g',u',b,false⟩,L,rh,Z,.inr ⟨Z,by show b<40;omega,c',yM,some (wr,ky,vl),g',u',py,.inr ⟨wr,ky,vl,rfl,.inl ⟨qN,rfl,rfl⟩⟩⟩,qF,mH.mono aa,rfl,rfl,rfl,hI.d0⟩
theorem yn.facts{t t':Tr}{r:Bool}(h:yn nums t c r t'):Mv t.st t'.st/\t'.g.sz<=t.g.sz/\t.u<=t'.u/\t'.u<=t.u+t.g.sz/\t.b<=t'.b/\t'.b<=t.b+1/\(t.b<=40->t'.b<=40):=by
 rcases h with⟨_,_,rfl⟩|⟨_,hb,c',hm,rr,g',u',py,h⟩
 .exact⟨Mv.refl _,ku _,ku _,aa,ku _,aa,id⟩
 have hs:=py.sz;rcases h with⟨_,_,rfl⟩|⟨w,k,v,_,⟨_,_,rfl⟩|⟨mH,_,rfl⟩⟩
 .exact⟨Mv.refl _,hs.2.2,hs.1,hs.2.1,ku _,by show t.b<=t.b+1;omega,id⟩
 .exact⟨Mv.refl _,hs.2.2,hs.1,hs.2.1,ku _,by show t.b<=t.b+1;omega,id⟩
 refine⟨.inr<|.inl ⟨c',k.toNat,w,v,hm.lt,hm.busy,hm.gone,?_,mH.2.1,Z⟩,hs.2.2,hs.1,hs.2.1,by show t.b<=t.b+1;omega,ku _,fun _=>by show t.b+1<=40;omega⟩;have:=mH.1;omega
def zM(nums:mq)(s:l8)(cut:Bool)(lb:rD)(u:Nat):l8×Bool×List (List Bool)×Nat:=
 if(qA nums u 6).1=1 then(s,true,Fz s.n s.k<|FH s.n<|Me s.n,u+1)
 else if(qA nums u 6).1=2 then(s,true,Fz s.n s.k<|FH s.n<|Li s.n,u+1)
 else if(qA nums u 6).1=3 then(s,true,Fz s.n s.k<|FH s.n<|ND s.n,u+1)
 else if(qA nums u 6).1=4 then(s,true,Fz s.n s.k<|FH s.n<|Lh ((qA nums (u+1) s.n).1:Int),u+2)
 else if(qA nums u 6).1=5 then(Uw s ((qA nums (u+1) s.k).1:Int),cut,lb,u+2)
 else(s,false,[],u+1)
def Fl(nums:mq)(t:Tr)(cut:Bool)(lb:rD)(t':Tr)(Fy:Bool)(Gc:rD):Prop:=
 ((qA nums t.u 10).1<3/\(∃r,yn nums ⟨t.st,t.g,(qA nums (t.u+1) t.st.k).2,t.b,t.em⟩ ((qA nums (t.u+1) t.st.k).1:Int) r t')/\Fy=cut/\Gc=lb)\/
 (3<=(qA nums t.u 10).1/\(qA nums t.u 10).1<7/\t'=⟨G0 cut lb t.st ((qA nums (t.u+1) t.st.lU.length).1:Int),t.g,(qA nums (t.u+1) t.st.lU.length).2,t.b,t.em⟩/\Fy=cut/\Gc=lb)\/
 ((qA nums t.u 10).1=7/\t'=⟨OQ t.st ((qA nums (t.u+1) t.st.lU.length).1:Int),t.g,(qA nums (t.u+1) t.st.lU.length).2,t.b,t.em⟩/\Fy=cut/\Gc=lb)\/
 ((qA nums t.u 10).1=8/\t'=⟨OK t.st ((qA nums (t.u+1) t.st.lU.length).1:Int),t.g,(qA nums (t.u+1) t.st.lU.length).2,t.b,t.em⟩/\Fy=cut/\Gc=lb)\/
 (9<=(qA nums t.u 10).1/\(t'.st,Fy,Gc,t'.u)=zM nums t.st cut lb (t.u+1)/\t'.g=t.g/\t'.b=t.b/\t'.em=t.em)
abbrev oO(tb:Nat)(sb:Nat)(gv:Value)(q:Nat)(p:Fg)(b:Nat)(em:Bool):lN:=B tb 82 (vm sb gv q p b em)
theorem ly.toEnd{S:lF}{a b:lN}{X R:List lN}(h:ly S w0 w (a::b::(X++R))):ly S w0 w (X++(a::b::R)):=h.perm (ee [a,b] X R)
section
variable{S D:lF}{w0:lE}{gv:lH}{LG:List lN}{q tb:Nat}{p:Fg}{A:lO}{len cp:Nat}{nums:mq}
theorem as0(w:lE)(L:ny)(s:l8)(u b M:Nat)(em:Bool)
  (hI:ly S w0 w (oO tb L.sb gv q p b em::mX q (.slice A len cp) u::(LG++lR L s))) (mH:nw L s M) (hM:M<=100000) (hN:pL w0 D (.slice A len cp) nums) (hD:∀k,D k->¬S k) (hu:u+4<=4611686018427387904) (F0:p.n=s.n) (oX:p.k=s.k):
  Cq 62 #[mP tb] w fun e w'=>(∃v,e=.returned v)/\∃u' L' s',Mv s s'/\nw L' s' (M+1)/\L'.sb=L.sb/\u<=u'/\u'<=u+2/\(s',L'.cut,L'.lb,u')=zM nums s L.cut L.lb u/\ly S w0 w' (oO tb L.sb gv q p b em::mX q (.slice A len cp) u'::(LG++lR L' s')):=by
 have rY:=mH.k1;have Mx:=mH.n1;rw[<-F0]at Mx;rw[<-oX]at rY;have D8:=fun(w:lE) (u:Nat) (n:Int) (hI:ly S w0 w (oO tb L.sb gv q p b em::mX q (.slice A len cp) u::(LG++lR L s))) (hn:n<=1000) (hu:u<=4611686018427387904)=>aam S D w0 w _ q A len cp nums u n (hI.perm<|.swap ..) hN hD aa aa;refine Vo func62 Z<|Wq<|Vm Z<|Wn<|Wq<|Vh Z<|Wn<|Wq<|V8 Z<|Ve Z<|V6 3 Z<|Tq Z<|Tq Z<|Yc hI Z Z<|Vb Z<|Wn ?_;have Pm:∀{ρ:lB} {w w':lE} {u':Nat} {v0 v1:lH} {gd:Prop} {f:Nat->Nat->Nat->Bool},ly S w0 w (oO tb L.sb gv q p b em::mX q (.slice A len cp) u'::(LG++lR L s))->AX gd (p.n:Int) f w v0 v1 w'->gd->(s,true,Fz s.n s.k<|FH s.n<|f s.n,u')=zM nums s L.cut L.lb u->u<=u'->u'<=u+2->lA ρ [(2,v0),(3,v1),(0,mP tb)]->
   ∃(u':Nat) (v0 v1:lH),u<=u'/\u'<=u+2/\lA ρ [(2,v0),(3,v1),(0,mP tb)]/\
  ((v0=.slice none 0 0/\v1=.nilIface/\(s,false,[],u')=zM nums s L.cut L.lb u/\ly S w0 w' (oO tb L.sb gv q p b em::mX q (.slice A len cp) u'::(LG++lR L s)))\/
   (v1=.nilIface/\∃(g:Nat) (vals:mb) (E:lF) (bs:rD),v0=me g 0 s.n s.n/\vals.length=s.n/\(s,true,Fz s.n s.k bs,u')=zM nums s L.cut L.lb u/\ly S w0 w' (lz 0 155 1 (some ⟨g,0,none⟩) s.n s.n vals::oq vals E bs::oO tb L.sb gv q p b em::mX q (.slice A len cp) u'::(LG++lR L s)))):=by
  intro ρ w w' u' v0 v1 gd f hI hL Aq HE h1 h2 hH;refine⟨u',v0,v1,h1,h2,hH,?_⟩;rcases hL with⟨_,e1,g,m,vals,E,hm,e0,vE,_,hJ⟩|⟨h0,_⟩
  .obtain rfl:m=s.n:=aa;exact .inr ⟨e1,g,vals,E,_,e0,vE,HE,hI.Z5 hJ⟩
  exact ll Aq h0
 refine Wx (fun ρ w=>∃(u':Nat) (v0 v1:lH),u<=u'/\u'<=u+2/\lA ρ [(2,v0),(3,v1),(0,mP tb)]/\
  ((v0=.slice none 0 0/\v1=.nilIface/\(s,false,[],u')=zM nums s L.cut L.lb u/\ly S w0 w (oO tb L.sb gv q p b em::mX q (.slice A len cp) u'::(LG++lR L s)))\/
   (v1=.nilIface/\∃(g:Nat) (vals:mb) (E:lF) (bs:rD),v0=me g 0 s.n s.n/\vals.length=s.n/\(s,true,Fz s.n s.k bs,u')=zM nums s L.cut L.lb u/\ly S w0 w (lz 0 155 1 (some ⟨g,0,none⟩) s.n s.n vals::oq vals E bs::oO tb L.sb gv q p b em::mX q (.slice A len cp) u'::(LG++lR L s))))) ?_ ?_
 .refine Wq<|V8 Z<|Ve Z<|V6 2 Z<|V4 (.pointer _) Z (hI.c0 Z)<|V7 [.pointer _,Y _] Z func56 Z<|(D8 _ u 6 hI aa aa).mono ?_;rintro e w1 ⟨z,u',rfl,hz, -,C4,JA,Ai,nd⟩;apply rV;replace hI:=nd.perm<|.swap ..;apply Wn;obtain⟨rfl,hz6⟩:=hz aa;have vz:=Ai.1.symm;apply Wb;by_cases h1:z=1
  .refine Wq<|Vz Z<|V5 Z<|Yt Z<|Wr<|V0 Z<|V7 [Y _] Z func96 Z<|(anr _ _).mono ?_;rintro e w1 ⟨v0,v1,rfl,hL⟩;exact rV<|Vy Z<|Vi Z<|Vi Z<|Tt Z<|Tt Z<|Wn<|Pm hI hL ⟨aa,aa⟩ (by unfold zM;rw[vz];subst h1;simp) aa aa sf
  refine Wq<|Vv Z<|V5 Z<|Yf Z ?_;by_cases h2:z=2
  .refine Wq<|Vz Z<|V5 Z<|Yt Z<|Wr<|V0 Z<|V7 [Y _] Z func97 Z<|(ajx _ _).mono ?_;rintro e w1 ⟨v0,v1,rfl,hL⟩;exact rV<|Vy Z<|Vi Z<|Vi Z<|Tt Z<|Tt Z<|Wn<|Pm hI hL ⟨aa,aa⟩ (by unfold zM;rw[vz];subst h2;simp) aa aa sf
  refine Wq<|Vv Z<|V5 Z<|Yf Z ?_;by_cases h3:z=3
  .refine Wq<|Vz Z<|V5 Z<|Yt Z<|Wr<|V0 Z<|V7 [Y _] Z func98 Z<|(aus _ _).mono ?_;rintro e w1 ⟨v0,v1,rfl,hL⟩;exact rV<|Vy Z<|Vi Z<|Vi Z<|Tt Z<|Tt Z<|Wn<|Pm hI hL ⟨aa,aa⟩ (by unfold zM;rw[vz];subst h3;simp) aa aa sf
  refine Wq<|Vv Z<|V5 Z<|Yf Z ?_;by_cases h4:z=4
  .refine Wq<|Vz Z<|V5 Z<|Yt Z<|Wr<|V0 Z<|V8 Z<|Ve Z<|V6 2 Z<|V4 (.pointer _) Z (hI.c0 Z)<|V0 Z<|V7 [.pointer _,Y _] Z func56 Z<|(D8 _ _ (p.n:Int) hI aa aa).mono ?_;rintro e w2 ⟨z2,u2,rfl,xw, -,HK,F5,BG,nR⟩;apply rV;replace hI:=nR.perm<|.swap ..;refine V7 [Y _,Y _] Z func99 Z<|(aiV _ _ _).mono ?_;rintro e w1 ⟨v0,v1,rfl,hL⟩;refine rV<|Vy Z<|Vi Z<|Vi Z<|Tt Z<|Tt Z<|Wn ?_;have⟨WZ,ap8⟩:=xw aa;exact Pm hI hL ⟨⟨aa,aa⟩,aa,aa⟩ (by unfold zM;rw[vz];subst h4;rw[BG.1,WZ,F0];simp) aa aa sf
  refine Wq<|Vv Z<|V5 Z<|Yf Z ?_;by_cases h5:z=5
  .refine Wq<|Vz Z<|V5 Z<|Yt Z<|Ws<|Wd ai<|Wi (T:=[]) hI.oU.drew ?_;intro Sx hY hZ;have hI:=hI.drew;refine Vj 0 Z<|Vk 1 Z<|Vd 2 0 Z<|V9 3 (.pointer _) Z (lL hY fun h=>h.c0 Z)<|Vj 4 Z<|Vk 5 Z<|Vd 6 2 Z<|V9 7 (.pointer _) Z (lL hY fun h=>h.c0 Z)<|Vj 8 Z<|Vk 9 Z<|Vd 10 3 Z<|U4 11 Z<|Td 12 1 Z<|Ye 13 hY Z Z<|Vr 14 Z<|V7 [.pointer _,Y _] Z func56 Z<|(D8 _ _ (p.k:Int) hI aa aa).mono ?_;rintro e w2 ⟨z2,u2,rfl,xw, -,HK,F5,BG,nR⟩;apply rV;replace hI:=nR.perm<|.swap ..;refine Wn ⟨hZ _ hI.oU,(Vr 15 Z<|V7 [.pointer _,Y _] Z func100 Z<|(amb L s M mH (p9<|lR L s) _ (ly.n9 (X:=oO tb L.sb gv q p b em::mX q (.slice A len cp) u2::LG) hI) z2).mono ?_)⟩;rintro e w3 ⟨⟨v,rfl⟩,L',s',x7,vC,pU,hJ,pO,zy,qV⟩;apply rV;have hI:=ly.qB (X:=oO tb L.sb gv q p b em::mX q (.slice A len cp) u2::LG) hI hJ;refine Wn ⟨hZ _ hI.oU,(Yz<|WR ?_)⟩;have⟨WZ,ap8⟩:=xw aa;exact tj (.inr Z) Z ⟨⟨_,Z⟩,u2,L',s',x7,vC,pU,aa,aa,by unfold zM;rw[vz];subst h5;rw[pO,zy,qV,BG.1,WZ,oX];simp,hI⟩
  exact Wq<|Vv Z<|V5 Z<|Yf Z<|Wk ⟨_,_,_,(by omega:u<=u+1),aa,sf,.inl ⟨rfl,rfl,by unfold zM;rw[vz];simp[h1,h2,h3,h4,h5],hI⟩⟩
 rintro ρ w ⟨u',v0,v1,C4,JA,hH,Al⟩;obtain⟨σ,rfl⟩:=hH.open;rcases Al with⟨rfl,rfl,HE,hI⟩|⟨rfl,g,vals,E,bs,rfl,vE,HE,hI⟩
 .refine Wq<|Tb Z<|Wv Z aR<|Yt Z<|Wr<|V8 Z<|Ve Z<|V6 0 Z<|V4 (.pointer _) Z (hI.c0 Z)<|Vf Z<|V7 [.pointer _,.slice _ _ _] Z func63 Z<|(aku L s (p9<|lR L s) _<|ly.n9 (X:=oO tb L.sb gv q p b em::mX q (.slice A len cp) u'::LG) hI).mono ?_;rintro e w3 ⟨⟨v,rfl⟩,L',pU,BJ,hJ,zy,qV⟩;apply rV;have hI:=ly.qB (X:=oO tb L.sb gv q p b em::mX q (.slice A len cp) u'::LG) hI hJ;exact Wn<|tj (.inl Z) Z ⟨⟨_,Z⟩,u',L',s,Mv.refl _,(mH.loc BJ).mono aa,pU,C4,JA,by rw[zy,qV];exact HE,hI⟩
 refine Wq<|Tb Z<|Wv Z aR<|Yt Z<|Wr<|V8 Z<|Ve Z<|V6 0 Z<|V4 (.pointer _) Z (hI.c2 Z)<|Vf Z<|V7 [.pointer _,.slice _ _ _] Z func63 Z<|(akw L s M g vals E bs mH vE (p9<|lz 0 155 1 (some ⟨g,0,none⟩) s.n s.n vals::oq vals E bs::lR L s) _<|ly.n9 (X:=oO tb L.sb gv q p b em::mX q (.slice A len cp) u'::LG)<|ly.toEnd (X:=oO tb L.sb gv q p b em::mX q (.slice A len cp) u'::LG) hI).mono ?_;rintro e w3 ⟨⟨v,rfl⟩,L',pU,BJ,hJ,zy,qV⟩;apply rV;have hI:=ly.qB (X:=oO tb L.sb gv q p b em::mX q (.slice A len cp) u'::LG) (ly.toEnd (X:=oO tb L.sb gv q p b em::mX q (.slice A len cp) u'::LG) hI) hJ;exact Wn<|tj (.inl Z) Z ⟨⟨_,Z⟩,u',L',s,Mv.refl _,(mH.loc BJ).mono aa,pU,C4,JA,by rw[zy,qV];exact HE,hI⟩
theorem arL(w:lE)(L:ny)(t:Tr)(M:Nat)
  (hI:ly S w0 w (oO tb L.sb gv q p t.b t.em::mX q (.slice A len cp) t.u::(LG++lR L t.st))) (hr:qe t.g gv LG) (mH:nw L t.st M) (hM:M<=100000) (hN:pL w0 D (.slice A len cp) nums) (hD:∀k,D k->¬S k) (hu:t.u+8+t.g.sz<=4611686018427387904) (hb:t.b<=1000) (F0:p.n=t.st.n) (oX:p.k=t.st.k):
  Cq 21 #[mP tb] w fun e w'=>(∃v,e=.returned v)/\∃(t':Tr) (L':ny) (rh:List lN),Mv t.st t'.st/\qe t'.g gv rh/\t'.g.sz<=t.g.sz/\nw L' t'.st (M+1)/\L'.sb=L.sb/\t.u<t'.u/\t'.u<=t.u+4+t.g.sz/\t.b<=t'.b/\(t.b<=40->t'.b<=40)/\Fl nums t L.cut L.lb t' L'.cut L'.lb/\
   ly S w0 w' (oO tb L.sb gv q p t'.b t'.em::mX q (.slice A len cp) t'.u::(rh++lR L' t'.st)):=by
 obtain⟨s,g,u,b,em⟩:=t;dsimp only at hI hr mH hu hb F0 oX|-;have Mx:=mH.n1;have hk7:=mH.k1;have Ms:=mH.vG;have D8:=fun(w:lE) (u:Nat) (n:Int) (hI:ly S w0 w (oO tb L.sb gv q p b em::mX q (.slice A len cp) u::(LG++lR L s))) (hn:n<=1000) (hu:u<=4611686018427387904)=>aam S D w0 w _ q A len cp nums u n (hI.perm<|.swap ..) hN hD aa aa;have UQ:=fun(w:lE) (u2:Nat) (hI:ly S w0 w ((oO tb L.sb gv q p b em::mX q (.slice A len cp) u2::LG)++lR L s))=>Zd L.sb s.lU.length L.mc L.MA w<|YL hI;have Pf:∀{w':lE} {u2:Nat} {v:lH} {L':ny} {s':l8},Mv s s'->nw L' s' (M+1)->L'.sb=L.sb->u+1<=u2->u2<=u+3->Fl nums ⟨s,g,u,b,em⟩ L.cut L.lb ⟨s',g,u2,b,em⟩ L'.cut L'.lb->ly S w0 w' (oO tb L.sb gv q p b em::mX q (.slice A len cp) u2::(LG++lR L' s'))->
   (∃v',Ending.returned v=.returned v')/\∃(t':Tr) (L':ny) (rh:List lN),Mv s t'.st/\qe t'.g gv rh/\t'.g.sz<=g.sz/\nw L' t'.st (M+1)/\L'.sb=L.sb/\u<t'.u/\t'.u<=u+4+g.sz/\b<=t'.b/\(b<=40->t'.b<=40)/\Fl nums ⟨s,g,u,b,em⟩ L.cut L.lb t' L'.cut L'.lb/\
   ly S w0 w' (oO tb L.sb gv q p t'.b t'.em::mX q (.slice A len cp) t'.u::(rh++lR L' t'.st)):=
  fun {w' u2 v L' s'} h1 h2 h3 h4 h5 Hw hI=>⟨⟨_,rfl⟩,⟨s',g,u2,b,em⟩,L',LG,h1,hr,ku _,h2,h3,by show u<u2;omega,by show u2<=u+4+g.sz;omega,ku _,id,Hw,hI⟩
 refine Vo func21 Z<|Wq<|V8 Z<|Ve Z<|V6 2 Z<|V4 (.pointer _) Z (hI.c0 Z)<|V7 [.pointer _,Y _] Z func56 Z<|(D8 _ u 10 hI aa aa).mono ?_;rintro e w1 ⟨z,u1,rfl,hz, -,C4,JA,Ai,nd⟩;apply rV;replace hI:=nd.perm<|.swap ..;refine Vb Z<|Wn ?_;obtain⟨rfl,az4⟩:=hz aa;have vz:=Ai.1.symm;apply Wb;by_cases h3:z<3
 .refine Wq<|V0 Z<|Vt Z<|V5 Z<|Yt Z<|Wd ai<|Wi (T:=[12]) hI.oU.drew ?_;intro Sx hY hZ;have hI:=hI.drew;refine Vj 0 Z<|Vj 1 Z<|Vk 2 Z<|Vd 3 2 Z<|V9 4 (.pointer _) Z (lL hY fun h=>h.c0 Z)<|Vj 5 Z<|Vk 6 Z<|Vd 7 3 Z<|U4 8 Z<|Td 9 1 Z<|Ye 10 hY Z Z<|Vr 11 Z<|V7 [.pointer _,Y _] Z func56 Z<|(D8 _ _ (p.k:Int) hI aa aa).mono ?_;rintro e w2 ⟨z2,u2,rfl, -, -,HK,F5,BG,nR⟩;apply rV;replace hI:=nR.perm<|.swap ..;refine Wn ⟨hZ _ hI.oU,(qn ai ?_)⟩;refine Tc 12 Z<|V7 [.pointer _,Y _] Z func57 Z<|(ahm S D w0 _ L gv LG q tb p ⟨s,g,u2,b,em⟩ A len cp nums M z2 hI hr mH hM hN hD (by show u2+g.sz<=_;omega) hb).mono ?_;rintro e w3 ⟨r,t',L',rh,rfl,Ec,qF,vC,pU,zy,qV,va⟩;apply rV;replace hI:=va;refine Wn<|qm ai ?_;have⟨f1,f2,f3,f4,f5,f6,f7⟩:=Ec.facts;dsimp only at f1 f2 f3 f4 f5 f6 f7;exact tj (.inl Z) Z ⟨⟨_,Z⟩,t',L',rh,f1,qF,f2,vC,pU,aa,aa,f5,f7,.inl ⟨by show(qA nums u 10).1<3;rw[vz];exact h3,⟨r,by rw[BG.1,BG.2,oX]at Ec;exact Ec⟩,zy,qV⟩,hI⟩
 refine Wq<|V0 Z<|Vq Z<|V5 Z<|Yf Z ?_;by_cases h7:z<7
 .refine Wq<|V0 Z<|Vt Z<|V5 Z<|Yt Z<|Wd ai<|Wi (T:=[]) hI.oU.drew ?_;intro Sx hY hZ;have hI:=hI.drew;refine Vj 0 Z<|Vk 1 Z<|Vd 2 0 Z<|V9 3 (.pointer _) Z (lL hY fun h=>h.c0 Z)<|Vj 4 Z<|Vk 5 Z<|Vd 6 2 Z<|V9 7 (.pointer _) Z (lL hY fun h=>h.c0 Z)<|Vj 8 Z<|Vk 9 Z<|Vd 10 0 Z<|V9 11 (.pointer _) Z (lL hY fun h=>h.c0 Z)<|Vr 12 Z<|V7 [.pointer _] Z func59 Z<|(UQ _ _ hI).mono<|pJ hI fun w1 hp hI=>Wn ⟨hZ _ hI.oU,(Vr 13 Z<|V7 [.pointer _,Y _] Z func56 Z<|(D8 _ _ (s.lU.length:Int) hI aa aa).mono ?_)⟩;rintro e w2 ⟨z2,u2,rfl, -, -,HK,F5,BG,nR⟩;apply rV;replace hI:=nR.perm<|.swap ..;refine Wn ⟨hZ _ hI.oU,(Vr 14 Z<|V7 [.pointer _,Y _] Z func58 Z<|(aa0 L s M mH hM (p9<|lR L s) _ (ly.n9 (X:=(oO tb L.sb gv q p b em::mX q (.slice A len cp) u2::LG)) hI) z2).mono ?_)⟩;rintro e w3 ⟨v,L',s',rfl,x7,vC,pU,zy,qV,hJ,pO, -⟩;apply rV;have hI:=ly.qB (X:=(oO tb L.sb gv q p b em::mX q (.slice A len cp) u2::LG)) hI hJ;exact Wn ⟨hZ _ hI.oU,(Yz<|tj (.inl Z) Z<|Pf x7 vC pU aa aa (.inr<|.inl ⟨by show 3<=(qA nums u 10).1;rw[vz];omega,by show(qA nums u 10).1<7;rw[vz];exact h7,dH,zy,qV⟩) hI)⟩
 refine Wq<|V0 Z<|Vq Z<|V5 Z<|Yf Z ?_;by_cases h7b:z=7
 .refine Wq<|V0 Z<|Vz Z<|V5 Z<|Yt Z<|Wd ai<|Wi (T:=[]) hI.oU.drew ?_;intro Sx hY hZ;have hI:=hI.drew;refine Vj 0 Z<|Vk 1 Z<|Vd 2 0 Z<|V9 3 (.pointer _) Z (lL hY fun h=>h.c0 Z)<|Vj 4 Z<|Vk 5 Z<|Vd 6 2 Z<|V9 7 (.pointer _) Z (lL hY fun h=>h.c0 Z)<|Vj 8 Z<|Vk 9 Z<|Vd 10 0 Z<|V9 11 (.pointer _) Z (lL hY fun h=>h.c0 Z)<|Vr 12 Z<|V7 [.pointer _] Z func59 Z<|(UQ _ _ hI).mono<|pJ hI fun w1 hp hI=>Wn ⟨hZ _ hI.oU,(Vr 13 Z<|V7 [.pointer _,Y _] Z func56 Z<|(D8 _ _ (s.lU.length:Int) hI aa aa).mono ?_)⟩;rintro e w2 ⟨z2,u2,rfl, -, -,HK,F5,BG,nR⟩;apply rV;replace hI:=nR.perm<|.swap ..;refine Wn ⟨hZ _ hI.oU,(Vr 14 Z<|V7 [.pointer _,Y _] Z func60 Z<|(ak7 L s M mH (p9<|lR L s) _ (ly.n9 (X:=(oO tb L.sb gv q p b em::mX q (.slice A len cp) u2::LG)) hI) z2).mono ?_)⟩;rintro e w3 ⟨⟨v,rfl⟩,L',s',x7,vC,pU,hJ,pO,zy,qV⟩;apply rV;have hI:=ly.qB (X:=(oO tb L.sb gv q p b em::mX q (.slice A len cp) u2::LG)) hI hJ;exact Wn ⟨hZ _ hI.oU,(Yz<|tj (.inl Z) Z<|Pf x7 vC pU aa aa (.inr<|.inr<|.inl ⟨by show(qA nums u 10).1=7;rw[vz];exact h7b,dH,zy,qV⟩) hI)⟩
 refine Wq<|V0 Z<|Vv Z<|V5 Z<|Yf Z ?_;by_cases h8b:z=8
 .refine Wq<|V0 Z<|Vz Z<|V5 Z<|Yt Z<|Wd ai<|Wi (T:=[]) hI.oU.drew ?_;intro Sx hY hZ;have hI:=hI.drew;refine Vj 0 Z<|Vk 1 Z<|Vd 2 0 Z<|V9 3 (.pointer _) Z (lL hY fun h=>h.c0 Z)<|Vj 4 Z<|Vk 5 Z<|Vd 6 2 Z<|V9 7 (.pointer _) Z (lL hY fun h=>h.c0 Z)<|Vj 8 Z<|Vk 9 Z<|Vd 10 0 Z<|V9 11 (.pointer _) Z (lL hY fun h=>h.c0 Z)<|Vr 12 Z<|V7 [.pointer _] Z func59 Z<|(UQ _ _ hI).mono<|pJ hI fun w1 hp hI=>Wn ⟨hZ _ hI.oU,(Vr 13 Z<|V7 [.pointer _,Y _] Z func56 Z<|(D8 _ _ (s.lU.length:Int) hI aa aa).mono ?_)⟩;rintro e w2 ⟨z2,u2,rfl, -, -,HK,F5,BG,nR⟩;apply rV;replace hI:=nR.perm<|.swap ..;refine Wn ⟨hZ _ hI.oU,(Vr 14 Z<|V7 [.pointer _,Y _] Z func61 Z<|(ak6 L s M mH (p9<|lR L s) _ (ly.n9 (X:=(oO tb L.sb gv q p b em::mX q (.slice A len cp) u2::LG)) hI) z2).mono ?_)⟩;rintro e w3 ⟨⟨v,rfl⟩,L',s',x7,vC,pU,hJ,pO,zy,qV⟩;apply rV;have hI:=ly.qB (X:=(oO tb L.sb gv q p b em::mX q (.slice A len cp) u2::LG)) hI hJ;exact Wn ⟨hZ _ hI.oU,(Yz<|tj (.inl Z) Z<|Pf x7 vC pU aa aa (.inr<|.inr<|.inr<|.inl ⟨by show(qA nums u 10).1=8;rw[vz];exact h8b,dH,zy,qV⟩) hI)⟩
 refine Wq<|V0 Z<|Vv Z<|V5 Z<|Yf Z<|Wr<|V8 Z<|V7 [.pointer _] Z func62 Z<|(as0 _ L s (u+1) b M em hI mH hM hN hD aa F0 oX).mono ?_;rintro e w3 ⟨⟨v,rfl⟩,u3,L',s',x7,vC,pU,HK,F5,HE,va⟩;apply rV;replace hI:=va;exact Wn<|tj (.inl Z) Z<|Pf x7 vC pU aa aa (.inr<|.inr<|.inr<|.inr ⟨by show 9<=(qA nums u 10).1;rw[vz];omega,HE,Z,Z,Z⟩) hI
end
inductive vn:l8->l8->Prop
 |nil {s:l8}:s.lU=[]->vn s s|step {s s':l8} {m:ou}:s.lU[0]?=some m->vn (tX s 0 m) s'->vn s s'
inductive yp(nums:mq)(k:Nat):Nat->Tr->Bool->Tr->Bool->Prop
 |done {t:Tr} {m:Bool}:yp nums k k t m t m|step {i:Nat} {t t1 t2:Tr} {r m m2:Bool}:i<k->yn nums t (i:Int) r t1->yp nums k (i+1) t1 (r||m) t2 m2->yp nums k i t m t2 m2
inductive AW(nums:mq)(k:Nat):Tr->Tr->Prop
 |last {t t1:Tr} {s1:l8}:vn t.st s1->yp nums k 0 {t with st:=s1} false t1 false->AW nums k t t1|more {t t1 t2:Tr} {s1:l8}:vn t.st s1->yp nums k 0 {t with st:=s1} false t1 true->AW nums k t1 t2->AW nums k t t2
theorem yn.mu{t t':Tr}{r:Bool}(h:yn nums t c r t')(hn:t.st.n<=7):(r=true->t'.b=t.b+1/\t.b<40/\oJ t'.st<=oJ t.st+29)/\(r=false->t'.b=t.b/\t'.st=t.st):=by
 rcases h with⟨_,rfl,rfl⟩|⟨_,hb,c',hm,rr,g',u',py,h⟩
 .exact⟨fun h=>bV,fun _=>⟨Z,Z⟩⟩
 rcases h with⟨_,rfl,rfl⟩|⟨w,k,v,_,⟨_,rfl,rfl⟩|⟨mH,rfl,rfl⟩⟩
 .exact⟨fun h=>bV,fun _=>⟨Z,Z⟩⟩
 .exact⟨fun h=>bV,fun _=>⟨Z,Z⟩⟩
 refine⟨fun _=>⟨Z,hb,?_⟩,fun h=>bV⟩;have:=arM (s:=t.st) (key:=k.toNat) (write:=w) (value:=v) hm.lt;show oJ (wi t.st c' k.toNat w v)<=_;omega
theorem aaj(s:l8)(c key:Nat)(w:Bool)(v:Int):(wi s c key w v).n=s.n/\(wi s c key w v).k=s.k:=⟨rfl,rfl⟩
theorem yn.nk{t t':Tr}{r:Bool}(h:yn nums t c r t'):t'.st.n=t.st.n/\t'.st.k=t.st.k:=by
 rcases h with⟨_,_,rfl⟩|⟨_,hb,c',hm,rr,g',u',py,h⟩
 .exact⟨Z,Z⟩
 rcases h with⟨_,_,rfl⟩|⟨w,k,v,_,⟨_,_,rfl⟩|⟨mH,_,rfl⟩⟩
 .exact⟨Z,Z⟩
 .exact⟨Z,Z⟩
 exact aaj ..
theorem an6(s:l8)(j:Nat)(m:wY):(xi s j m).n=s.n/\(xi s j m).k=s.k:=by
 unfold xi;dsimp only;split
 .exact⟨Z,Z⟩
 split
 .split<;>exact⟨rfl,rfl⟩
 split
 .exact⟨Z,Z⟩
 split<;>exact⟨rfl,rfl⟩
theorem aaZ(s:l8)(i:Nat)(m:ou):(tX s i m).n=s.n/\(tX s i m).k=s.k:=by
 unfold tX;dsimp only;split
 .exact⟨Z,Z⟩
 exact an6 {s with lU:=s.lU.eraseIdx i} m.src m.m
section
variable{S D:lF}{w0:lE}{gv:lH}{q tb sb:Nat}{p:Fg}{A:lO}{len cp:Nat}{nums:mq}{SZ C:Nat}
structure FI(S:lF)(w0:lE)(gv:lH)(q tb sb:Nat)(p:Fg)(A:lO)(len cp:Nat)(SZ C:Nat)(t:Tr)(L:ny)(LG:List lN)(M:Nat)(w:lE):Prop where
 rep:qe t.g gv LG
 sz:t.g.sz<=SZ
 ok:nw L t.st M
 YC:L.sb=sb
 cut:L.cut=false
 b40:t.b<=40
 k:t.st.k=p.k
 mc:M<=C
 u:t.u+(C-M)*SZ+SZ<=4000000000000000000
 inv:ly S w0 w (oO tb sb gv q p t.b t.em::mX q (.slice A len cp) t.u::(LG++lR L t.st))
theorem aeg{M:Nat}(h:M+1<=C):(C-(M+1))*SZ+SZ=(C-M)*SZ:=by have e:C-M=(C-(M+1))+1:=aa;rw[e,j9]
theorem alQ(w:lE)(L:ny)(LG:List lN)(t0:Tr)(M0:Nat)
  (hI:ly S w0 w (oO tb L.sb gv q p t0.b t0.em::mX q (.slice A len cp) t0.u::(LG++lR L t0.st))) (hr:qe t0.g gv LG) (mH:nw L t0.st M0) (hC:M0+oJ t0.st+60*(40-t0.b)+8<=C) (hC2:C<=90000) (hN:pL w0 D (.slice A len cp) nums) (hD:∀k,D k->¬S k)
  (mR:t0.g.sz<=SZ) (hu:t0.u+(C-M0)*SZ+SZ<=4000000000000000000) (hb:t0.b<=40) (oX:t0.st.k=p.k):
  Cq 22 #[mP tb] w fun e w'=>(∃v,e=.returned v)/\∃(t':Tr) (L':ny) (rh:List lN) (M':Nat),AW nums p.k t0 t'/\qe t'.g gv rh/\nw L' t'.st M'/\L'.sb=L.sb/\
   ly S w0 w' (oO tb L.sb gv q p t'.b t'.em::mX q (.slice A len cp) t'.u::(rh++lR L' t'.st)):=by
 refine Vo func22 Z<|Wq<|V8 Z<|Ve Z<|V6 0 Z<|V4 (.pointer _) Z (hI.c0 Z)<|V7 [.pointer _,.slice _ _ _] Z func63 Z<|(aaR L t0.st (p9<|lR L t0.st) _<|ly.n9 (X:=oO tb L.sb gv q p t0.b t0.em::mX q (.slice A len cp) t0.u::LG) hI).mono ?_;rintro e w3 ⟨⟨v,rfl⟩,L1,pU,BJ,CM, -,hJ⟩;apply rV;have hI:=ly.qB (X:=oO tb L.sb gv q p t0.b t0.em::mX q (.slice A len cp) t0.u::LG) hI hJ;apply Wn;have hFI:FI S w0 gv q tb L.sb p A len cp SZ C t0 L1 LG M0 w3:=⟨hr,mR,mH.loc BJ,pU,CM,hb,oX,aa,hu,hI⟩
 refine Wq<|V5 Z<|Wn<|Wb ?_
 refine Wl (fun mu ρ w=>∃(t:Tr) (L1:ny) (tw:List lN) (M:Nat) (more:Bool),mu=2*(40-t.b)+more.toNat/\FI S w0 gv q tb L.sb p A len cp SZ C t L1 tw M w/\lA ρ [(2,.bool more),(0,mP tb)]/\
   ((more=true/\(∀t',AW nums p.k t t'->AW nums p.k t0 t')/\M+oJ t.st+60*(40-t.b)+8<=C)\/(more=false/\AW nums p.k t0 t))) (2*(40-t0.b)+1)
  ⟨t0,L1,LG,M0,true,rfl,hFI,⟨rfl,rfl,trivial⟩,.inl ⟨rfl,fun _ h=>h,hC⟩⟩ ?_
 rintro mu ρ w ⟨t,L1,tw,M,more,rfl,hF,hH,Al⟩;obtain⟨σ,rfl⟩:=hH.open;have hI:=hF.inv;rcases Al with⟨rfl,rU,hC⟩|⟨rfl,rU⟩
 rotate_left
 .exact Ws<|Wq<|V3 Z<|Yf Z<|WE<|tj (.inl Z) Z ⟨⟨_,Z⟩,t,L1,tw,M,rU,hF.rep,hF.ok,hF.YC,hI⟩
 refine Ws<|Wq<|V3 Z<|Yt Z<|Wk<|Wb<|Wx (fun ρ w=>∃(s1:l8) (L2:ny) (M2:Nat),FI S w0 gv q tb L.sb p A len cp SZ C {t with st:=s1} L2 tw M2 w/\vn t.st s1/\M2+oJ s1+60*(40-t.b)+8<=C/\lA ρ [(0,mP tb)]) ?_ ?_
 .apply Wb;refine Wl (fun mu ρ w=>∃(s1:l8) (L2:ny) (M2:Nat),mu=oJ s1/\FI S w0 gv q tb L.sb p A len cp SZ C {t with st:=s1} L2 tw M2 w/\(∀s',vn s1 s'->vn t.st s')/\M2+oJ s1+60*(40-t.b)+8<=C/\lA ρ [(0,mP tb)]) (oJ t.st)
   ⟨t.st,L1,M,rfl,hF,fun _ h=>h,hC,⟨rfl,trivial⟩⟩ ?_
  rintro mu ρ w ⟨s1,L2,M2,rfl,hF,Am,hC,hH⟩;obtain⟨σ,rfl⟩:=hH.open;have hI:=hF.inv;have pU:=hF.YC;have hmf:=hF.ok.zJ;have hfk:=hF.k;have qh:=hF.ok.n1;dsimp only at hI hmf hfk qh;rw[<-pU]at hI;replace hI:ly S w0 w ((oO tb L2.sb gv q p t.b t.em::mX q (.slice A len cp) t.u::tw)++lR L2 s1):=hI;by_cases Av:s1.lU.length=0
  .refine Ws<|Wq<|V8 Z<|Ve Z<|V6 0 Z<|V4 (.pointer _) Z (hI.c0 Z)<|V7 [.pointer _] Z func59 Z<|(Zd L2.sb s1.lU.length L2.mc L2.MA _<|YL (X:=(oO tb L2.sb gv q p t.b t.em::mX q (.slice A len cp) t.u::tw)) hI).mono<|pJ hI fun w1 hp hI=>Ti Z<|Yf Z<|WE ?_;have nd:ly S w0 w1 (oO tb L.sb gv q p t.b t.em::mX q (.slice A len cp) t.u::(tw++lR L2 s1)):=by rw[<-pU];exact hI
   exact⟨s1,L2,M2,{hF with inv:=nd},Am s1<|.nil<|dX Av,hC,zu⟩
  obtain⟨m,hm⟩:∃m,s1.lU[0]?=some m:=⟨_,nM aa⟩
  have hmu:=arN hm (hmf m<|mZ hm).1;refine Ws<|Wq<|V8 Z<|Ve Z<|V6 0 Z<|V4 (.pointer _) Z (hI.c0 Z)<|V7 [.pointer _] Z func59 Z<|(Zd L2.sb s1.lU.length L2.mc L2.MA _<|YL (X:=(oO tb L2.sb gv q p t.b t.em::mX q (.slice A len cp) t.u::tw)) hI).mono<|pJ hI fun w1 hp hI=>Ty Z<|Yt Z<|Wk<|Wb<|Wr<|V8 Z<|Ve Z<|V6 0 Z<|V4 (.pointer _) Z (hI.c0 Z)<|V7 [.pointer _,Y _] Z func58 Z<|(aa0 L2 s1 M2 hF.ok (by have:=hF.mc;omega) (p9<|lR L2 s1) _ (ly.n9 (X:=(oO tb L2.sb gv q p t.b t.em::mX q (.slice A len cp) t.u::tw)) hI) 0).mono ?_;rintro e w3 ⟨v,L3,s3,rfl,x7,ao6,apx,anX, -,hJ, -,hex⟩;obtain⟨rfl,rfl⟩:=hex 0 m hF.cut rfl hm;apply rV;have hI:=ly.qB (X:=(oO tb L2.sb gv q p t.b t.em::mX q (.slice A len cp) t.u::tw)) hI hJ;apply Wn;have nd:ly S w0 w3 (oO tb L.sb gv q p t.b t.em::mX q (.slice A len cp) t.u::(tw++lR L3 (tX s1 0 m))):=by rw[<-pU];exact hI
  have uM:=aeg (SZ:=SZ) (show M2+1<=C by omega);have hfu:=hF.u;dsimp only at hfu;exact⟨oJ<|tX s1 0 m,hmu,tX s1 0 m,L3,M2+1,Z,⟨hF.rep,hF.sz,ao6,apx.trans pU,anX.trans hF.cut,hF.b40,(aaZ s1 0 m).2.trans hfk,aa,by show t.u+(C-(M2+1))*SZ+SZ<=_;omega,nd⟩,fun s' h=>Am s'<|.step hm h,aa,zu⟩
 rintro ρ w ⟨s1,L2,M2,hF,Am,hC,hH⟩;obtain⟨σ,rfl⟩:=hH.open;have hI:=hF.inv;dsimp only at hI;have rY:=hF.ok.k1;have PM:=hF.k;dsimp only at rY PM;refine Wq<|V5 Z<|Wn<|Wq<|V8 Z<|Ve Z<|V6 3 Z<|Tq Z<|Tl 1 Z<|Yc hI Z Z<|V0 Z<|Wn<|Wb ?_
 refine Wl (fun mu ρ w=>∃(i:Nat) (t1:Tr) (L3:ny) (IE:List lN) (M3:Nat) (more:Bool),mu=p.k-i/\i<=p.k/\FI S w0 gv q tb L.sb p A len cp SZ C t1 L3 IE M3 w/\(∀t2 m2,yp nums p.k i t1 more t2 m2->yp nums p.k 0 {t with st:=s1} false t2 m2)/\
   M3+oJ t1.st+60*(40-t1.b)+(8-i)+8*more.toNat<=C/\(more=true->t.b<t1.b)/\t.b<=t1.b/\lA ρ [(2,.bool more),(27,lI i),(26,lI p.k),(0,mP tb)]) p.k
  ⟨0,{t with st:=s1},L2,tw,M2,false,rfl,aa,hF,fun _ _ h=>h,by show M2+oJ s1+60*(40-t.b)+(8-0)+8*0<=C;omega,fun h=>bV,ku _,⟨rfl,rfl,rfl,rfl,trivial⟩⟩ ?_
 rintro mu ρ w ⟨i,t1,L3,IE,M3,more,rfl,hik,vx,WH,hC,yM,yH,hH⟩;obtain⟨σ,rfl⟩:=hH.open;have hI:=vx.inv;have pU:=vx.YC;have Mx:=vx.ok.n1;have amP:=vx.b40;by_cases hi:i<p.k;rotate_left
 .obtain rfl:i=p.k:=aa;refine Wq<|Vq Z<|Yg Z<|WE ?_;cases more with
  |true=>have h1:=yM rfl;exact⟨2*(40-t1.b)+1,by show 2*(40-t1.b)+1<2*(40-t.b)+1;omega,t1,L3,IE,M3,true,rfl,vx,yD,.inl ⟨rfl,fun t' h=>rU t'<|.more Am (WH t1 true .done) h,by dsimp only[Bool.toNat,cond]at hC;omega⟩⟩
  |false=>exact⟨2*(40-t1.b)+0,by show 2*(40-t1.b)+0<2*(40-t.b)+1;omega,t1,L3,IE,M3,false,rfl,vx,yD,.inr ⟨rfl,rU t1<|.last Am<|WH t1 false .done⟩⟩
 refine Wq<|Vt Z<|Yu Z<|Wk ?_;rw[<-pU]at hI;have Ec:=fun(w:lE) (hI:ly S w0 w (oO tb L3.sb gv q p t1.b t1.em::mX q (.slice A len cp) t1.u::(IE++lR L3 t1.st)))=>ahm S D w0 w L3 gv IE q tb p t1 A len cp nums M3 (i:Int) hI vx.rep vx.ok (by have:=vx.mc;omega) hN hD (by have:=vx.u;have:=vx.sz;omega) aa
 refine Wx (fun ρ w=>∃(r:Bool) (t2:Tr) (L4:ny) (GN:List lN),yn nums t1 (i:Int) r t2/\qe t2.g gv GN/\nw L4 t2.st (M3+1)/\L4.sb=L.sb/\L4.cut=false/\lA ρ [(2,.bool (r||more)),(27,lI i),(26,lI p.k),(0,mP tb)]/\
  ly S w0 w (oO tb L.sb gv q p t2.b t2.em::mX q (.slice A len cp) t2.u::(GN++lR L4 t2.st))) ?_ ?_
 .refine Wb<|Wq<|V0 Z<|Vb Z<|Wn<|Wr<|V8 Z<|V0 Z<|V7 [.pointer _,Y _] Z func57 Z<|(Ec _ hI).mono ?_;rintro e w4 ⟨r,t2,L4,GN,rfl,hb,P3,PW,P5,Py, -,UH⟩;apply rV;rw[pU]at UH;cases r with
  |true=>exact V3 Z<|V2 Z<|Vg Z<|V5 Z<|Wn ⟨true,t2,L4,GN,hb,P3,PW,P5.trans pU,Py.trans vx.cut,oy,UH⟩|false=>exact V3 Z<|V3 Z<|Va Z<|V5 Z<|Wn ⟨false,t2,L4,GN,hb,P3,PW,P5.trans pU,Py.trans vx.cut,oy,UH⟩
 rintro ρ w ⟨r,t2,L4,GN,hb,P3,PW,P5,Py,hH,hI⟩;obtain⟨σ,rfl⟩:=hH.open;refine Wr<|Vx Z<|V0 Z<|Wn ?_;have⟨f1,f2,f3,f4,f5,f6,f7⟩:=hb.facts;have⟨m1,m2⟩:=hb.mu Mx.2;have hnk:=hb.nk;have uM:=aeg (SZ:=SZ) (M:=M3) (C:=C) aa;have hfu:=vx.u;have VJ:=vx.sz;refine⟨p.k-(i+1),aa,i+1,t2,L4,GN,M3+1,r||more,rfl,aa,⟨P3,aa,PW,P5,Py,f7 amP,hnk.2.trans vx.k,aa,aa,hI⟩,fun t3 m3 h=>WH t3 m3<|.step hi hb h,?_,?_,aa,oy⟩
 .cases r with
  |true=>have⟨b1,b2,b3⟩:=m1 rfl;show M3+1+oJ t2.st+60*(40-t2.b)+(8-(i+1))+8*1<=C;omega
  |false=>have⟨b1,b2⟩:=m2 rfl;show M3+1+oJ t2.st+60*(40-t2.b)+(8-(i+1))+8*more.toNat<=C;rw[b1,b2];omega
 cases r with
 |true=>have⟨b1,b2,b3⟩:=m1 rfl;intro _;omega
 |false=>intro h;have:=yM h;omega
end
structure Cp(w:lE):Prop where
 num:uB w
 err:Zy w
 kn:wW w
theorem Cp.pure{w':lE}(h:Cp w)(hp:Pure w w'):Cp w':=⟨h.num.ni (hp.ni NF) A9.none,((ly.start (fun _=>False) w).pure hp).my h.err,h.kn.pure hp⟩
def vU:Array Value:= #[ma [],.slice none 0 0,.int .i64 0,.slice none 0 0,.int .i64 0]
inductive Cx(nums:mq):Tr->Bool->List (List Bool)->Tr->Prop where
 |stop {t:Tr} {cut:Bool} {lb:rD} (h:nums.length<=t.u):Cx nums t cut lb t|step {t t' t1:Tr} {cut Fy:Bool} {lb Gc:rD} (h:t.u<nums.length) (hm:Fl nums t cut lb t' Fy Gc) (hr:Cx nums t' Fy Gc t1):Cx nums t cut lb t1
structure DJ(nums:mq)(n k a t:Nat)(bk:Bool)(gen:ox)(t2:Tr):Prop where
 go:∃g t1,EG gen=some g/\II (s0 n k a t bk) t1.st/\(nums=[]->t1=⟨s0 n k a t bk,g,0,0,false⟩)/\Cx nums ⟨s0 n k a t bk,g,0,0,false⟩ false [] t1/\AW nums k t1 t2
def DI(nums:mq)(n k a t:Int)(bk:Bool)(gen:ox)(lP z:Int):Prop:=
 ((2000<nums.length\/lP<0\/1000000<lP)/\z=4)\/(nums.length<=2000/\0<=lP/\lP<=1000000/\((¬we n k a t/\z=Kp n k)\/(we n k a t/\((EG gen=none/\z=Nl gen)\/
  ∃(n' k' a' t':Nat) (t2:Tr),n=n'/\k=k'/\a=a'/\t=t'/\DJ nums n' k' a' t' bk gen t2/\((wv t2.st.evs=none/\z=G6 t2.st.evs)\/∃aBi,wv t2.st.evs=some aBi/\¬vt 1 aBi lP/\GO 1 aBi lP z)))))
def aio(nums:mq)(n k a t:Int)(bk:Bool)(title gen:ox)(lP:Int)(w0:lE)(en:Ending)(w':lE):Prop:=
 ∃(n' k' a' t':Nat) (t2:Tr) (aBi:List l9) (A1:lO) (c1:Nat) (A2:lO) (c2:Nat),n=n'/\k=k'/\a=a'/\t=t'/\we n k a t/\(0<=lP/\lP<=1000000)/\DJ nums n' k' a' t' bk gen t2/\t2.st.evs.length<=120/\wv t2.st.evs=some aBi/\vt 1 aBi lP/\
  en=.returned (.tuple #[.agg #[ma title,.slice A1 t2.st.evs.length c1,.int .i64 (tu 1 aBi sD lP.toNat).1,.slice A2 (Gk<|tu 1 aBi sD lP.toNat).length c2,.int .i64 ((tu 1 aBi sD lP.toNat).2.mG.length:Int)],.nilIface])/\
  ly NF w0 w' [lz 0 66 7 A1 t2.st.evs.length c1 (t2.st.evs.flatMap nu),mM A2 c2<|Gk<|tu 1 aBi sD lP.toNat]
def Oj(nums:mq)(n k a t:Int)(bk:Bool)(title gen:ox)(lP:Int)(w0:lE)(en:Ending)(w':lE):Prop:=(∃z T v,DI nums n k a t bk gen lP z/\en=.returned (.tuple #[.agg vU,.iface T v])/\ly NF w0 w' [uT (.iface T v) z])\/aio nums n k a t bk title gen lP w0 en w'
theorem Mv.nk{s s':l8}(h:Mv s s'):s'.n=s.n/\s'.k=s.k:=by
 rcases h with⟨ms,_,rfl⟩|⟨c,key,wr,v,_,_,_,_,_,rfl⟩|⟨c,_,_,rfl⟩|⟨j,m,_,rfl⟩
 .exact⟨Z,Z⟩
 .exact aaj ..
 .exact⟨Z,Z⟩
 exact aaZ ..
theorem O5(n k a t:Int)(bk:Bool)(title gen:ox)(lP:Int)(A:lO)(len cp:Nat)(nums:mq)(D:lF)(w0:lE)(hN:pL w0 D (.slice A len cp) nums)(hG:Cp w0)(BM:gen.length<=1000000000):
  Cq 8 #[.agg #[Y n,Y k,Y a,Y t,.bool bk,ma title,ma gen,Y lP],.slice A len cp] w0 (Oj nums n k a t bk title gen lP w0):=by
 have hI:=ly.start (fun _=>False) w0;have hln:len=nums.length:=by obtain⟨A',c',hv,_⟩:=hN;injection hv
 subst hln;refine Vo func8 Z<|Wq<|Tg (.agg _) (#[_,_,_,_,_,_,_,_]) hI Z ?_;rintro b2 w- -hI;apply T6 (.agg #[.string ⟨#[]⟩,.slice none 0 0,Y 0,.slice none 0 0,Y 0]) (#[.string ⟨#[]⟩,.slice none 0 0,Y 0,.slice none 0 0,Y 0]) hI Z;rintro b4 w- -hI;refine Vh Z<|Wn ?_;have Hh:∀{ρ:lB} {w:lE} {T:lT} {v:lH} {z:Int} {H:List lN},ly NF w0 w (B b4 42 vU::uT (.iface T v) z::H)->DI nums n k a t bk gen lP z->ρ 4=lJ b4 0->ρ 5=.iface T v->
   sL prog Tryz.f8 (Oj nums n k a t bk title gen lP w0) .ret ρ w:=by
  intro ρ w T v z H hI hb h4 h5;exact EM (n:=5) (t:=42) (.inr Z) Z h4 ai ai Z hI.g0<|.inl ⟨z,T,v,hb,by rw[h5],hI.d0.sub<|.cons_cons _<|iC _⟩
 refine Wx (fun ρ w=>nums.length<=2000/\(0<=lP/\lP<=1000000)/\lA ρ [(4,lJ b4 0),(2,lJ b2 0),(1,.slice A nums.length cp)]/\ly NF w0 w [B b4 42 vU,B b2 29 #[Y n,Y k,Y a,Y t,.bool bk,ma title,ma gen,Y lP]]) ?_ ?_
 .by_cases h1:2000<nums.length
  .refine Wq<|Vf Z<|Vp Z nz Z<|Ty Z<|V3 Z<|V2 Z<|V2 Z<|V2 Z<|Vg Z<|V3 Z<|V2 Z<|V2 Z<|V2 Z<|Vg Z<|Yt Z<|Wq<|Tf [] [_,_,_,_,_] Z [.string ⟨#[]⟩,.slice none 0 0,Y 0,.slice none 0 0,Y 0] [] Z (fun _=>ai)<|T9 rfl pd rfl<|Ta 5 (#[_,_,_,_,_]) (.agg _) hI rfl ?_;intro w hI;exact Vn Z<|Wn<|WR<|Hh (hI.err 4).pQ (.inl ⟨.inl h1,Z⟩) Z Z
  by_cases h2:lP<0
  .refine Wq<|Vf Z<|Vp Z nz Z<|Ti Z<|V3 Z<|V6 7 Z<|Yd hI Z Z<|Vt Z<|Va Z<|V3 Z<|V2 Z<|V2 Z<|V2 Z<|Vg Z<|Yt Z<|Wq<|Tf [] [_,_,_,_,_] Z [.string ⟨#[]⟩,.slice none 0 0,Y 0,.slice none 0 0,Y 0] [] Z (fun _=>ai)<|T9 rfl pd rfl<|Ta 5 (#[_,_,_,_,_]) (.agg _) hI rfl ?_;intro w hI;exact Vn Z<|Wn<|WR<|Hh (hI.err 4).pQ (.inl ⟨.inr<|.inl h2,Z⟩) Z Z
  by_cases h3:1000000<lP
  .refine Wq<|Vf Z<|Vp Z nz Z<|Ti Z<|V3 Z<|V6 7 Z<|Yd hI Z Z<|Vq Z<|Va Z<|V3 Z<|V6 7 Z<|Yd hI Z Z<|Ty Z<|Va Z<|Yt Z<|Wq<|Tf [] [_,_,_,_,_] Z [.string ⟨#[]⟩,.slice none 0 0,Y 0,.slice none 0 0,Y 0] [] Z (fun _=>ai)<|T9 rfl pd rfl<|Ta 5 (#[_,_,_,_,_]) (.agg _) hI rfl ?_;intro w hI;exact Vn Z<|Wn<|WR<|Hh (hI.err 4).pQ (.inl ⟨.inr<|.inr h3,Z⟩) Z Z
  exact Wq<|Vf Z<|Vp Z nz Z<|Ti Z<|V3 Z<|V6 7 Z<|Yd hI Z Z<|Vq Z<|Va Z<|V3 Z<|V6 7 Z<|Yd hI Z Z<|Ti Z<|Va Z<|Yf Z<|Wk ⟨aa,⟨aa,aa⟩,sf,hI⟩
 rintro ρ w ⟨aBn,CK,hH,hI⟩;obtain⟨σ,rfl⟩:=hH.open;have Pq:∀(w:lE) (H:List lN),ly NF w0 w (B b4 42 vU::B b2 29 #[Y n,Y k,Y a,Y t,.bool bk,ma title,ma gen,Y lP]::H)->∀(j:Nat) (u:lH),[Y n,Y k,Y a,Y t,.bool bk][j]?=some u->w.cell? ⟨b2,0+j,none⟩=some u:=by
  intro w H hI j u hj;rw[kg];apply hI.c1
  match j,hj with
  |0,h=>exact h|1,h=>exact h|2,h=>exact h|3,h=>exact h|4,h=>exact h|j+5,h=>simp at h
 by_cases hs:we n k a t;rotate_left
 .refine Wq<|V6 0 Z<|Uh 5 [Y n,Y k,Y a,Y t,.bool bk] Z (Pq _ _ hI)<|V7 [.agg _] Z func17 Z<|(ar5 n k a t bk hs _).mono<|pJ hI fun w1 hp hI=>Vy Z<|Vi Z<|Vi Z<|Uf Z<|Vn Z<|Wn<|Ws<|Wq<|Vs Z<|Tp Z mY Z<|Yt Z<|Ws<|Wr<|Tf [] [_,_,_,_,_] Z [.string ⟨#[]⟩,.slice none 0 0,Y 0,.slice none 0 0,Y 0] [] Z (fun _=>ai)<|Vs rfl<|Ta 5 (#[_,_,_,_,_]) (.agg _) hI rfl ?_;intro w hI;exact Vn Z<|Wn<|WR<|Hh (hI.err<|Kp n k).pQ (.inr ⟨aBn,CK.1,CK.2,.inl ⟨hs,Z⟩⟩) Z Z
 obtain⟨n',rfl⟩:∃n':Nat,n=n':=⟨n.toNat,by have:=hs.1;omega⟩
 obtain⟨k',rfl⟩:∃k':Nat,k=k':=⟨k.toNat,by have:=hs.2.1;omega⟩
 obtain⟨a',rfl⟩:∃a':Nat,a=a':=⟨a.toNat,by have:=hs.2.2.1;omega⟩
 obtain⟨t',rfl⟩:∃t':Nat,t=t':=⟨t.toNat,by have:=hs.2.2.2;omega⟩
 refine Wq<|V6 0 Z<|Uh 5 [lI n',lI k',lI a',lI t',.bool bk] Z (Pq _ _ hI)<|V7 [.agg _] Z func17 Z<|(ar4 n' k' a' t' bk hs _).mono ?_;rintro e w1 ⟨sb,nb,cb,rfl,hT⟩;apply rV;replace hI:=(hI.app hT).perm fJ;refine Vy Z<|Vi Z<|Vi Z<|Uf Z<|Vh Z<|Wn ?_;replace hI:ly NF w0 _ (B b4 42 vU::B b2 29 #[lI n',lI k',lI a',lI t',.bool bk,ma title,ma gen,Y lP]::lR (zL sb nb cb) (s0 n' k' a' t' bk)):=hI;refine Ws<|Wq<|Tb Z<|Tn Z mY Z<|Yf Z<|Wk ?_;cases BR:EG gen with
 |none=>
  refine Wq<|V6 6 Z<|V4 (.string _) Z (hI.c1 Z)<|V7 [.string _] Z func18 Z<|(XN gen _ (hG.pure hI.pu).num aa).mono ?_;rintro e w1 (⟨g,v,Lg,hg,_⟩|⟨_,aBh,u,rfl,hT⟩)
  .rw[BR]at hg;cases hg
  apply rV;replace hI:=(hI.app1 hT).pQ;refine Vy Z<|Vi Z<|Vi Z<|Vh Z<|Vn Z<|Wn<|Ws<|Wq<|Vs Z<|Tp Z mY Z<|Yt Z<|Ws<|Wr<|Tf [] [_,_,_,_,_] Z [.string ⟨#[]⟩,.slice none 0 0,Y 0,.slice none 0 0,Y 0] [] Z (fun _=>ai)<|Vs rfl<|Ta 5 (#[_,_,_,_,_]) (.agg _) hI rfl ?_;intro w hI;exact Vn Z<|Wn<|WR<|Hh hI (.inr ⟨aBn,CK.1,CK.2,.inr ⟨hs,.inl ⟨BR,Z⟩⟩⟩) Z Z
 |some g0=>
  refine Wq<|V6 6 Z<|V4 (.string _) Z (hI.c1 Z)<|V7 [.string _] Z func18 Z<|(XN gen _ (hG.pure hI.pu).num aa).mono ?_;rintro e w1 (⟨g,v,Lg,hg,rfl,zB,hT⟩|⟨hg,_⟩);rotate_left
  .rw[BR]at hg;cases hg
  obtain rfl:g0=g:=by rw[BR]at hg;exact jl hg
  apply rV;replace hI:=(hI.app hT).perm<|ee Lg [B b4 42 vU,B b2 29 #[lI n',lI k',lI a',lI t',.bool bk,ma title,ma gen,Y lP]]<|lR (zL sb nb cb)<|s0 n' k' a' t' bk;refine Vy Z<|Vi Z<|Vi Z<|Tt Z<|Vh Z<|Wn ?_;replace hI:ly NF w0 _ (B b4 42 vU::B b2 29 #[lI n',lI k',lI a',lI t',.bool bk,ma title,ma gen,Y lP]::(Lg++lR (zL sb nb cb) (s0 n' k' a' t' bk))):=hI;refine Ws<|Wq<|Tb Z<|Tn Z mY Z<|Yf Z<|Wk ?_;obtain⟨T,bv,rfl⟩:=zB.val;obtain⟨pp,F1⟩:∃pp:Fg,(⟨n',k',a',t',bk,title,gen,lP⟩:Fg)=pp:=⟨_,rfl⟩
  refine Wx (fun ρ w=>∃(tb q:Nat) (A3:lO) (c3:Nat),lA ρ [(9,mP tb),(6,lJ sb 0),(4,lJ b4 0),(2,lJ b2 0),(1,.slice A nums.length cp)]/\
   ly NF w0 w (oO tb sb (.iface T (mP bv)) q pp 0 false::mX q (.slice A3 nums.length c3) 0::lz 0 3 1 A3 nums.length c3 (nums.map (Value.int .i64))::B b4 42 vU::B b2 29 #[lI n',lI k',lI a',lI t',.bool bk,ma title,ma gen,Y lP]::(Lg++lR (zL sb nb cb) (s0 n' k' a' t' bk)))) ?_ ?_
  .refine Yi hI fun Sx hY hZ hI=>?_;refine Vj 0 Z<|Wt 1 Z (lL hY fun hI=>(by exact Ya rfl rfl))<|T8 2 Z<|Wt 6 Z (lL hY fun hI=>(by exact Q7 (n:=8) rfl ai ai rfl rfl hI.g1))<|Vr 3 Z<|V7 [.slice _ _ _] Z func19 Z<|(ajS A _ cp nums D _ (Rd.pure hN hI.pu) aa).mono ?_;rintro e w1 ⟨A3,c3,rfl,hT⟩;apply rV;have hI:=hI.app1 hT;refine Wn ⟨hZ _ hI.d0,(Ub 4 [(0,.slice _ _ _)] [_,_] Z [.slice none 0 0,Y 0] [0] Z (fun _ _=>fun _=>ai)<|Vr 5 rfl<|Tg (.agg _) (#[_,_]) hI rfl ?_)⟩;rintro b53 w- -hI;refine Wn ⟨hZ _ hI.d0.d0,(Ub 7 [(0,.pointer _),(1,_),(2,.pointer _),(3,.agg #[_,_,_,_,_,_,_,_])] [_,_,_,_,_,_,_,_,_,_,_,_,_] Z [.pointer none,.nilIface,.pointer none,Y 0,Y 0,Y 0,Y 0,.bool false,.string ⟨#[]⟩,.string ⟨#[]⟩,Y 0,Y 0,.bool false] [0,1,2,3] Z (fun _ _=>fun _=>ai)<|Vr 8 rfl<|Tg (.agg _) _ hI rfl ?_)⟩;rintro SC w- -hI;refine Wn ⟨hZ _ hI.d0.d0.d0,(Wt 9 Z (hS:=hZ _ hI.d0.d0.d0) (lL hY fun hI=>(by exact Kg rfl rfl))<|Yz ⟨SC,b53,A3,c3,ug,?_⟩)⟩;subst F1;exact hI
  rintro ρ w ⟨tb,q,A3,c3,hH,hI⟩;obtain⟨σ,rfl⟩:=hH.open;have apl:pp.n=n':=by rw[<-F1]
  have Wp:pp.k=k':=by rw[<-F1]
  have Hs:g0.sz<=2000:=by
   unfold EG at BR;split at BR
   .have:=asZ BR;omega
   cases BR
  obtain⟨P0,hP0⟩:∃P0:List lN,oO tb sb (.iface T<|mP bv) q pp 0 false::mX q (.slice A3 nums.length c3) 0::(Lg++lR (zL sb nb cb) (s0 n' k' a' t' bk))=P0:=⟨_,rfl⟩
  have Ph:ly NF w0 w (P0++[lz 0 3 1 A3 nums.length c3 (nums.map<|Value.int .i64),B b4 42 vU,B b2 29 #[lI n',lI k',lI a',lI t',.bool bk,ma title,ma gen,Y lP]]):=by apply hI.perm;rw[<-hP0];exact List.Perm.cons _<|List.Perm.cons _<|fJ (l₁:=[_,_,_])
  have CJ:∀kk,A3.map (·.block)=some kk->¬DL P0 kk:=by rintro kk hk ⟨e,he,nO⟩;exact(fW.1 Ph.apart).2.2 e he _ (gE ..) kk nO hk
  have hNb:pL w (fun kk=>A3.map (·.block)=some kk) (.slice A3 nums.length c3) nums:=Rd.wP (Ph.ok (lz 0 3 1 A3 nums.length c3 (nums.map (Value.int .i64))) aq).1 (fun kk hk _=>by
   cases A3 with
   |none=>cases hk
   |some x=>exact hk)
  obtain⟨wb,hwb⟩:∃wb,wb=w:=⟨_,rfl⟩
  subst hwb;have hIT:ly (DL P0) wb wb (oO tb sb (.iface T<|mP bv) q pp 0 false::mX q (.slice A3 nums.length c3) 0::(Lg++lR (zL sb nb cb) (s0 n' k' a' t' bk))):=by rw[hP0];exact Ph.from
  have ao5:nw (zL sb nb cb) (s0 n' k' a' t' bk) 0:=auI hs sb nb cb
  refine Wx (fun ρ w=>∃(t1:Tr) (L1:ny) (tw:List lN) (M1:Nat),II (s0 n' k' a' t' bk) t1.st/\(nums=[]->t1=⟨s0 n' k' a' t' bk,g0,0,0,false⟩)/\Cx nums ⟨s0 n' k' a' t' bk,g0,0,0,false⟩ false [] t1/\qe t1.g (.iface T (mP bv)) tw/\t1.g.sz<=g0.sz/\nw L1 t1.st M1/\M1<=2000/\L1.sb=sb/\t1.u<=5000/\t1.b<=40/\t1.st.k=k'/\
   lA ρ [(9,mP tb),(6,lJ sb 0),(4,lJ b4 0),(2,lJ b2 0),(1,.slice A nums.length cp)]/\ly (DL P0) wb w (oO tb sb (.iface T (mP bv)) q pp t1.b t1.em::mX q (.slice A3 nums.length c3) t1.u::(tw++lR L1 t1.st))) ?_ ?_
  .apply Wb
   refine Wl (fun mu ρ w=>∃(t1:Tr) (L1:ny) (tw:List lN) (M1:Nat),mu=nums.length-t1.u/\II (s0 n' k' a' t' bk) t1.st/\(t1=⟨s0 n' k' a' t' bk,g0,0,0,false⟩\/0<nums.length)/\(∀t2,Cx nums t1 L1.cut L1.lb t2->Cx nums ⟨s0 n' k' a' t' bk,g0,0,0,false⟩ false [] t2)/\t1.st.n=n'/\qe t1.g (.iface T (mP bv)) tw/\t1.g.sz<=g0.sz/\nw L1 t1.st M1/\M1<=nums.length/\M1<=t1.u/\L1.sb=sb/\t1.u<=5000/\t1.b<=40/\t1.st.k=k'/\
    lA ρ [(9,mP tb),(6,lJ sb 0),(4,lJ b4 0),(2,lJ b2 0),(1,.slice A nums.length cp)]/\ly (DL P0) wb w (oO tb sb (.iface T (mP bv)) q pp t1.b t1.em::mX q (.slice A3 nums.length c3) t1.u::(tw++lR L1 t1.st))) nums.length
    ⟨⟨s0 n' k' a' t' bk,g0,0,0,false⟩,zL sb nb cb,Lg,0,rfl,.refl _,.inl rfl,fun _ h=>h,rfl,zB,ku _,ao5,aa,aa,rfl,by show 0<=5000;omega,by show 0<=40;omega,rfl,⟨rfl,rfl,rfl,rfl,rfl,trivial⟩,hIT⟩ ?_
   rintro mu ρ w ⟨t1,L1,tw,M1,rfl,x7,Hf,P8,rn,wI,Jx,HA,Hk,hMu,Az,C4,yH,sG,hH,hI⟩;obtain⟨σ,rfl⟩:=hH.open;rw[<-Az]at hI;by_cases apL:t1.u<nums.length;rotate_left
   .refine Ws<|Wq<|V8 Z<|Ve Z<|V6 2 Z<|V4 (.pointer _) Z (hI.c0 Z)<|V7 [.pointer _] Z func20 Z<|(ahA (DL P0) wb _ _ q _ t1.u<|hI.perm<|.swap ..).mono ?_;rintro e w1 ⟨rfl,nd⟩;apply rV;replace hI:=nd.perm<|.swap ..;refine Vf Z<|Vp Z nz Z<|Vq Z<|Yf Z<|WE ?_;rw[Az]at hI;refine⟨t1,L1,tw,M1,x7,fun hn=>?_,P8 _<|.stop aa,wI,Jx,HA,aa,Az,C4,yH,sG,ug,hI⟩;rcases Hf with h|h
    .exact h
    rw[hn]at h;exact ll h aq
   refine Ws<|Wq<|V8 Z<|Ve Z<|V6 2 Z<|V4 (.pointer _) Z (hI.c0 Z)<|V7 [.pointer _] Z func20 Z<|(ahA (DL P0) wb _ _ q _ t1.u<|hI.perm<|.swap ..).mono ?_;rintro e w1 ⟨rfl,nd⟩;apply rV;replace hI:=nd.perm<|.swap ..;refine Vf Z<|Vp Z nz Z<|Vt Z<|Yt Z<|Wk<|Wb<|Wr<|V8 Z<|V7 [.pointer _] Z func21 Z<|(arL _ L1 t1 M1 hI wI HA aa hNb CJ aa aa (by rw[apl,rn])<|by rw[Wp,sG]).mono ?_;rintro e w3 ⟨⟨v3,rfl⟩,t2,L2,ZC,VX,ua,adh,VZ,WI,JA,HK,Ah,hb3,Hw,nR⟩;apply rV;replace hI:=nR;apply Wn;rw[Az]at hI;exact⟨nums.length-t2.u,aa,t2,L2,ZC,M1+1,rfl,.step x7 VX,.inr aa,fun t3 h3=>P8 t3<|.step apL Hw h3,VX.nk.1.trans rn,ua,aa,VZ,aa,aa,WI.trans Az,aa,hb3 yH,VX.nk.2.trans sG,ug,hI⟩
  rintro ρ w ⟨t1,L1,tw,M1,x7,Hf,P8,wI,Jx,HA,Hk,Az,C4,yH,sG,hH,hI⟩;obtain⟨σ,rfl⟩:=hH.open;have hmu:=arP (K:=0) HA.vG HA.n1.2 HA.k1.2;have hmul:(90000-M1)*2000<=90000*2000:=fX _ aa;refine Wq<|V8 Z<|V7 [.pointer _] Z func22 Z ?_;rw[<-Az]at hI;refine(alQ (SZ:=2000) (C:=90000) _ L1 tw t1 M1 hI wI HA aa aa hNb CJ aa aa yH<|by rw[sG,Wp]).mono ?_;rintro e w3 ⟨⟨v3,rfl⟩,t2,L2,ZC,M2,rU,ua,VZ,WI,nR⟩;apply rV;replace hI:=nR;rw[Az]at hI;apply Wn;have nK:DJ nums n' k' a' t' bk gen t2:=⟨g0,t1,BR,x7,Hf,P8,by rw[<-Wp];exact rU⟩
  have aob:=VZ.yB;have aod:L2.sb=sb:=WI.trans Az;replace hI:=Ph.Gx hI;replace hI:ly NF w0 w3 (B b4 42 vU::B b2 29 #[lI n',lI k',lI a',lI t',.bool bk,ma title,ma gen,Y lP]::lR L2 t2.st):=ly.sub (hI.perm fJ) (.cons _<|.cons_cons _<|.cons_cons _<|.cons _<|.cons _<|eJ ..)
  have hEv:=alE L2 t2.st (p9<|lR L2 t2.st) w3 (ly.n9 (X:=[B b4 42 vU,B b2 29 #[lI n',lI k',lI a',lI t',.bool bk,ma title,ma gen,Y lP]]) hI) aa;rw[aod]at hEv;refine Wq<|V8 Z<|V7 [.pointer _] Z func23 Z<|hEv.mono ?_;rintro e w4 ⟨A1,c1,rfl,hJ⟩;apply rV;have hI:=ly.qB (X:=[B b4 42 vU,B b2 29 #[lI n',lI k',lI a',lI t',.bool bk,ma title,ma gen,Y lP]]) hI hJ;replace hI:ly NF w0 w4 [B b4 42 vU,B b2 29 #[lI n',lI k',lI a',lI t',.bool bk,ma title,ma gen,Y lP],lz 0 66 7 A1 t2.st.evs.length c1<|t2.st.evs.flatMap nu]:=ly.sub hI<|.cons_cons _<|.cons_cons _<|.cons_cons _<|iC _;refine Vm Z<|Wn ?_;have Po:=alF A1 _ c1 t2.st.evs (fun _=>True) w4 (Rd.wP hI.g2<|fun _ _ _=>trivial) (hG.pure hI.pu).err;cases mj:wv t2.st.evs with
  |none=>rw[mj]at Po;refine Wq<|Vf Z<|V7 [.slice _ _ _] Z func24 Z<|Po.mono ?_;rintro e w5 ⟨x5,rfl,hT⟩;obtain⟨aBh,u,rfl⟩:=uU.iface (hT.ok _<|gE ..).1;apply rV;replace hI:=(hI.app1 hT).pQ;refine Vy Z<|Vi Z<|Vi Z<|Vm Z<|Vn Z<|Wn<|Ws<|Wq<|Vs Z<|Tp Z mY Z<|Yt Z<|Ws<|Wr<|Tf [] [_,_,_,_,_] Z [.string ⟨#[]⟩,.slice none 0 0,Y 0,.slice none 0 0,Y 0] [] Z (fun _=>ai)<|Vs rfl<|Ta 5 (#[_,_,_,_,_]) (.agg _) hI rfl ?_;intro w hI;exact Vn Z<|Wn<|WR<|Hh hI (.inr ⟨aBn,CK.1,CK.2,.inr ⟨hs,.inr ⟨n',k',a',t',t2,Z,Z,Z,Z,nK,.inl ⟨mj,Z⟩⟩⟩⟩) Z Z
  |some aBi=>
   rw[mj]at Po;refine Wq<|Vf Z<|V7 [.slice _ _ _] Z func24 Z<|Po.mono ?_;rintro e w5 ⟨A6,c6,rfl,hT⟩;apply rV;have hI:=hI.app1 hT;refine Vy Z<|Vi Z<|Vi Z<|Vm Z<|Vh Z<|Wn<|Ws<|Wq<|Tb Z<|Tn Z mY Z<|Yf Z<|Wk ?_;have abS:=ajL 1 A6 aBi.length c6 aBi lP (fun _=>True) w5 (Rd.wP hI.g0<|fun _ _ _=>trivial) (hG.pure hI.pu).kn;by_cases mH:vt 1 aBi lP;rotate_left
   .refine Wq<|Vf Z<|V6 7 Z<|V4 (Y _) Z (hI.c2 Z)<|V7 [Y _,.slice _ _ _,Y _] Z func25 Z<|abS.mono ?_;rintro e w6 (⟨h1,_⟩|⟨_,⟨z,hz,rfl⟩,hp⟩)
    .exact ll h1 mH
    apply rV;have hI:=hI.pure hp;refine Vy Z<|Vi Z<|Vi Z<|T6 (.agg #[Y 0,.slice none 0 0,Y 0]) (#[Y 0,.slice none 0 0,Y 0]) hI Z ?_;rintro Bf w- -hI;apply Ta 3 (#[_,_,_]) (.agg _) hI Z;intro w hI;refine Vn Z<|Wn<|Ws<|Wq<|Vs Z<|Tp Z mY Z<|Yt Z<|Wq<|Tf [] [_,_,_,_,_] Z [.string ⟨#[]⟩,.slice none 0 0,Y 0,.slice none 0 0,Y 0] [] Z (fun _=>ai)<|Vs rfl<|Ow (u:=.agg _) (vs:= #[_,_,_,_,_]) (n:=5) hI rfl rfl rfl rfl rfl rfl ai rfl rfl rfl ?_;intro w hI;exact Vn Z<|Wn<|WR<|Hh ((hI.pull 2 Z).err z).pQ (.inr ⟨aBn,CK.1,CK.2,.inr ⟨hs,.inr ⟨n',k',a',t',t2,Z,Z,Z,Z,nK,.inr ⟨aBi,mj,mH,hz⟩⟩⟩⟩) Z Z
   refine Wq<|Vf Z<|V6 7 Z<|V4 (Y _) Z (hI.c2 Z)<|V7 [Y _,.slice _ _ _,Y _] Z func25 Z<|abS.mono ?_;rintro e w6 (⟨_,A7,c7,rfl,hT⟩|⟨h1,_⟩);rotate_left
   .exact ll mH h1
   apply rV;have hI:=hI.app1 hT;refine Vy Z<|Vi Z<|Vi Z<|T6 (.agg #[Y 0,.slice none 0 0,Y 0]) (#[Y 0,.slice none 0 0,Y 0]) hI Z ?_;rintro Bf w- -hI;apply Ta 3 (#[_,_,_]) (.agg _) hI Z;intro w hI;refine Vh Z<|Wn<|Ws<|Wq<|Tb Z<|Tn Z mY Z<|Yf Z<|Wk<|Wq<|V6 5 Z<|V4 (.string _) Z (hI.c4 Z)<|Vf Z<|U1 3 Z hI.g0<|Tf [(0,.string _),(1,.slice _ _ _),(2,.agg #[_,_,_])] [_,_,_,_,_] Z [.string ⟨#[]⟩,.slice none 0 0,Y 0,.slice none 0 0,Y 0] [0,1,2] Z (fun _=>ai)<|aiK (u:=.agg _) (vs:= #[_,_,_,_,_]) (n:=5) hI rfl rfl rfl rfl rfl rfl ai rfl rfl rfl ?_;intro w hI;exact Vh Z<|Wn<|WR<|EM (n:=5) (t:=42) (.inr Z) Z Z ai ai Z hI.g3<|.inr ⟨n',k',a',t',t2,aBi,A1,c1,A7,c7,Z,Z,Z,Z,hs,CK,nK,aob,mj,mH,Z,((ly.sub hI<|.cons _<|.cons_cons _<|.cons _<|.cons _<|.cons _<|.cons_cons _<|iC _).perm<|.swap ..)⟩
end
section
open Tryz
variable{c:Int}{nums:mq}{k:Nat}{w w0:lE}
section
variable{nums:mq}
theorem yn.qf{t t1 t2:Tr}{r1 r2:Bool}(h:yn nums t c r1 t1)(h':yn nums t c r2 t2):r1=r2/\t1=t2:=by
 rcases h with⟨a,rfl,rfl⟩|⟨a1,a2,c1,hm,rr,g',u',py,h⟩
 .rcases h' with⟨b,rfl,rfl⟩|⟨b1,b2,c2,rK,_⟩
  .exact⟨Z,Z⟩
  exfalso;rcases a with a|a|a
  .rw[b1]at a;cases a
  .omega
  exact a c2 rK
 rcases h' with⟨b,rfl,rfl⟩|⟨b1,b2,c2,rK,rr2,g2,u2,ao1,h'⟩
 .exfalso;rcases b with b|b|b
  .rw[a1]at b;cases b
  .omega
  exact b c1 hm
 obtain rfl:c1=c2:=by have:=hm.eq;have:=rK.eq;omega
 obtain⟨rfl,rfl,rfl⟩:=py.qf ao1;rcases h with⟨rfl,rfl,rfl⟩|⟨w,k,v,rfl,h⟩
 .rcases h' with⟨_,rfl,rfl⟩|⟨w2,k2,v2,e,_⟩
  .exact⟨Z,Z⟩
  cases e
 rcases h' with⟨e,_,_⟩|⟨w2,k2,v2,e,h'⟩
 .cases e
 cases e;rcases h with⟨n,rfl,rfl⟩|⟨y,rfl,rfl⟩
 .rcases h' with⟨_,rfl,rfl⟩|⟨y2,_,_⟩
  .exact⟨Z,Z⟩
  exact ll y2 n
 rcases h' with⟨n2,_,_⟩|⟨_,rfl,rfl⟩
 .exact ll y n2
 exact⟨Z,Z⟩
theorem Fl.qf{t t1 t2:Tr}{cut c1 c2:Bool}{lb l1 l2:rD}(h:Fl nums t cut lb t1 c1 l1)(h':Fl nums t cut lb t2 c2 l2):t1=t2/\c1=c2/\l1=l2:=by
 unfold Fl at h h';generalize (qA nums t.u 10).1=z at h h';rcases h with⟨z1,⟨r,hb⟩,rfl,rfl⟩|⟨z1,z2,rfl,rfl,rfl⟩|⟨z1,rfl,rfl,rfl⟩|⟨z1,rfl,rfl,rfl⟩|⟨z1,hp,e1,e2,e3⟩
 .rcases h' with⟨_,⟨r',sV⟩,rfl,rfl⟩|⟨z3,z4,_⟩|⟨z3,_⟩|⟨z3,_⟩|⟨z3,_⟩
  .exact⟨(hb.qf sV).2,Z,Z⟩
  all_goals omega
 .rcases h' with⟨z3,_⟩|⟨z3,z4,rfl,rfl,rfl⟩|⟨z3,_⟩|⟨z3,_⟩|⟨z3,_⟩
  .omega
  .exact⟨Z,Z,Z⟩
  all_goals omega
 .rcases h' with⟨z3,_⟩|⟨z3,z4,_⟩|⟨z3,rfl,rfl,rfl⟩|⟨z3,_⟩|⟨z3,_⟩
  .omega
  .omega
  .exact⟨Z,Z,Z⟩
  all_goals omega
 .rcases h' with⟨z3,_⟩|⟨z3,z4,_⟩|⟨z3,_⟩|⟨z3,rfl,rfl,rfl⟩|⟨z3,_⟩
  .omega
  .omega
  .omega
  .exact⟨Z,Z,Z⟩
  omega
 rcases h' with⟨z3,_⟩|⟨z3,z4,_⟩|⟨z3,_⟩|⟨z3,_⟩|⟨z3,Jt,f1,f2,f3⟩
 .omega
 .omega
 .omega
 .omega
 rw[<-Jt]at hp;simp only[jP]at hp;obtain⟨q1,q2,q3,q4⟩:=hp;obtain⟨s1,g1,u1,b1,m1⟩:=t1;obtain⟨s2,g2,u2,b2,m2⟩:=t2;dsimp only at q1 q2 q3 q4 e1 e2 e3 f1 f2 f3;subst q1 q2 q3 q4 e1 e2 e3 f1 f2 f3;exact⟨Z,Z,Z⟩
theorem Cx.qf{t t1:Tr}{cut:Bool}{lb:rD}(h:Cx nums t cut lb t1):∀{t2:Tr},Cx nums t cut lb t2->t1=t2:=by
 induction h with
 |stop h=>
  intro t2 h';cases h' with
  |stop _=>rfl|step h2 _ _=>omega
 |step h hm _ ih=>
  intro t2 h';cases h' with
  |stop h2=>omega|step h2 rK ua=>obtain⟨rfl,rfl,rfl⟩:=hm.qf rK;exact ih ua
theorem vn.qf{s s1:l8}(h:vn s s1):∀{s2:l8},vn s s2->s1=s2:=by
 induction h with
 |nil h=>
  intro s2 h';cases h' with
  |nil _=>rfl|step hm _=>rw[h]at hm;cases hm
 |step hm _ ih=>
  intro s2 h';cases h' with
  |nil h=>rw[h]at hm;cases hm
  |step rK ua=>rw[hm]at rK;cases rK;exact ih ua
theorem yp.qf{i:Nat}{t t1:Tr}{m m1:Bool}(h:yp nums k i t m t1 m1):∀{t2 m2},yp nums k i t m t2 m2->t1=t2/\m1=m2:=by
 induction h with
 |done=>
  intro t2 m2 h';cases h' with
  |done=>exact⟨rfl,rfl⟩|step h _ _=>omega
 |step hi hb _ ih=>
  intro t2 m2 h';cases h' with
  |done=>omega|step _ Ah ua=>obtain⟨rfl,rfl⟩:=hb.qf Ah;exact ih ua
theorem AW.qf{t t1:Tr}(h:AW nums k t t1):∀{t2:Tr},AW nums k t t2->t1=t2:=by
 induction h with
 |last hd hr=>
  intro t2 h';cases h' with
  |last uk ua=>obtain rfl:=hd.qf uk;exact(hr.qf ua).1
  |more uk ua _=>obtain rfl:=hd.qf uk;cases(hr.qf ua).2
 |more hd hr _ ih=>
  intro t2 h';cases h' with
  |last uk ua=>obtain rfl:=hd.qf uk;cases(hr.qf ua).2
  |more uk ua VI=>obtain rfl:=hd.qf uk;obtain⟨rfl,_⟩:=hr.qf ua;exact ih VI
theorem DJ.qf{n a t:Nat}{bk:Bool}{gen:ox}{t1 t2:Tr}(h:DJ nums n k a t bk gen t1)(h':DJ nums n k a t bk gen t2):t1=t2:=by have⟨g,x,hg,_,_,hx,hf⟩:=h.go;have⟨g',x',qp,_,_,ru,BL⟩:=h'.go;rw[hg]at qp;cases qp;obtain rfl:=hx.qf ru;exact hf.qf BL
end
theorem aga:∀(r:List Ev) (i:Nat) (s s':pf),yY r i s=some s'->s'.ops.length<=s.ops.length+r.length
 |[],i,s,s',h=>by rw[yY]at h;injection h with h;subst h;exact Nat.le_add_right _ _
 |e::r,i,s,s',h=>by rw[yY]at h;have⟨s1,hs,h⟩:=e9.1 h;have h1:=ag8 hs;have h2:=aga r (i+1) s1 s' h;rw[ix];omega
theorem alA{evs:List Ev}{l:List l9}(h:wv evs=some l):l.length<=120/\(l.length<=40->Ba l):=by obtain⟨s,h1,h3,h2,rfl⟩:=alB h;refine⟨?_,asD h2 h1⟩;have:=aga _ _ _ _ h3;have h0:BZ.ops.length=0:=rfl;unfold vK;rw[iY];unfold sZ;exact j5 (fH _ _) (by rw[List.length_range];omega)
theorem GO.one{evs:List Ev}{l:List l9}(h:wv evs=some l){lP:Int}(h0:0<=lP)(h1:lP<=1000000){z z':Int}(hz:GO 1 l lP z)(oM:GO 1 l lP z'):z=z':=by
 have a:=hz aa aa h0 h1;have b:=oM aa aa h0 h1;rcases j6 40 l.length with h4|h4
 .rw[a.1 h4,b.1 h4]
 have ho:=(alA h).2 h4;rw[a.2 ho,b.2 ho]
theorem DI.qf{nums:mq}{n k a t:Int}{bk:Bool}{gen:ox}{lP z z':Int}(h:DI nums n k a t bk gen lP z)(h':DI nums n k a t bk gen lP z'):z=z':=by
 rcases h with⟨h,rfl⟩|⟨h1,h2,h3,h⟩
 .rcases h' with⟨_,rfl⟩|⟨q1,q2,q3,h'⟩
  .rfl
  clear h';omega
 rcases h' with⟨q,_⟩|⟨_,_,_,h'⟩
 .clear h;omega
 rcases h with⟨hs,rfl⟩|⟨hs,h⟩
 .rcases h' with⟨_,rfl⟩|⟨q,_⟩
  .rfl
  exact ll q hs
 rcases h' with⟨q,_⟩|⟨_,h'⟩
 .exact ll hs q
 rcases h with⟨hg,rfl⟩|⟨n1,k1,a1,t1,t2,rfl,rfl,rfl,rfl,hr,h⟩
 .rcases h' with⟨_,rfl⟩|⟨n1,k1,a1,t1,t2,_,_,_,_,hr,_⟩
  .rfl
  have⟨g,_,qp,_⟩:=hr.go;rw[hg]at qp;cases qp
 rcases h' with⟨hg,_⟩|⟨n2,k2,a2,t3,t4,e1,e2,e3,e4,qF,h'⟩
 .have⟨g,_,qp,_⟩:=hr.go;rw[hg]at qp;cases qp
 obtain rfl:n1=n2:=aa;obtain rfl:k1=k2:=aa;obtain rfl:a1=a2:=aa;obtain rfl:t1=t3:=aa;obtain rfl:=hr.qf qF;rcases h with⟨he,rfl⟩|⟨aBi,he,_,hz⟩
 .rcases h' with⟨_,rfl⟩|⟨aBi,sW,_⟩
  .rfl
  rw[he]at sW;cases sW
 rcases h' with⟨sW,_⟩|⟨aeD,sW,_,oM⟩
 .rw[he]at sW;cases sW
 rw[he]at sW;cases sW;exact hz.one he h2 h3 oM
theorem DI.not{nums:mq}{n k a t:Nat}{bk:Bool}{gen:ox}{lP z:Int}{t2:Tr}{aBi:List l9}(h:DI nums n k a t bk gen lP z)(hl:nums.length<=2000)(hs:we n k a t)(hb:0<=lP/\lP<=1000000)(hr:DJ nums n k a t bk gen t2)(he:wv t2.st.evs=some aBi)(ho:vt 1 aBi lP):False:=by
 rcases h with⟨h,_⟩|⟨_,_,_,h⟩
 .omega
 rcases h with⟨h,_⟩|⟨_,h⟩
 .exact h hs
 rcases h with⟨hg,_⟩|⟨n2,k2,a2,t3,t4,e1,e2,e3,e4,qF,h⟩
 .have⟨g,_,qp,_⟩:=hr.go;rw[hg]at qp;cases qp
 obtain rfl:n=n2:=aa;obtain rfl:k=k2:=aa;obtain rfl:a=a2:=aa;obtain rfl:t=t3:=aa;obtain rfl:=hr.qf qF;rcases h with⟨sW,_⟩|⟨aeD,sW,mI,_⟩
 .rw[he]at sW;cases sW
 rw[he]at sW;cases sW;exact mI ho
open Go.RowKit
theorem auQ(A:lO)(c:Nat)(A2:lO)(c2:Nat)(l:mq)(D D2:lF)(w0:lE)(h:Rd w0 D 1 (.slice A l.length c) l.length (mW l))(h2:Rd w0 D2 1 (.slice A2 l.length c2) l.length (mW l))(hl:l.length<=9223372036854775807):
  Cq 9 #[.slice A l.length c,.slice A2 l.length c2] w0 fun en w'=>en=.returned (.bool true)/\Pure w0 w':=by
 have hI:=ly.start (fun _=>False) w0;refine Vo func9 Z<|Wq<|V5 Z<|Wn<|Ws<|Wq<|Vf Z<|Vp Z nz Z<|Vf Z<|Vp Z nz Z<|U3 Z<|Yf Z<|Wk<|Ws<|Wq<|Vb Z<|Wn<|Wb ?_;refine Wl (fun mu ρ w=>∃k:Nat,mu=l.length-k/\k<=l.length/\lA ρ [(5,lI k),(0,.slice A l.length c),(1,.slice A2 l.length c2)]/\ly NF w0 w []) l.length
  ⟨0,rfl,aa,⟨rfl,rfl,rfl,trivial⟩,hI⟩ ?_
 clear hI;rintro mu ρ w ⟨k,rfl,hk,hH,hI⟩;obtain⟨σ,rfl⟩:=hH.open;by_cases ow:k<l.length;rotate_left
 .obtain rfl:k=l.length:=aa;exact Ws<|Wq<|V0 Z<|Vf Z<|Vp Z nz Z<|Vq Z<|Yf Z<|WE<|Wq<|V5 Z<|Wn<|WR<|lV 4 Z ⟨Z,hI.pu⟩
 have pE:(mW l)[k]?=some (Y<|l[k]'ow):=by simp[mW,ow]
 obtain⟨b1,o1,rfl,_,_,oT⟩:=h.get pE aa;obtain⟨b2,o2,rfl,_,_,rJ⟩:=h2.get pE aa;generalize l[k]'ow=z at oT rJ;refine Ws<|Wq<|V0 Z<|Vf Z<|Vp Z nz Z<|Vt Z<|Yt Z<|Wk<|Ws<|Wb<|Ws<|Yi hI fun Sx hY hZ hI=>?_;exact T8 0 Z<|Vw 1 Z<|Wt 2 Z (lL hY fun hI=>bP)<|V9 3 (Y _) Z (Yo hY oT)<|T8 4 Z<|Vw 5 Z<|Wt 6 Z (lL hY fun hI=>bP)<|V9 7 (Y _) Z (Yo hY rJ)<|U7 8 Z<|Yz<|Wc false Z<|Wk<|Wr<|V0 Z<|Vx Z<|Vb Z<|Wn ⟨l.length-(k+1),aa,k+1,rfl,aa,sf,hI⟩
def OX(e:Ev):List Int:=[e.proc,e.ty,e.key,e.kind,e.a,e.b,e.res]
theorem ajn(A:lO)(c:Nat)(B':lO)(d:Nat)(l:List Ev)(D D':lF)(w0:lE)(h:AV w0 D (.slice A l.length c) l)(h':AV w0 D' (.slice B' l.length d) l)(hn:l.length<=9223372036854775807):
  Cq 10 #[.slice A l.length c,.slice B' l.length d] w0 fun en w'=>en=.returned (.bool true)/\Pure w0 w':=by
 have hI:=ly.start (fun _=>False) w0;refine Vo func10 Z<|Wq<|V5 Z<|Wn<|Ws<|Wq<|Vf Z<|Vp Z sN Z<|Vf Z<|Vp Z sN Z<|Ti Z<|Yf Z<|Wk<|Ws<|Wq<|Vb Z<|Wn<|Wb ?_;refine Wl (fun mu ρ w=>∃k:Nat,mu=l.length-k/\k<=l.length/\lA ρ [(5,lI k),(0,.slice A l.length c),(1,.slice B' l.length d)]/\ly NF w0 w []) l.length
  ⟨0,rfl,aa,⟨rfl,rfl,rfl,trivial⟩,hI⟩ ?_
 clear hI;rintro mu ρ w ⟨k,rfl,hk,hH,hI⟩;obtain⟨σ,rfl⟩:=hH.open;by_cases hka:k<l.length;rotate_left
 .obtain rfl:k=l.length:=aa;exact Ws<|Wq<|V0 Z<|Vf Z<|Vp Z sN Z<|Vq Z<|Yf Z<|WE<|Wq<|V5 Z<|Wn<|WR<|lV 4 Z ⟨Z,hI.pu⟩
 obtain⟨g1,o1,rfl,q1⟩:=h.at hka;obtain⟨g2,o2,rfl,q2⟩:=h'.at hka;generalize FD l k=x at q1 q2;refine Ws<|Wq<|V0 Z<|Vf Z<|Vp Z sN Z<|Vt Z<|Yt Z<|Wk<|Ws<|Wb<|Ws<|Yi hI fun Sx hY hZ hI=>?_;refine T8 0 Z<|Vw 1 Z<|Uk 2 7 Z sN Z<|Wt 3 Z (lL hY fun hI=>(by exact Gp (n:=7) rfl ai ai rfl (by rfl)<|fun k u hk=>hI.my<|q1 k u hk))<|T8 4 Z<|Vw 5 Z<|Uk 6 7 Z sN Z<|Wt 7 Z (lL hY fun hI=>(by exact Gp (n:=7) rfl ai ai rfl (by rfl)<|fun k u hk=>hI.my<|q2 k u hk))<|Wt 8 Z (lL hY fun hI=>(atH (n:=7) (la:=OX x) (lb:=OX x) Z ai Z Z Z Z))<|Yz ?_;rw[jB (rfl:OX x=OX x)];exact Wc false Z<|Wk<|Wr<|V0 Z<|Vx Z<|Vb Z<|Wn ⟨l.length-(k+1),aa,k+1,rfl,aa,sf,hI⟩
def Bv:List UInt8:=[108,105,109,105,116,32,49,32,119,114,105,116,101,32,48,32,53,32,53]
def Nd:List UInt8:=[110,111,100,101,115]
def Lu:List UInt8:=[99,108,105,101,110,116,115]
def Nu:List UInt8:=[113,117,111,114,117,109]
def LL:List UInt8:=[103,101,110]
theorem QT:EG Bv=some (.qO 1 (.wr 0 5 5)):=ai
def pC(n k a t:Nat)(gen:ox):Array Value:= #[.int .i64 (n:Int),.int .i64 (k:Int),.int .i64 (a:Int),.int .i64 (t:Int),.bool true,ma [],ma gen,.int .i64 10000]
def ahv(a b:lW):Nat->Array Value
 |0=>a|_=>b
def aw4(a b c:lW):Nat->Array Value
 |0=>a|1=>b|_=>c
section
variable{w0:lE}{H:List lN}{b:Nat}
theorem aqN(w:lE)(hI:ly NF w0 w (B b 29 (pC 0 0 0 0 [])::H))(hG:uB w0)(hM:vX w0):
  Cq 46 #[lJ b 0,ma Nd,ma [51]] w fun e w'=>e=.returned .nilIface/\ly NF w0 w' (B b 29 (pC 3 0 0 0 [])::H):=by
 refine Vo func46 Z<|Wq<|Vh Z<|Wn<|Ws<|Wq<|Vu Z<|Wn<|Wb<|Wq<|Uo Z<|V5 Z<|Yf Z<|Wq<|Uo Z<|V5 Z<|Yf Z<|Wq<|Uo Z<|V5 Z<|Yf Z<|Wq<|Us Z<|V5 Z<|Yt Z<|Wq<|Vu Z<|V8 Z<|Ve Z<|V6 0 Z<|V6 0 Z<|T7 [(0,.pointer _)] [_] [.pointer none] [0] hI Z underlying239 (fun _=>ai) ?_;rintro b55 w- -hI;refine V7 [.string _,.slice _ _ _] Z func78 Z<|(XE w0 _ H b _ 29 [51] [[51]] 1 (fun _=>0) (fun _=>3) (ahv (pC 0 0 0 0 [])<|pC 3 0 0 0 []) _ hI (fun k hk=>?_) (fun k hk=>?_) (fun k hk=>?_) Z aw aw aI aI hG hM).mono ?_
 .obtain rfl:k=0:=aa
  rfl
 .obtain rfl:k=0:=aa;exact⟨Z,Z⟩
 .obtain rfl:k=0:=aa;exact⟨aI,aw⟩
 rintro e w1 ⟨rfl,nd⟩;apply rV;replace hI:=nd;exact Vh Z<|Wn<|WR<|lV 6 Z ⟨Z,hI⟩
theorem aqL(w:lE)(hI:ly NF w0 w (B b 29 (pC 3 0 0 0 [])::H))(hG:uB w0)(hM:vX w0):
  Cq 46 #[lJ b 0,ma Lu,ma [49]] w fun e w'=>e=.returned .nilIface/\ly NF w0 w' (B b 29 (pC 3 1 0 0 [])::H):=by
 refine Vo func46 Z<|Wq<|Vh Z<|Wn<|Ws<|Wq<|Vu Z<|Wn<|Wb<|Wq<|Uo Z<|V5 Z<|Yf Z<|Wq<|Uo Z<|V5 Z<|Yf Z<|Wq<|Uo Z<|V5 Z<|Yf Z<|Wq<|Uo Z<|V5 Z<|Yf Z<|Wq<|Us Z<|V5 Z<|Yt Z<|Ws<|Wr<|Vu Z<|V8 Z<|Ve Z<|V6 0 Z<|V6 1 Z<|T7 [(0,.pointer _)] [_] [.pointer none] [0] hI Z underlying239 (fun _=>ai) ?_;rintro b64 w- -hI;refine V7 [.string _,.slice _ _ _] Z func78 Z<|(XE w0 _ H b _ 29 [49] [[49]] 1 (fun _=>1) (fun _=>1) (ahv (pC 3 0 0 0 [])<|pC 3 1 0 0 []) _ hI (fun k hk=>?_) (fun k hk=>?_) (fun k hk=>?_) Z aw aw aI aI hG hM).mono ?_
 .obtain rfl:k=0:=aa
  rfl
 .obtain rfl:k=0:=aa;exact⟨Z,Z⟩
 .obtain rfl:k=0:=aa;exact⟨aI,aw⟩
 rintro e w1 ⟨rfl,nd⟩;apply rV;replace hI:=nd;exact Vh Z<|Wn<|WR<|lV 6 Z ⟨Z,hI⟩
theorem aqO(w:lE)(hI:ly NF w0 w (B b 29 (pC 3 1 0 0 [])::H))(hG:uB w0)(hM:vX w0):
  Cq 46 #[lJ b 0,ma Nu,ma [50,32,50]] w fun e w'=>e=.returned .nilIface/\ly NF w0 w' (B b 29 (pC 3 1 2 2 [])::H):=by
 refine Vo func46 Z<|Wq<|Vh Z<|Wn<|Ws<|Wq<|Vu Z<|Wn<|Wb<|Wq<|Uo Z<|V5 Z<|Yf Z<|Wq<|Uo Z<|V5 Z<|Yf Z<|Wq<|Uo Z<|V5 Z<|Yf Z<|Wq<|Uo Z<|V5 Z<|Yf Z<|Wq<|Uo Z<|V5 Z<|Yf Z<|Ws<|Wr<|Us Z<|V5 Z<|Yt Z<|Ws<|Yj [10] hI fun Sx hY hZ hI=>?_;refine Wt 0 Z (lL hY fun hI=>(by exact aft rfl rfl))<|Vj 1 Z<|Vk 2 Z<|Vd 3 0 Z<|Vd 4 2 Z<|Vj 5 Z<|Vk 6 Z<|Vd 7 0 Z<|Vd 8 3 Z<|Vr 9 Z<|T7 [(0,.pointer _),(1,.pointer _)] [_,_] [.pointer none,.pointer none] [0,1] hI Z underlying239 (fun _=>ai) ?_;rintro b77 w- -hI;refine Wn ⟨hZ _ hI.d0,(qn ai ?_)⟩;refine Tc 10 Z<|V7 [.string _,.slice _ _ _] Z func78 Z<|(XE w0 _ H b _ 29 [50,32,50] [[50],[50]] 2 (fun k=>k+2) (fun _=>2) (aw4 (pC 3 1 0 0 []) (pC 3 1 2 0 [])<|pC 3 1 2 2 []) _ hI (fun k hk=>?_) (fun k hk=>?_) (fun k hk=>?_) Z aw aw aI aI hG hM).mono ?_
 .match k,hk with
  |0,_=>rfl|1,_=>rfl
 .match k,hk with
  |0,_=>exact⟨rfl,rfl⟩|1,_=>exact⟨rfl,rfl⟩
 .match k,hk with
  |0,_=>exact⟨aI,aw⟩|1,_=>exact⟨aI,aw⟩
 rintro e w1 ⟨rfl,nd⟩;apply rV;replace hI:=nd;exact Wn<|Tc 11 Z<|Vh Z<|Wn<|qm ai<|WR<|lV 6 Z ⟨Z,hI⟩
theorem aqM(w:lE)(hI:ly NF w0 w (B b 29 (pC 3 1 2 2 [])::H))(hG:uB w0):
  Cq 46 #[lJ b 0,ma LL,ma Bv] w fun e w'=>e=.returned .nilIface/\ly NF w0 w' (B b 29 (pC 3 1 2 2 Bv)::H):=by
 refine Vo func46 Z<|Wq<|Vh Z<|Wn<|Ws<|Wq<|Vu Z<|Wn<|Wb<|Wq<|Uo Z<|V5 Z<|Yf Z<|Wq<|Us Z<|V5 Z<|Yt Z<|Wq<|V8 Z<|Vu Z<|Ve Z<|V6 6 Z<|xI (u:=.string _) hI Z Z Z Z Z Z ai Z Z Z ?_;intro w hI;refine Wn<|Wq<|Vu Z<|V7 [.string _] Z func18 Z<|(XN Bv _ (hG.ni (hI.pu.ni NF) A9.none) aw).mono ?_;rintro e w1 (⟨g,v,Lg,hg,rfl,zB,hT⟩|⟨hg,_⟩);rotate_left
 .rw[QT]at hg;cases hg
 obtain⟨T,bv,rfl⟩:=zB.val;apply rV;have hI:=hI.pure hT.pu;exact Vy Z<|Vi Z<|Vi Z<|Vn Z<|Vh Z<|Wn<|Wq<|Tb Z<|Tn Z mY Z<|Yf Z<|Wk<|Ws<|Wr<|Vh Z<|Wn<|WR<|lV 6 Z ⟨Z,hI⟩
end
def ye:List (List UInt8):=[Nd,Lu,Nu,LL]
def H7:List (List UInt8):=[Nd++32::[51],Lu++32::[49],Nu++32::[50,32,50],LL++32::Bv,[]]
def RI:List UInt8:=(Nd++32::[51])++10::((Lu++32::[49])++10::((Nu++32::[50,32,50])++10::((LL++32::Bv)++[10])))
def pK:Nat->Array Value
 |0=>pC 0 0 0 0 []|1=>pC 3 0 0 0 []|2=>pC 3 1 0 0 []|3=>pC 3 1 2 2 []|_=>pC 3 1 2 2 Bv
theorem af1{w0:lE}{b:Nat}(hG:uB w0)(hM:vX w0)(k:Nat)(hk:k<4):∃nm rs,ye[k]?=some nm/\H7[k]?=some (nm++32::rs)/\(nm++32::rs).length<=100/\Lib.cut (nm++32::rs) [32]=(nm,rs,true)/\false=decide (nm∈ye.take k)/\
  ∀(H:List lN) (w:lE),ly NF w0 w (B b 29 (pK k)::H)->Cq 46 #[lJ b 0,ma nm,ma rs] w fun e w'=>e=.returned .nilIface/\ly NF w0 w' (B b 29 (pK<|k+1)::H):=by
 match k,hk with
 |0,_=>exact⟨Nd,[51],rfl,rfl,aw,aI,aI,fun H w hI=>aqN w hI hG hM⟩|1,_=>exact⟨Lu,[49],rfl,rfl,aw,aI,aI,fun H w hI=>aqL w hI hG hM⟩|2,_=>exact⟨Nu,[50,32,50],rfl,rfl,aw,aI,aI,fun H w hI=>aqO w hI hG hM⟩|3,_=>exact⟨LL,Bv,rfl,rfl,aw,aI,aI,fun H w hI=>aqM w hI hG⟩
theorem al1(w0:lE)(hG:uB w0)(hM:vX w0):
  Cq 15 #[ma RI] w0 fun en w'=>en=.returned (.tuple #[.agg (pC 3 1 2 2 Bv),.nilIface])/\Pure w0 w':=by
 have hI:=ly.start (fun _=>False) w0;apply Vo func15 Z;refine Wq<|T6 (.agg #[Y 0,Y 0,Y 0,Y 0,.bool false,.string ⟨#[]⟩,.string ⟨#[]⟩,Y 0]) (#[Y 0,Y 0,Y 0,Y 0,.bool false,.string ⟨#[]⟩,.string ⟨#[]⟩,Y 0]) hI Z ?_;rintro b2 w- -hI;refine Vh Z<|Wn<|Ws<|Wq<|Vu Z<|U5 Z nS Z ?_;apply Wv Z (by exact X1 rfl rfl rfl);refine Wn<|Wc false Z<|Wk<|Wq<|Tf [(4,.bool _)] [_,_,_,_,_] Z [Y 0,Y 0,Y 0,Y 0,.bool false] [4] Z (fun _=>ai)<|Tf [(0,.agg #[_,_,_,_,_]),(3,Y _)] [_,_,_,_,_,_,_,_] rfl [Y 0,Y 0,Y 0,Y 0,.bool false,.string ⟨#[]⟩,.string ⟨#[]⟩,Y 0] [0,7] rfl (fun _=>ai)<|T6 (.agg #[Y 0,Y 0,Y 0,Y 0,.bool false,.string ⟨#[]⟩,.string ⟨#[]⟩,Y 0]) (#[Y 0,Y 0,Y 0,Y 0,.bool false,.string ⟨#[]⟩,.string ⟨#[]⟩,Y 0]) hI rfl ?_;rintro b4 w- -hI;apply Ta 8 (#[_,_,_,_,_,_,_,_]) (.agg _) hI Z;intro w hI;refine Wn<|Wq<|Vm Z<|Wn<|Wq<|Vb Z<|Wn ?_;refine Wx (fun ρ w=>∃(A5:lO) (c5:Nat),lA ρ [(5,.slice A5 4 c5),(4,lJ b4 0),(2,lJ b2 0),(0,ma RI)]/\ly NF w0 w [B b4 29 (pK 4),lz 0 9 1 A5 4 c5<|ye.map ma,B b2 29 #[Y 0,Y 0,Y 0,Y 0,.bool false,ma [],ma [],Y 0]]) ?_ ?_
 .refine Wq<|Vu Z<|V7 [.string _,.string _] Z func44 Z ?_;refine(agD RI [10] H7 aw aw aI aI _<|hM.pure hI.pu).mono ?_;rintro e w1 ⟨g1,rfl,hT⟩;apply rV;have hI:=hI.app1 hT;refine Vp Z y9 Z<|V0 Z<|Wn ?_;replace hI:ly NF w0 _ [B g1 9 (H7.map ma).toArray,B b4 29<|pK 0,B b2 29 #[Y 0,Y 0,Y 0,Y 0,.bool false,ma [],ma [],Y 0]]:=hI;have FN:=(hI.fresh (Pure.refl _) (lz.nil _ 0 9 1)<|fun k hk=>by simp[lz]at hk).pull 2 rfl;apply Wb
  refine Wl (fun mu ρ w=>∃(k:Nat) (z:Int) (A5:lO) (c5:Nat),mu=5-k/\k<=5/\0<=z/\z<=1000*k/\lA ρ [(26,lI k),(25,Y 5),(24,me g1 0 5 5),(6,Y z),(5,.slice A5 (min k 4) c5),(4,lJ b4 0),(2,lJ b2 0),(0,ma RI)]/\
    ly NF w0 w [B b4 29 (pK k),lz 0 9 1 A5 (min k 4) c5 ((ye.take k).map ma),B g1 9 (H7.map ma).toArray,B b2 29 #[Y 0,Y 0,Y 0,Y 0,.bool false,ma [],ma [],Y 0]]) 5
   ⟨0,0,none,0,rfl,aa,aa,aa,⟨rfl,rfl,rfl,rfl,rfl,rfl,rfl,rfl,trivial⟩,FN⟩ ?_
  rintro mu ρ w ⟨k,z,A5,c5,rfl,hk,pF,xw,hH,hI⟩;obtain⟨σ,rfl⟩:=hH.open;by_cases Hu:k<5;rotate_left
  .obtain rfl:k=5:=aa;refine Wq<|Vq Z<|Wn<|Ws<|Wc false Z ?_;apply WE;exact⟨A5,c5,oy,hI.erase 2⟩
  by_cases CR:k<4
  .have⟨nm,rs,x8,hpi,MH,CM,anV,aoK⟩:=af1 (b:=b4) hG hM k CR;have BI:(H7.map ma).toArray[k]?=some (ma<|nm++32::rs):=by rw[fG,gW,hpi];rfl
   have PS:min k 4=k:=aa;have yP:(ye.take k).length=k:=by rw[iz];exact PS
   have py:(ye.take<|k+1).map ma=(ye.take k).map ma++[ma nm]:=by rw[gZ,x8,jb];rfl
   have mK:nm++32::rs≠[]:=aq;rw[PS]at hI|-;refine Wq<|Vt Z<|Wn<|Ws<|Wc true Z<|Wk<|Ws<|Wb<|Wq<|Tx Z y9 Z<|V4 (.string _) Z (hI.c2 BI)<|Ud Z ?_;refine Wn<|Ws<|Wq<|Vu Z ?_;refine Wv Z (by exact afJ rfl rfl rfl aX) ?_;refine Wn<|Wc true Z<|Wq<|Vu Z<|V7 [.string _,.string _] Z func45 Z ?_;refine(akv (nm++32::rs) [32] nm rs true aa CM _<|hM.pure hI.pu).mono<|pJ hI fun w1 Ax hI=>?_;refine Vy Z<|Vi Z<|Vi Z<|Vi Z<|Ud Z<|Ud Z<|V5 Z<|Wn<|Wq<|Vu Z<|Vu Z<|V7 [.pointer _,.string _,.string _] Z func46 Z ?_;refine(aoK _ _ hI).mono ?_;rintro e w1 ⟨rfl,nd⟩;apply rV;replace hI:=nd;refine Vh Z<|Wn ?_;have hC:=fun(w:lE) (hI:ly NF w0 w [B b4 29 (pK<|k+1),lz 0 9 1 A5 k c5<|(ye.take k).map ma,B g1 9 (H7.map ma).toArray,B b2 29 #[Y 0,Y 0,Y 0,Y 0,.bool false,ma [],ma [],Y 0]])=>aaJ A5 c5 (ye.take k) nm (fun _=>True) w (by rw[yP];exact Rd.wP hI.g1<|fun _ _ _=>trivial) aa false anV
   rw[yP]at hC;refine Ws<|Wq<|Tb Z ?_;apply Wv Z aR;refine V3 Z<|Vf Z<|Vu Z<|V7 [.slice _ _ _,.string _] Z func47 Z ?_;refine(hC _ hI).mono<|pJ hI fun w1 Ax hI=>?_;refine Vg Z<|Wn<|Wc false Z<|Wk<|Ws<|Wq<|Tb Z<|Tn Z mY Z<|Wn<|Wc false Z<|Wk<|Wr<|Vf Z ?_;refine Vu Z<|T7 [(0,.string _)] [_] [.string ⟨#[]⟩] [0] hI Z y9 (fun _=>ai) ?_;rintro b60 w- -hI;apply GU (z:=.string ⟨#[]⟩) (by_:=16) hI Z Z Z Z Z Z y9 ai Z aa (by rfl) hI.qP (by rfl) aa aa (by exact kz _);rintro A61 c61 w ay0 azp hI;have hI:=hI.d0;refine Vm Z<|Wn<|Wr<|V0 Z<|Vu Z<|U5 Z nS Z<|Vx Z ?_;refine Wv Z (by exact H9 rfl rfl rfl aa) ?_;refine Vb Z<|Wn<|Wr<|Vx Z<|V0 Z<|Wn ?_;refine⟨5-(k+1),aa,k+1,z+(((nm++32::rs).length:Int)+1),A61,c61,rfl,aa,aa,aa,⟨rfl,rfl,rfl,rfl,?_,rfl,rfl,rfl,trivial⟩,?_⟩
   .rw[show min (k+1) 4=k+1 by omega];rfl
   rw[show min (k+1) 4=k+1 by omega,py];exact hI
  obtain rfl:k=4:=aa;have BI:(H7.map ma).toArray[4]?=some (ma []):=rfl;refine Wq<|Vt Z<|Wn<|Ws<|Wc true Z<|Wk<|Ws<|Wb<|Wq<|Tx Z y9 Z<|V4 (.string _) Z (hI.c2 BI)<|Ud Z ?_;refine Wn<|Ws<|Wq<|Vu Z ?_;refine Wv Z (by exact Yq rfl rfl rfl aw) ?_;refine Wn<|Wc false Z<|Wk<|Wr<|V0 Z<|Vu Z<|U5 Z nS Z ?_;apply Wv Z (by exact Nw rfl rfl rfl);apply Wv Z (by exact Nw rfl rfl rfl);refine Vb Z<|Wn<|Wr<|Vx Z<|V0 Z<|Wn ?_;have xr:IntKind.i64.wrap (((0:Nat):Int)+1)=1:=wrap64_in aa aa;have xu:IntKind.i64.wrap (z+1)=z+1:=wrap64_in aa aa;refine⟨5-(4+1),aa,5,_,A5,c5,rfl,aa,?_,?_,yE,hI⟩
  .show 0<=IntKind.i64.wrap (z+IntKind.i64.wrap (((0:Nat):Int)+1));rw[xr,xu];omega
  show IntKind.i64.wrap (z+IntKind.i64.wrap (((0:Nat):Int)+1))<=_;rw[xr,xu];omega
 rintro ρ w ⟨A5,c5,hH,hI⟩;obtain⟨σ,rfl⟩:=hH.open;refine Wx (fun ρ w=>lA ρ [(4,lJ b4 0),(2,lJ b2 0)]/\ly NF w0 w [B b4 29 (pK 4),lz 0 9 1 A5 4 c5<|ye.map ma,B b2 29 #[Y 0,Y 0,Y 0,Y 0,.bool false,ma [],ma [],Y 0]]) ?_ ?_
 .refine Wq<|T7 [(0,.string _),(1,.string _),(2,.string _),(3,.string _)] [_,_,_,_] [.string ⟨#[]⟩,.string ⟨#[]⟩,.string ⟨#[]⟩,.string ⟨#[]⟩] [0,1,2,3] hI Z y9 (fun _=>ai) ?_;rintro b68 w- -hI;refine Vp Z y9 Z<|V0 Z<|Wn<|Wb ?_
  refine Wl (fun mu ρ w=>∃k:Nat,mu=4-k/\k<=4/\lA ρ [(70,lI k),(69,Y 4),(68,me b68 0 4 4),(5,.slice A5 4 c5),(4,lJ b4 0),(2,lJ b2 0)]/\
    ly NF w0 w [B b68 9 (ye.map ma).toArray,B b4 29 (pK 4),lz 0 9 1 A5 4 c5 (ye.map ma),B b2 29 #[Y 0,Y 0,Y 0,Y 0,.bool false,ma [],ma [],Y 0]]) 4
   ⟨0,rfl,aa,⟨rfl,rfl,rfl,rfl,rfl,rfl,trivial⟩,hI⟩ ?_
  rintro mu ρ w ⟨k,rfl,hk,hH,hI⟩;obtain⟨σ,rfl⟩:=hH.open;by_cases CR:k<4;rotate_left
  .obtain rfl:k=4:=aa;refine Wq<|Vq Z<|Wn<|Ws<|Wc false Z ?_;apply WE;exact⟨yD,hI.d0⟩
  obtain⟨nm,rs,x8, -⟩:=af1 (b:=b4) hG hM k CR;have BI:(ye.map ma).toArray[k]?=some (ma nm):=by rw[fG,gW,x8];rfl
  refine Wq<|Vt Z<|Wn<|Ws<|Wc true Z<|Wk<|Ws<|Wb<|Wq<|Tx Z y9 Z<|V4 (.string _) Z (hI.c0 BI)<|Ud Z ?_;refine Wn<|Wq<|Vf Z<|Vu Z<|V7 [.slice _ _ _,.string _] Z func47 Z ?_;refine(aaJ A5 c5 ye nm (fun _=>True) _ (Rd.wP hI.g2<|fun _ _ _=>trivial) aw true<|by rw[jB (mZ x8)]).mono<|pJ hI fun w1 Ax hI=>?_;refine Th Z<|Wn<|Wc false Z<|Wk<|Wr<|Vx Z<|V0 Z<|Wn ?_;exact⟨4-(k+1),aa,k+1,rfl,aa,xe,hI⟩
 rintro ρ w ⟨hH,hI⟩;obtain⟨σ,rfl⟩:=hH.open;have Pq:∀(w:lE),ly NF w0 w [B b4 29 (pK 4),lz 0 9 1 A5 4 c5<|ye.map ma,B b2 29 #[Y 0,Y 0,Y 0,Y 0,.bool false,ma [],ma [],Y 0]]->∀(j:Nat) (u:lH),[Y 3,Y 1,Y 2,Y 2,.bool true][j]?=some u->w.cell? ⟨b4,0+j,none⟩=some u:=by
  intro w hI j u hj;rw[kg];apply hI.c0
  match j,hj with
  |0,h=>exact h|1,h=>exact h|2,h=>exact h|3,h=>exact h|4,h=>exact h|j+5,h=>simp at h
 refine Ws<|Wq<|V6 0 Z<|Uh 5 [Y 3,Y 1,Y 2,Y 2,.bool true] Z (Pq _ hI)<|V7 [.agg _] Z func48 Z ?_;refine(YD 3 1 2 2 true _).mono ?_;rintro e w1 ⟨⟨_,rfl⟩|⟨hb,_⟩,hp⟩;rotate_left
 .exact ll aw hb
 apply rV;have hI:=hI.pure hp;refine Vh Z<|Wn<|Wq<|Tb Z<|Tn Z mY Z<|Wn<|Wc false Z<|Wk<|Wq<|U1 8 Z hI.g0 ?_;apply Ow (u:=.agg _) (vs:= #[_,_,_,_,_,_,_,_]) (n:=8) hI Z Z Z Z Z Z ai Z Z Z;intro w hI;refine Vh Z<|Wn ?_;apply WR;exact EM (n:=8) (t:=29) (.inr Z) Z Z ai ai Z hI.g2 ⟨Z,hI.pu⟩
end
section
open Tryz
variable{c:Int}{nums:mq}{k:Nat}{w w0:lE}
def FA:Nat->l8->l8
 |0,s=>s|n+1,s=>match s.lU with
  |[]=>s|m::_=>FA n<|tX s 0 m
theorem vn.eq:∀(n:Nat) (s s':l8),vn s s'->(FA n s).lU=[]->s'=FA n s
 |0,s,s',h,hn=>by
  cases h with
  |nil _=>rfl|step hm _=>have hn:s.lU=[]:=hn;rw[hn]at hm;cases hm
 |n+1,s,s',h,hn=>by
  cases h with
  |nil h0=>unfold FA;rw[h0]|@step _ _ m hm hd=>
   obtain⟨r,hr⟩:∃r,s.lU=m::r:=by
    cases hs:s.lU with
    |nil=>rw[hs]at hm;cases hm
    |cons a r=>rw[hs]at hm;exact⟨r,by rw[jl hm]⟩
   have e:FA (n+1) s=FA n (tX s 0 m):=by show(match s.lU with|[]=>s|m::_=>FA n<|tX s 0 m)=_;rw[hr]
   rw[e]at hn|-;exact vn.eq n _ s' hd hn
def NI:l8:=s0 3 1 2 2 true
def YB:l8:=wi NI 0 0 true 5
def NJ:l8:=FA 30 YB
def OY:List Ev:=[⟨0,1,0,2,5,0,0⟩,⟨0,2,0,2,5,0,0⟩]
theorem auN:NJ.lU=[]:=ai
theorem agl:NJ.evs=OY:=ai
theorem auM:NI.lU=[]:=ai
def QQ:List l9:=[⟨0,0,2,5,0,0,0,1⟩]
theorem abl:wv OY=some QQ:=aI
theorem axl:(tu 1 QQ sD 10000).1=1:=aI
theorem asn:vt 1 QQ 10000:=by
 refine⟨aw,aw,aw,aw,⟨aw,fun k hk=>?_⟩,fun k hk=>?_⟩
 .obtain rfl:k=0:=by have:k<1:=hk;omega
  unfold OkOp Nk wS;decide+kernel
 obtain rfl:k=0:=by have:k<1:=hk;omega
 decide+kernel
theorem arE:zX NI ((0:Nat):Int) 0:=⟨rfl,aw,rfl,rfl,aw⟩
theorem ase:Nx [] (.qO 1 (.wr 0 5 5)) 0 (some (true,0,5)) (.qO 0 (.wr 0 5 5)) 1:=by have h:=@Nx.qO [] (.wr 0 5 5) 0 _ _ _ 0 .wr;have e:(5:Int)+xL [] 0 (5-5+1)=5:=aI;rw[e]at h;exact h
theorem yp.one{t t':Tr}{m m':Bool}(h:yp nums 1 0 t m t' m'):∃r,yn nums t ((0:Nat):Int) r t'/\m'=(r||m):=by
 cases h with
 |step hi hb h2=>
  cases h2 with
  |done=>exact⟨_,hb,rfl⟩|step rX _ _=>omega
theorem agc{t2:Tr}{gT:ox}(BR:EG gT=some (.qO 1 (.wr 0 5 5)))(h:DJ [] 3 1 2 2 true gT t2):t2.st=NJ:=by
 obtain⟨g,t1,hg, -,C3, -,rU⟩:=h.go;rw[BR]at hg;obtain rfl:=jl hg;have C3:=C3 rfl;subst C3;have key:∀(s1:l8) (t':Tr) (m:Bool),vn NI s1->yp [] 1 0 ⟨s1,.qO 1<|.wr 0 5 5,0,0,false⟩ false t' m->t'=⟨YB,.qO 0<|.wr 0 5 5,1,1,false⟩/\m=true:=by
  intro s1 t' m hd hr;obtain rfl:s1=NI:=vn.eq 0 _ _ hd auM;obtain⟨r,hb,rfl⟩:=hr.one;rcases hb with⟨rT,_,_⟩|⟨_,_,c',hm,rr,g',u',py,hc⟩
  .rcases rT with h|h|h
   .cases h
   .exact ll h (by show ¬40<=0;omega)
   exact ll arE<|h 0
  have⟨e1,e2,e3⟩:=py.qf ase;subst e1 e2 e3;have xU:c'=0:=by have:=hm.eq;omega
  subst xU;rcases hc with⟨h,_⟩|⟨w,k,v,h,hh⟩
  .cases h
  injection h with h;injection h with h1 h2;injection h2 with h2 h3;subst h1 h2 h3;rcases hh with⟨mI,_⟩|⟨_,rfl,rfl⟩
  .exact ll ⟨⟨aa,aa⟩,⟨aa,aa⟩,fun h=>bV⟩ mI
  exact⟨Z,Z⟩
 have adM:∀(s1:l8) (t':Tr) (m:Bool),vn YB s1->yp [] 1 0 ⟨s1,.qO 0<|.wr 0 5 5,1,1,false⟩ false t' m->t'.st=NJ/\m=false:=by
  intro s1 t' m hd hr;obtain rfl:s1=NJ:=vn.eq 30 _ _ hd auN;obtain⟨r,hb,rfl⟩:=hr.one;rcases hb with⟨_,rfl,rfl⟩|⟨_,_,c',hm,rr,g',u',py,hc⟩
  .exact⟨Z,Z⟩
  have⟨e1,e2,e3⟩:=py.qf .Qo;subst e1 e2 e3;rcases hc with⟨_,rfl,rfl⟩|⟨w,k,v,h,_⟩
  .exact⟨Z,Z⟩
  cases h
 cases rU with
 |last hd hr=>have:=(key _ _ _ hd hr).2;cases this
 |more hd hr rU=>
  obtain⟨rfl, -⟩:=key _ _ _ hd hr;cases rU with
  |last hd hr=>exact(adM _ _ _ hd hr).1|more hd hr _=>have:=(adM _ _ _ hd hr).2;cases this
open Go.RowKit
theorem aht(w0:lE)(hG:Cp w0)(hM:vX w0):Cq 6 #[] w0 fun en w'=>en=.returned (.bool true)/\Pure w0 w':=by
 have hI:=ly.start (fun _=>False) w0;have anf:∀(w:lE),Pure w0 w->Cq 8 #[.agg (pC 3 1 2 2 Bv),.slice none 0 0] w fun en w'=>∃(A1:lO) (c1:Nat) (A2:lO) (c2 n2:Nat) (G4:Int),
   en=.returned (.tuple #[.agg #[ma [],.slice A1 2 c1,Y 1,.slice A2 n2 c2,Y G4],.nilIface])/\ly NF w w' [lz 0 66 7 A1 2 c1 (OY.flatMap nu)]:=by
  intro w hp;refine(O5 3 1 2 2 true [] Bv 10000 none 0 0 [] (fun _=>False) w (Rd.nil w _ 1) (hG.pure hp) aw).mono ?_;rintro en w' (⟨z,T,v,rT,_⟩|⟨n',k',a',t',t2,aBi,A1,c1,A2,c2,e1,e2,e3,e4,hs,hb,nK,aBn,mj,mH,rfl,hJ⟩)
  .exfalso;rcases rT with⟨h,_⟩|⟨_,_,_,⟨h,_⟩|⟨_,⟨h,_⟩|⟨n',k',a',t',t2,e1,e2,e3,e4,nK,h⟩⟩⟩
   .rcases h with h|h|h
    .simp at h
    .omega
    omega
   .exact h aw
   .rw[QT]at h;cases h
   obtain rfl:n'=3:=aa;obtain rfl:k'=1:=aa;obtain rfl:a'=2:=aa;obtain rfl:t'=2:=aa;have mo:=agc QT nK;rw[mo,agl,abl]at h;rcases h with⟨h,_⟩|⟨aBi,h,mI,_⟩
   .cases h
   obtain rfl:=jl h;exact mI asn
  obtain rfl:n'=3:=aa;obtain rfl:k'=1:=aa;obtain rfl:a'=2:=aa;obtain rfl:t'=2:=aa;have mo:=agc QT nK;rw[mo,agl]at mj hJ|-;rw[abl]at mj;obtain rfl:=jl mj;have hv:(tu 1 QQ sD (10000:Int).toNat).1=1:=axl;rw[hv];exact⟨A1,c1,A2,c2,_,_,Z,hJ.oU⟩
 refine Vo func6 Z<|Wq<|V5 Z<|Wn<|Wq<|V7 [.string _] Z func15 Z<|(al1 _ (hG.pure hI.pu).num<|hM.pure hI.pu).mono<|pJ hI fun w1 Ax hI=>Vy Z<|Vi Z<|Vi Z<|T6 (.agg #[Y 0,Y 0,Y 0,Y 0,.bool false,.string ⟨#[]⟩,.string ⟨#[]⟩,Y 0]) (#[Y 0,Y 0,Y 0,Y 0,.bool false,.string ⟨#[]⟩,.string ⟨#[]⟩,Y 0]) hI Z ?_;rintro b1 w- -hI;apply Ta 8 (#[_,_,_,_,_,_,_,_]) (.agg _) hI Z;intro w hI;refine Vh Z<|Wn<|Wq<|U1 8 Z hI.g0<|V7 [.agg _,.slice _ _ _] Z func8 Z<|(anf _ hI.pu).mono ?_;rintro e w1 ⟨A1,c1,A2,c2,n2,G4,rfl,hT⟩;apply rV;have hI:=hI.app1 hT;refine Vy Z<|Vi Z<|Vi Z<|T6 (.agg #[.string ⟨#[]⟩,.slice none 0 0,Y 0,.slice none 0 0,Y 0]) (#[.string ⟨#[]⟩,.slice none 0 0,Y 0,.slice none 0 0,Y 0]) hI Z ?_;rintro b3 w- -hI;apply Ta 5 (#[_,_,_,_,_]) (.agg _) hI Z;intro w hI;refine Vh Z<|Wn ?_;obtain⟨gA,_,rfl, -⟩:=Ie hI.g1 aw;have he5:∀(w:lE) (e0:lN) (H:List lN),ly NF w0 w (e0::lz 0 66 7 (some ⟨gA,0,none⟩) 2 c1 (OY.flatMap nu)::H)->w.cell? ⟨gA,11,none⟩=some (Y 5):=fun w e0 H hI=>EO hI.g1 (i:=11) rfl aw;exact Wq<|Tb Z<|Wv Z aR<|V3 Z<|Tb Z<|Wv Z aR<|Vg Z<|V3 Z<|V6 2 Z<|Tq Z<|Yc hI Z Z<|Vz Z<|Vg Z<|V3 Z<|V6 1 Z<|V4 (.slice _ _ _) Z (hI.c0 Z)<|Vp Z sN Z<|Vz Z<|Vg Z<|V3 Z<|V6 1 Z<|V4 (.slice _ _ _) Z (hI.c0 Z)<|Wv Z (yX (sz:=7) (i:=1) Z sN ai Z Z aw)<|Tl 4 Z<|V4 (Y _) Z (he5 _ _ _ hI)<|Vz Z<|Vg Z<|V5 Z<|Wn<|WR<|lV 0 Z ⟨Z,hI.pu⟩
end
end Go.Proofs.YtfjcghhjlmfggaaGreatDoor
