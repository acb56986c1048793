/- FarmMany: lemmas. -/
import Derived.Test.YtfjcghhjlmfggaaGreatDoorPStoMv
import Derived.Laws.IdiomStrings
import Derived.Laws.MakeOwn
set_option linter.unusedSectionVars false
set_option linter.unusedVariables false
set_option linter.unusedSimpArgs false
set_option maxHeartbeats 8000000
namespace Go.Proofs.YtfjcghhjlmfggaaGreatDoor
theorem aP{p:Prop}(h:p:=by rw[List.length_append,List.length_take,Array.length_toList,uL];omega):p:=h
theorem aU{p:Prop}(h:p:=by exact X6 rfl rfl rfl (by omega)):p:=h
theorem cy{p:Prop}(h:p:=by rw[adP o k (by omega)];rfl):p:=h
theorem bd{p:Prop}(h:p:=by exact X5 rfl rfl rfl (by omega)):p:=h
theorem cC{p:Prop}(h:p:=by rw[e];rfl):p:=h
theorem bU{p:Prop}(h:p:=by rw[<-M6];simp only[mW,List.length_map]):p:=h
theorem dB{p:Prop}(h:p:=by simpa[maxLen]using aBm):p:=h
theorem cN{p:Prop}(h:p:=by rw[e];exact hI):p:=h
theorem bt{p:Prop}(h:p:=by unfold tJ;rw[if_neg (fun h=>h.2 hm),if_neg (by omega),decide_eq_false (by omega)];rfl):p:=h
theorem cD{p:Prop}(h:p:=by exact zN (i:=0) rfl nz (by kernel_rfl) rfl rfl (by omega)):p:=h
theorem bf{p:Prop}(h:p:=by unfold qY;rw[if_neg aBk,if_neg (by decide),if_neg (by decide),if_neg (by decide),if_neg (by decide)]):p:=h
theorem aV{p:Prop}(h:p:=by exact Q7 (n:=8) rfl (by kernel_rfl) (by kernel_rfl) rfl rfl hI.g0):p:=h
theorem bh{p:Prop}(h:p:=by exact Gp (n:=8) rfl (by kernel_rfl) (by kernel_rfl) rfl (by rfl) (fun k u hk=>hI.my (ao4 k u hk))):p:=h
section
open Tryz
open Go.RowKit
variable{k:Int}{l:List l9}{c n:Nat}{D:lF}{A:lO}{w w' w0:lE}
theorem aqj:(prog.info? 73).map (fun i=>(i.zero,i.size,i.bytes))=some (some .nilIface,1,16):=ai
theorem ayi(w:lE):(zeroValue 73).run prog w=.ok .nilIface w:=ai
theorem al5(aBl:lW)(xs aBp zs:mb)(n k size:Nat)(uv:aBl.toList.take (n*size)=xs)(aBn:xs.length=n*size)(hk:k<n)(wF:aBp=xs.drop ((k+1)*size))(hz:zs.length=size)(mL:n*size<=aBl.size):
  (sd (sd aBl (0+k*size) aBp) ((k+(n-(k+1)))*size) zs).toList.take ((n-1)*size)=xs.take (k*size)++xs.drop ((k+1)*size):=by
 have e1:(k+(n-(k+1)))=n-1:=aa;have uL:aBp.length=(n-(k+1))*size:=by rw[wF,iy,aBn,Nat.sub_mul]
 have e2:k*size+(n-(k+1))*size=(n-1)*size:=by rw[<-kr];congr 1
 have e3:(n-1)*size+size=n*size:=by
  have:n=(n-1)+1:=aa
  conv=>rhs;rw[this,kr,kx]
 have e4:k*size<=n*size:=fX _ aa
 rw[e1,Kv _ _ _ (by rw[uQ,hz];omega),gR,dY (by rw[iz,gb,uQ];omega),jz,Nat.min_self,
  Kv _ _ _ (by rw[uL];omega),kg,dY aP,fq aP,wF,<-uv,jz,jh e4]
set_option maxRecDepth 100000 in
theorem al7(base n k:Nat)(v:lH)(xs:mb)(w:lE)(h:w.ownsRow base 73 1 v n xs)(h1:∀u∈xs,u.oneCell'=true)(hk:k<n)(hn:n<=1000000):
  Cq 228 #[v,.int .i64 k,.int .i64<|(k:Int)+1] w fun e w'=>∃v',e=.returned v'/\
   w'.ownsRow base 73 1 v' (n-1) (xs.eraseIdx k)/\mC (fun k=>some k=v.ownBlock) w w'/\v'.ownBlock=v.ownBlock:=by
 obtain⟨i0,pE,C6,pF,xw⟩:=info_parts aqj;rcases h.2 with⟨rfl,rfl⟩|⟨g,cap,aBl,rfl,Ai,hg,sn,qb,mL,uv⟩
 .omega
 have aBn:=h.1;simp only[maxLen]at qb;have hB:mV w g 73 aBl:=hg;obtain⟨aBp,wF⟩:∃aBp,aBp=xs.drop ((k+1)):=⟨_,rfl⟩
 have uL:aBp.length=(n-(k+1)):=by rw[wF,iy,aBn];omega
 have FV:∀j u,xs[j]?=some u->w.cell? ⟨g,j,none⟩=some u:=fun j u hj=>by
  rw[hB.cell,<-fx];rw[<-uv,gC]at hj;split at hj
  .exact hj
  cases hj
 obtain⟨A,hA,P7⟩:∃A:Addr,(if cap=k+1 then some (⟨g,0,none⟩:Addr)else some ⟨g,(k+1),none⟩)=some A/\Hid (∀t u,aBp[t]?=some u->w.drew.cell? (A.add t)=some u):=by
  by_cases hc:cap=k+1
  .refine⟨_,by rw[lq hc],fun t u hu=>?_⟩;have h0:aBp.length=0:=by rw[uL];omega
   rw[eY.1 h0]at hu;simp at hu
  refine⟨_,by rw[lp hc],fun t u hu=>?_⟩;rw[jU];rw[wF,gB]at hu;exact FV _ u hu
 have s1:Hid (aBp.length=(n-(k+1))):=uL;have s2:Hid (∀u∈aBp,u.oneCell'=true):=fun u hu=>h1 u<|fU<|wF▸hu;have s3:Hid (∀t,t<aBp.length->(w.drew.cell? ⟨g,0+k+t,none⟩).isSome=true/\w.drew.frozen? ⟨g,0+k+t,none⟩=false):=by
  intro t ht;refine⟨?_,hB.frozen _⟩;show(w.cell? _).isSome=true;rw[hB.cell,eB<|by rw[mL];omega]
  rfl
 obtain⟨W1,zx⟩:∃W1,W1=w.drew.setCells g (0+k) aBp:=⟨_,rfl⟩
 have BB:mV W1 g 73 (sd aBl (0+k) aBp):=by rw[zx];exact hB.drew.setCells _ _
 have oz:∀ty,(Builtin.clear_ #[202] ty #[.slice (some ⟨g,(k+(n-(k+1))),none⟩) (n-(k+(n-(k+1)))) (cap-(k+(n-(k+1))))]).run prog W1=.ok (.tuple #[]) (W1.setCells g ((k+(n-(k+1)))) (Builtin.zeroCells #[.nilIface]<|n-(k+(n-(k+1)))).toList):=
  fun ty=>agf W1 _ _ ty _ AQ ayi (by simp[Value.cells,Value.oneCell']) g _ _ _ aa (fun j hj=>by
   rw[BB.cell,eB (by rw[uQ,mL];simp[Value.cells]at hj;omega)];rfl) (fun j _=>BB.frozen _)
 have HW:=Lib.hid zx;have R4:=Lib.hid BB;have hkc:k<=cap:=aa;have aoC:k+1<=cap:=aa;have e1:IntKind.i64.wrap ((k:Int)+1)=(k:Int)+1:=by rw[il];omega
 have mK:((k:Int)==(k:Int)+1)=false:=by rw[beq_eq_false_iff_ne];omega
 have HX:=Lib.hid uv;have HN:=Lib.hid wF;have HL:=Lib.hid aBn;have K1:=Lib.hid mL;clear FV hB BB zx uL wF h h1 hg uv aBn mL
 go_enter func228,Tryz.ntmps228
 have hp0:(0:Int)<=(k:Int)+1:=aa;have Ax:(k:Int)+1<=(n:Int):=aa;have wG:((k:Int)+1).toNat=k+1:=aa;have hp3:(k:Int)<=(cap:Int):=aa
 go_wp2_with fail
 go_region_law (refine step_append_room rfl (.tmp 22) (.tmp 25) 202 rfl 73 i0 1 AQ pE pF g 0 k cap (by simp[Act.eval,Act.put]) A (n-(k+1)) (cap-(k+1)) aBp (by simp[Act.eval,Act.put]) (by rw[kv];exact s1.out) P7.out s2.out aa (by simp only[kv];exact s3.out) ?_;rw[kv,<-HW.out])
 go_wp2
 go_ret
 refine⟨.slice (some ⟨g,0,none⟩) (k+(n-(k+1))) cap,Z,⟨?_,.inr ⟨g,cap,sd (sd aBl (0+k) aBp) ((k+(n-(k+1)))) (Builtin.zeroCells #[.nilIface]<|n-(k+(n-(k+1)))).toList,by rw[show k+(n-(k+1))=n-1 by omega],Ai,R4.out.setCells _ _,aa,by simp only[maxLen];omega,?_,?_⟩⟩,?_,rfl⟩
 .have:=HL.out;rw[eA aa];omega
 .rw[uQ,uQ];exact K1.out
 .have:=al5 aBl xs aBp (Builtin.zeroCells #[.nilIface]<|n-(k+(n-(k+1)))).toList n k 1 HX.out HL.out aa (by rw[kv];exact HN.out) (by simp[Builtin.zeroCells];omega) (by rw[K1.out];omega);simp only[kv]at this|-;rw[this,dV]
 have hS:(fun k=>some k=(Value.slice (some ⟨g,0,none⟩) n cap).ownBlock) g\/w.heap.size<=g:=.inl rfl;refine mC.setCells hS _ _ ?_;rw[HW.out];exact mC.setCells hS _ _ (mC.refl _ w).drew
theorem G3(n lo hi:Int)(w:lE):Cq 104 #[Y n,Y lo,Y hi] w fun e w'=>e=.returned (.bool (qG n lo hi))/\w=w':=by
 have hI:=ly.start (fun _=>False) w;refine Vo func104 Z<|Wq<|V5 Z<|Wn ?_;by_cases h:lo<=n
 .refine Wq<|V0 Z<|V0 Z<|Tw Z<|V3 Z<|V0 Z<|V0 Z<|Wv Z (by exact Q8 rfl rfl rfl)<|Vg Z<|V5 Z<|Wn<|WR<|lV 6 Z ⟨?_,Z⟩;show Ending.returned (.bool<|decide (n<=hi))=_;simp[qG,h]
 refine Wq<|V0 Z<|V0 Z<|Ua Z<|V3 Z<|V2 Z<|V2 Z<|V2 Z<|Va Z<|V5 Z<|Wn<|WR<|lV 6 Z ⟨?_,Z⟩;show Ending.returned (.bool false)=_;simp[qG,h]
theorem Za(proc key:Int)(A:lO)(n c:Nat)(l:mq)(D:lF)(w0:lE)(h:pL w0 D (.slice A n c) l)(hl:l.length=n)(hn:n<=1000):
  Cq 103 #[Y proc,Y key,.slice A n c] w0 fun e w'=>e=.returned (.bool<|xD proc key l)/\w0=w':=by
 have hI:=ly.start (fun _=>False) w0;refine Vo func103 Z<|Wq<|V5 Z<|Wn<|Ws<|Wq<|Vf Z<|Vp Z nz Z<|V0 Z<|Wn<|Wb ?_;refine zk (fun ρ w=>∃k:Nat,k<=n/\lA ρ [(11,Y k),(10,Y n),(9,.slice A n c),(0,Y proc),(1,Y key)]/\(∀y∈l.take k,qG y (-1000000) 1000000)/\w=w0) (fun ρ _=>n-cnt (ρ 11))
  ⟨0,aa,⟨rfl,rfl,rfl,rfl,rfl,trivial⟩,aq,rfl⟩ ?_
 rintro ρ w ⟨k,hk,hH,mI,rfl⟩;obtain⟨σ,rfl⟩:=hH.open;by_cases nC:k<n
 .obtain⟨b,o,rfl,_,_,hc⟩:=h.get (k:=k) aa;have hx:l[k]?=some l[k]:=nM aa;refine Wq<|Vt Z<|Yu Z<|Wk<|Ws<|Wb<|Wq<|Uq Z nz Z<|V4 (Y _) Z (hI.my hc)<|Vb Z<|Wn<|Wq<|V0 Z<|V7 [Y _,Y _,Y _] Z func104 Z<|(G3 _ _ _ _).mono ?_;rintro e w1 ⟨rfl,rfl⟩;apply rV;cases hb:qG l[k] (-1000000) 1000000 with
  |true=>
   refine Th Z<|Yf Z<|Wk<|Wr<|Vx Z<|V0 Z<|Wn ⟨⟨k+1,aa,ug,fun y hy=>?_,rfl⟩,by show n-((k+1:Nat):Int).toNat<n-(k:Int).toNat;omega⟩;rw[dT aa]at hy;rcases jc.1 hy with hy|hy
   .exact mI y hy
   rw[gF.1 hy];exact hb
  |false=>
   refine Tm Z<|Yt Z<|Wq<|V5 Z<|Wn<|WR<|lV 6 Z ⟨?_,Z⟩;have hf:(l.all fun n=>qG n (-1000000) 1000000)=false:=by rw[List.all_eq_false];exact⟨l[k],iw _,by simp[hb]⟩
   show Ending.returned (.bool false)=_;simp[xD,hf]
 refine Wq<|Vq Z<|Yg Z<|WE ?_;have nG:(l.all fun n=>qG n (-1000000) 1000000):=by rw[fq aa]at mI;exact iq.2 mI
 have ht:xD proc key l=(qG proc 0 7&&qG key 0 7):=by simp[xD,nG]
 rw[ht];refine Wq<|V0 Z<|V7 [Y _,Y _,Y _] Z func104 Z<|(G3 _ _ _ _).mono ?_;rintro e w1 ⟨rfl,rfl⟩;apply rV;cases hb:qG proc 0 7 with
 |true=>refine V3 Z<|V0 Z<|V7 [Y _,Y _,Y _] Z func104 Z<|(G3 _ _ _ _).mono ?_;rintro e w1 ⟨rfl,rfl⟩;exact rV<|Vg Z<|V5 Z<|Wn<|WR<|lV 6 Z ⟨Z,Z⟩
 |false=>exact V3 Z<|V2 Z<|V2 Z<|Va Z<|V5 Z<|Wn<|WR<|lV 6 Z ⟨Z,Z⟩
theorem Xh{g T:Nat}{l:mq}{cs:lW}(hb:mV w g T cs)(h:cs.toList=l.map (Value.int .i64))(hn:l.length=n)(aBm:n<=1000):pL w (fun k=>k<w.heap.size) (me g 0 n n) l:=by subst hn;exact⟨_,_,Z,ku _,aa,aq,fun _=>⟨g,0,rfl,hb.lt,fun j u hj=>by rw[kg,hb.cell];rw[<-h]at hj;simpa using hj⟩⟩
def G5(e:Ev):Int:=if xD e.proc e.key [e.a,e.b,e.res]=true then 1 else 2
def ah6(w:lE)(e:Ev)(en:Ending)(w':lE):Prop:=Pure w w'/\((xd e=true/\en=.returned .nilIface)\/(xd e=false/\en=.returned (.iface 36 (.int .i64 (G5 e)))))
theorem ajI(e:Ev)(w0:lE):Cq 65 #[.agg (nu e).toArray] w0 (ah6 w0 e):=by
 obtain⟨p,ty,ky,kd,a,b,r⟩:=e;have hI:=ly.start (fun _=>False) w0;refine Vo func65 Z<|Wq<|Tg (.agg _) (#[_,_,_,_,_,_,_]) hI Z ?_;rintro b1 w- -hI;refine Vh Z<|Wn<|Ws<|Wb<|Wq<|V6 0 Z<|Yc hI Z Z<|V6 2 Z<|Yc hI Z Z<|V6 4 Z<|Yc hI Z Z<|V6 5 Z<|Yc hI Z Z<|V6 6 Z<|Yc hI Z Z<|T7 [(0,Y _),(1,Y _),(2,Y _)] [_,_,_] [Y 0,Y 0,Y 0] [0,1,2] hI Z nz (fun _=>ai) ?_;rintro IU w- -hI;refine V7 [Y _,Y _,.slice _ _ _] Z func103 Z<|(Za p ky _ 3 3 [a,b,r] (fun k=>k<w.heap.size) _ (Xh hI.g0 Z Z aa) Z aa).mono ?_;rintro en w1 ⟨rfl,rfl⟩;apply rV;cases h1:xD p ky [a,b,r]with
 |false=>exact Tm Z<|V5 Z<|Yt Z<|Wq<|T9 Z pd Z<|Vn Z<|Wn<|WR<|lV 2 Z ⟨hI.pu,.inr ⟨by simp[xd,h1],by have he:G5 ⟨p,ty,ky,kd,a,b,r⟩=2:=(by simp[G5,h1]);rw[he];rfl⟩⟩|true=>
  refine Th Z<|V5 Z<|Yf Z<|Wx (fun ρ w=>lA ρ [(18,.bool<|!(qG ty 1 4&&qG kd 1 12&& !(!decide (r=0)&& !decide (ty=2))))]/\ly NF w0 w []) ?_ ?_
  .refine Wq<|V6 1 Z<|Yd hI Z Z<|V7 [Y _,Y _,Y _] Z func104 Z<|(G3 _ _ _ _).mono ?_;rintro en w1 ⟨rfl,rfl⟩;apply rV;cases h2:qG ty 1 4 with
   |false=>exact Tm Z<|V3 Z<|V2 Z<|V2 Z<|V2 Z<|V2 Z<|Vg Z<|V5 Z<|Yt Z<|Wk ⟨zu,hI.d0.d0⟩|true=>
    refine Th Z<|V3 Z<|V6 3 Z<|Yd hI Z Z<|V7 [Y _,Y _,Y _] Z func104 Z<|(G3 _ _ _ _).mono ?_;rintro en w1 ⟨rfl,rfl⟩;apply rV;cases h3:qG kd 1 12 with
    |false=>exact Tm Z<|Va Z<|V5 Z<|Yt Z<|Wk ⟨zu,hI.d0.d0⟩|true=>
     refine Th Z<|Va Z<|V5 Z<|Yf Z ?_;by_cases hr:r=0
     .refine Wr<|V6 6 Z<|Yd hI Z Z<|U3 Z<|V3 Z<|V2 Z<|V2 Z<|V2 Z<|Va Z<|V5 Z<|Wn ⟨⟨?_,trivial⟩,hI.d0.d0⟩;show Value.bool false=_;simp[hr]
     refine Wr<|V6 6 Z<|Yd hI Z Z<|Ug Z<|V3 Z<|V6 1 Z<|Yd hI Z Z<|Wv Z (by exact Rc rfl rfl rfl)<|Vg Z<|V5 Z<|Wn ⟨⟨?_,trivial⟩,hI.d0.d0⟩;show Value.bool (!decide (ty=2))=_;simp[hr]
  rintro ρ w ⟨hH,hI⟩;obtain⟨σ,rfl⟩:=hH.open;have nG:xd ⟨p,ty,ky,kd,a,b,r⟩=(qG ty 1 4&&qG kd 1 12&& !(!decide (r=0)&& !decide (ty=2))):=by unfold xd;simp only[h1,jI]
  cases hz:(qG ty 1 4&&qG kd 1 12&& !(!decide (r=0)&& !decide (ty=2)))with
  |false=>exact Wc true Z<|Wq<|T9 Z pd Z<|Vn Z<|Wn<|WR<|lV 2 Z ⟨hI.pu,.inr ⟨by rw[nG,hz],by have he:G5 ⟨p,ty,ky,kd,a,b,r⟩=1:=(by simp[G5,h1]);rw[he];rfl⟩⟩|true=>exact Wc false Z<|Wk<|Wq<|Vh Z<|Wn<|WR<|lV 2 Z ⟨hI.pu,.inl ⟨by rw[nG,hz],Z⟩⟩
def JG:List Int:=[0,14,48,448,1536,1536,6144]
abbrev wW(w:World):Prop:=∀i,i<7->w.cell? ⟨2,i,none⟩=some (.int .i64 (JG.getD i 0))
theorem wW.pure(h:wW w)(hp:Pure w w'):wW w':=fun i hi=>((ly.start (fun _=>False) w).pure hp).my (h i hi)
theorem aqH(o k:Int)(h1:1<=o)(h2:o<=6)(h3:1<=k)(h4:k<=12):decide (IntKind.i64.wrap ((BitVec.ofInt 64 ((JG.getD o.toNat 0).fdiv (2 ^ min k.toNat 64))&&& BitVec.ofInt 64 1).toNat:Int)=1)=zG o k:=by have ho:o=1\/o=2\/o=3\/o=4\/o=5\/o=6:=aa;have hk:k=1\/k=2\/k=3\/k=4\/k=5\/k=6\/k=7\/k=8\/k=9\/k=10\/k=11\/k=12:=aa;rcases ho with rfl|rfl|rfl|rfl|rfl|rfl<;>rcases hk with rfl|rfl|rfl|rfl|rfl|rfl|rfl|rfl|rfl|rfl|rfl|rfl<;>decide+kernel
theorem adP(o k:Int)(h:o<1\/6<o\/k<1\/12<k):zG o k=false:=by
 unfold zG;have e:∀a b:Int,(a==b)=decide (a=b):=fun a b=>rfl;simp only[e];rcases h with h|h|h|h
 .rw[jo (show o≠1 by omega),jo (show o≠2 by omega),jo (show o≠3 by omega),jo (show o≠4 by omega),jo (show o≠5 by omega),jo<|show o≠6 by omega];rfl
 .rw[jo (show o≠1 by omega),jo (show o≠2 by omega),jo (show o≠3 by omega),jo (show o≠4 by omega),jo (show o≠5 by omega),jo<|show o≠6 by omega];rfl
 .rw[jo (show k≠1 by omega),jo (show k≠2 by omega),jo (show k≠3 by omega),jo (show k≠4 by omega),jo (show k≠5 by omega),jo (show k≠6 by omega),jo (show k≠7 by omega),jo (show k≠8 by omega),jo (show k≠9 by omega),jo (show k≠10 by omega),jo (show k≠11 by omega),jo<|show k≠12 by omega];simp
 rw[jo (show k≠1 by omega),jo (show k≠2 by omega),jo (show k≠3 by omega),jo (show k≠4 by omega),jo (show k≠5 by omega),jo (show k≠6 by omega),jo (show k≠7 by omega),jo (show k≠8 by omega),jo (show k≠9 by omega),jo (show k≠10 by omega),jo (show k≠11 by omega),jo<|show k≠12 by omega];simp
theorem JH(o k:Int)(w0:lE)(hk:wW w0):Cq 131 #[Y o,Y k] w0 fun en w'=>en=.returned (.bool (zG o k))/\Pure w0 w':=by
 have hI:=ly.start (fun _=>False) w0;refine Vo func131 Z<|Wq<|V5 Z<|Wn ?_;by_cases h1:o<1
 .exact Wq<|V0 Z<|Ua Z<|V3 Z<|V2 Z<|V2 Z<|Va Z<|V3 Z<|V2 Z<|V2 Z<|Va Z<|V3 Z<|V2 Z<|V2 Z<|Va Z<|V3 Z<|V2 Z<|V2 Z<|V2 Z<|V2 Z<|V2 Z<|V2 Z<|V2 Z<|Va Z<|V5 Z<|Wn<|WR<|lV 4 Z ⟨cy,hI.pu⟩
 by_cases h2:6<o
 .exact Wq<|V0 Z<|Tw Z<|V3 Z<|V0 Z<|Wv Z bd<|Vg Z<|V3 Z<|V2 Z<|V2 Z<|Va Z<|V3 Z<|V2 Z<|V2 Z<|Va Z<|V3 Z<|V2 Z<|V2 Z<|V2 Z<|V2 Z<|V2 Z<|V2 Z<|V2 Z<|Va Z<|V5 Z<|Wn<|WR<|lV 4 Z ⟨cy,hI.pu⟩
 by_cases h3:k<1
 .exact Wq<|V0 Z<|Tw Z<|V3 Z<|V0 Z<|Wv Z aU<|Vg Z<|V3 Z<|V0 Z<|Ua Z<|Vg Z<|V3 Z<|V2 Z<|V2 Z<|Va Z<|V3 Z<|V2 Z<|V2 Z<|V2 Z<|V2 Z<|V2 Z<|V2 Z<|V2 Z<|Va Z<|V5 Z<|Wn<|WR<|lV 4 Z ⟨cy,hI.pu⟩
 by_cases h4:12<k
 .exact Wq<|V0 Z<|Tw Z<|V3 Z<|V0 Z<|Wv Z aU<|Vg Z<|V3 Z<|V0 Z<|Tw Z<|Vg Z<|V3 Z<|V0 Z<|Wv Z bd<|Vg Z<|V3 Z<|V2 Z<|V2 Z<|V2 Z<|V2 Z<|V2 Z<|V2 Z<|V2 Z<|Va Z<|V5 Z<|Wn<|WR<|lV 4 Z ⟨cy,hI.pu⟩
 have hc:w0.cell? ⟨2,0+o.toNat*1,none⟩=some (Y<|JG.getD o.toNat 0):=by rw[kg,kv];exact hk o.toNat aa
 refine Wq<|V0 Z<|Tw Z<|V3 Z<|V0 Z<|Wv Z aU<|Vg Z<|V3 Z<|V0 Z<|Tw Z<|Vg Z<|V3 Z<|V0 Z<|Wv Z aU<|Vg Z<|V3 Z<|V0 Z<|Wv Z (EJ (sz:=1) (i:=o.toNat) Z underlying270 ai Z Z aa aa)<|V4 (Y _) Z (hI.my hc)<|V0 Z<|Wv Z (atO Z Z Z aa)<|Wv Z (afg (r:=fun p q=>p&&& q) Z Z Z Z)<|Wv Z (by exact EI rfl rfl rfl)<|Vg Z<|V5 Z<|Wn<|WR<|lV 4 Z ⟨?_,hI.pu⟩;rw[<-aqH o k aa aa aa aa]
 rfl
theorem Ro(o:Int)(w0:lE):Cq 132 #[Y o] w0 fun en w'=>en=.returned (.bool (AN o))/\Pure w0 w':=by
 have hI:=ly.start (fun _=>False) w0;refine Vo func132 Z<|Wq<|V5 Z<|Wn ?_;by_cases h1:o=1
 .subst h1;exact Wq<|V0 Z<|Vz Z<|V3 Z<|V2 Z<|V2 Z<|Vg Z<|V3 Z<|V2 Z<|V2 Z<|Vg Z<|V5 Z<|Wn<|WR<|lV 2 Z ⟨Z,hI.pu⟩
 by_cases h2:o=2
 .subst h2;exact Wq<|V0 Z<|Vv Z<|V3 Z<|V0 Z<|Vz Z<|Va Z<|V3 Z<|V2 Z<|V2 Z<|Vg Z<|V5 Z<|Wn<|WR<|lV 2 Z ⟨Z,hI.pu⟩
 have e:AN o=decide (o=6):=by unfold AN;have e:∀a b:Int,(a==b)=decide (a=b):=fun a b=>rfl;simp only[e];rw[jo h1,jo h2];rfl
 by_cases h6:o=6
 .exact Wq<|V0 Z<|Vv Z<|V3 Z<|V0 Z<|Vv Z<|Va Z<|V3 Z<|V0 Z<|Vz Z<|Va Z<|V5 Z<|Wn<|WR<|lV 2 Z ⟨by rw[e,jB h6];rfl,hI.pu⟩
 exact Wq<|V0 Z<|Vv Z<|V3 Z<|V0 Z<|Vv Z<|Va Z<|V3 Z<|V0 Z<|Vv Z<|Va Z<|V5 Z<|Wn<|WR<|lV 2 Z ⟨by rw[e,jo h6];rfl,hI.pu⟩
theorem ED(b:Bool)(w0:lE):Cq 151 #[.bool b] w0 fun en w'=>en=.returned (Y (Gj b))/\Pure w0 w':=by
 have hI:=ly.start (fun _=>False) w0;refine Vo func151 Z<|Wq<|Vb Z<|Wn<|Ws<|Wq<|V3 Z<|Wn ?_;cases b with
 |true=>exact Wc true Z<|Wq<|Vb Z<|Wn<|WR<|lV 2 Z ⟨Z,hI.pu⟩|false=>exact Wc false Z<|Wk<|Wq<|Vb Z<|Wn<|WR<|lV 2 Z ⟨Z,hI.pu⟩
theorem aud(n k a b:Int)(w0:lE):Cq 149 #[Y n,Y k,Y a,Y b] w0 fun en w'=>en=.returned (.tuple #[Y (Cb n k a b).1,Y (Cb n k a b).2])/\Pure w0 w':=by
 have hI:=ly.start (fun _=>False) w0;refine Vo func149 Z<|Wq<|Vb Z<|Vb Z<|Wn<|Ws<|Wb ?_;by_cases h1:k=1
 .exact Wq<|V0 Z<|Vz Z<|V5 Z<|Yt Z<|Wq<|V0 Z<|V0 Z<|Vb Z<|Vb Z<|Wn<|WR<|nD 8 9 Z ⟨by unfold Cb;rw[lq h1];rfl,hI.pu⟩
 refine Wq<|V0 Z<|Vv Z<|V5 Z<|Yf Z ?_;by_cases h2:k=2
 .exact Wq<|V0 Z<|Vz Z<|V5 Z<|Yt Z<|Wq<|V0 Z<|Vb Z<|Vb Z<|Wn<|WR<|nD 8 9 Z ⟨by unfold Cb;rw[lp h1,lq h2];rfl,hI.pu⟩
 refine Wq<|V0 Z<|Vv Z<|V5 Z<|Yf Z ?_;by_cases h3:n=a
 .exact Wq<|V0 Z<|V0 Z<|Vz Z<|V5 Z<|Yt Z<|Wq<|V0 Z<|Vb Z<|Vb Z<|Wn<|WR<|nD 8 9 Z ⟨by unfold Cb;rw[lp h1,lp h2,lq h3];rfl,hI.pu⟩
 exact Wq<|V0 Z<|V0 Z<|Vv Z<|V5 Z<|Yf Z<|Wk<|Wq<|V0 Z<|Vb Z<|Vb Z<|Wn<|WR<|nD 8 9 Z ⟨by unfold Cb;rw[lp h1,lp h2,lp h3];rfl,hI.pu⟩
abbrev mM(A:Option Addr)(c:Nat)(st:List Int):lN:=lz 0 3 1 A st.length c (mW st)
theorem awH(o:Int)(w0:lE):Cq 106 #[Y o] w0 fun en w'=>∃A c,en=.returned (.slice A (qv o).length c)/\ly NF w0 w' [mM A c (qv o)]:=by
 have hI:=ly.start (fun _=>False) w0;refine Vo func106 Z<|Wq<|Vm Z<|Wn<|Ws<|Wq<|V0 Z<|V7 [Y _] Z func132 Z<|(Ro o _).mono<|pJ hI fun w1 hp hI=>Wn ?_;cases hs:AN o with
 |true=>
  have e:qv o=[0]:=by unfold qv;rw[hs];rfl
  refine Wc true Z<|Wq<|T7 [(0,Y _)] [_] [Y 0] [0] hI Z nz (fun _=>ai) ?_;rintro b5 w- -hI;refine Vm Z<|Wn<|WR<|lV 2 Z ⟨some ⟨b5,0,none⟩,1,cC,?_⟩;rw[e];have hb:=hI.g0;exact hI.u0 (e':=mM (some ⟨b5,0,none⟩) 1 [0]) (mC.refl _ _) (lz.HZ hb (kz _) Z aw)<|fun k hk=>.inl (by have:some b5=some k:=hk;injection this with this;exact this.symm)
 |false=>
  have e:qv o=[]:=by unfold qv;rw[hs];rfl
  refine Wc false Z<|Wk<|Wq<|Vm Z<|Wn<|WR<|lV 2 Z ⟨none,0,cC,?_⟩;rw[e];exact hI.fresh (Pure.refl _) (lz.nil _ 0 3 1) (fun k hk=>by simp[lz]at hk)
section
variable{S:lF}{w0 w w':lE}{H H':List lN}{e e':lN}
theorem ly.J9(h:e.ok w):ly e.D w w [e]:=⟨mC.refl _ w,fun x hx=>by rcases gF.1 hx with rfl;exact h,fun x hx k hk=>by rcases gF.1 hx with rfl;exact .inl hk,eZ ..⟩
theorem ly.one(hc:mC e.D w w')(ho:e'.ok w')(hD:∀k,e'.D k->e.D k\/w.heap.size<=k):ly e.D w w' [e']:=⟨hc,fun x hx=>by rcases gF.1 hx with rfl;exact ho,fun x hx k hk=>by rcases gF.1 hx with rfl;exact hD k hk,eZ ..⟩
theorem ly.axc(h:ly S w0 w (e::H))(h':ly e.D w w' H'):ly S w0 w' (H'++H):=by
 have he:=h.ok e aq;have hp:=gG.1 h.apart;refine⟨h.ni.trans' h'.ni fun k sG nO=>?_,fun x hx=>?_,fun x hx k hk=>?_,fW.2 ⟨h'.apart,hp.2,fun a ha b hb k h1 h2=>?_⟩⟩
 .rcases h.own e aq k nO with h1|h1
  .exact h1
  omega
 .rcases jc.1 hx with hx|hx
  .exact h'.ok x hx
  exact(h.ok x<|by simp[hx]).ni h'.ni<|fun k hk nO=>hp.1 x hx k nO hk
 .rcases jc.1 hx with hx|hx
  .rcases h'.own x hx k hk with h1|h1
   .exact h.own e aq k h1
   exact .inr<|j5 h.ni.size h1
  exact h.own x (by simp[hx]) k hk
 rcases h'.own a ha k h1 with h3|h3
 .exact hp.1 b hb k h3 h2
 have:=(h.ok b<|by simp[hb]).2.1 k h2;omega
theorem ly.Dq{a:lN}(h:ly S w0 w (e::H))(h':ly e.D w w' [a]):ly S w0 w' (a::H):=h.axc h'
end
theorem NG{e:Nat}{xs:mb}(h:w.ownsRow 0 e 1 (.slice A n c) n xs):(A=none/\n=0/\c=0/\xs=[])\/∃g aBl,A=some ⟨g,0,none⟩/\mV w g e aBl/\n<=c/\c<=9223372036854775807/\aBl.size=c/\aBl.toList.take n=xs:=by
 obtain⟨hl,⟨hv,hn⟩|⟨g,cap,aBl,hv,_,hb,h1,h2,h3,h4⟩⟩:=h
 .injection hv with e1 e2 e3;subst e1 e3 hn;exact .inl ⟨Z,Z,Z,dX<|by simpa using hl⟩
 injection hv with e1 e2 e3;subst e1 e3;exact .inr ⟨g,aBl,Z,hb,h1,by simpa[maxLen]using h2,aa,by simpa using h4⟩
theorem Gs{e g:Nat}{aBl:lW}{xs:mb}(hb:mV w g e aBl)(h1:n<=c)(h2:c<=9223372036854775807)(h3:aBl.size=c)(h4:aBl.toList.take n=xs):(lz 0 e 1 (some ⟨g,0,none⟩) n c xs).ok w:=lz.ok ⟨by rw[<-h4];simp;omega,.inr ⟨g,c,aBl,rfl,kz _,hb,h1,by simpa[maxLen]using h2,aa,by simpa using h4⟩⟩
theorem Xg{α:Type}(xs:List α)(i:Nat)(v:α)(hi:i<=xs.length)(j:Nat):(xs.take i++v::xs.drop i)[j]?=if j<i then xs[j]? else if j=i then some v else xs[j-1]?:=by
 have hl:(xs.take i).length=i:=aF;by_cases h1:j<i
 .rw[lq h1,eH aa,eM h1]
 rw[lp h1,ey aa,hl];by_cases h2:j=i
 .rw[lq h2,h2,j8,eU]
 rw[lp h2,show j-i=(j-i-1)+1 by omega,eT,gB,show i+(j-i-1)=j-1 by omega]
theorem NR{aBl:lW}{ys:mb}(hy:ys.length=n)(h:∀j,j<n->aBl[j]?=ys[j]?):aBl.toList.take n=ys:=by
 refine gS fun j=>?_;by_cases hj:j<n
 .rw[eM hj,fx,h j hj]
 rw[fF aF,fF aa]
theorem O8{aBl:lW}{xs:mb}(h:aBl.toList.take n=xs){j:Nat}(hj:j<n):aBl[j]?=xs[j]?:=by rw[<-h,eM hj,fx]
theorem aex(l:mq):∀v∈mW l,v.oneCell':=by
 intro v hv;obtain⟨z,_,rfl⟩:=jZ.1 hv
 rfl
theorem M6(l:mq)(i:Nat)(a:Int):mW (l.take i++a::l.drop i)=(mW l).take i++Y a::(mW l).drop i:=by simp[mW,List.map_take,List.map_drop]
theorem N0(n:Nat):(Builtin.zeroCells (Value.int .i64 0).cells n).size=n:=by simp[Builtin.zeroCells,Value.cells]
theorem aap{g t:Nat}{cs:lW}(h:mV w g t cs):w.shape? g=some (t,cs.size):=by unfold World.shape?;rw[show w.heap[g]?=_ from h]
theorem aqp(A:lO)(c:Nat)(l:mq)(i:Nat)(a:Int)(vb:Nat)(w:lE)(hR:(mM A c l).ok w)(hi:i<=l.length)(hv:mV w vb 3 #[Y a])(mK:A.map (·.block)≠some vb)(anD:l.length+1<=1000000):
  Cq 164 #[.slice A l.length c,lI i,me vb 0 1 1] w fun en w'=>∃A' c',en=.returned (.slice A' (l.length+1) c')/\ly (mM A c l).D w w' [mM A' c' (l.take i++a::l.drop i)]:=by
 have aBn:(l.take i++a::l.drop i).length=l.length+1:=aF;have BV:(mW l).length=l.length:=by simp[mW]
 have AB:∀(j:Nat) (v:lH),[Value.int .i64 a][j]?=some v->w.cell? ⟨vb,0+j,none⟩=some v:=fun j v hj=>by rw[kg,hv.cell];simpa using hj
 have LV:∀v∈[Value.int .i64 a],v.oneCell':=by intro v hv;simp at hv;subst hv;rfl
 rcases NG hR.1 with⟨rfl,hn,rfl,hx⟩|⟨g,aBl,rfl,hb,h1,h2,h3,h4⟩
 .have hl:l=[]:=dX hn;subst hl;obtain rfl:i=0:=by simpa using hi
  refine(Any2.slices_Insert_int_end_grow lays2_21 none 0 0 vb 0 1 1 [] [Y a] w aa aa aa aa Z Z (fun _=>Z) (fun a h=>by cases h) AB LV).mono ?_;rintro e w' ⟨rfl,rfl⟩;have oh:=kC w (0+1) 0<|Tryz.lays2_21_ren.t 3;have aBm:=gM w (0+1) 0 (Tryz.lays2_21_ren.t 3) aw;generalize grownCap w (0+1) 0 (Tryz.lays2_21_ren.t 3)=gc at oh aBm|-;refine⟨_,_,Z,ly.one ((mC.pure (mC.refl _ w) (Pure.refl w).drew).pure<|(Pure.refl _).alloc _) (Gs (mV.new _ _ _) oh dB ?_ ?_)<|fun k hk=>.inr ?_⟩
  .rw[gO,N0];simp;omega
  .simp[mW]
  have:some w.heap.size=some k:=hk;injection this with this;omega
 have mL:∀(j:Nat) (v:lH),(mW l)[j]?=some v->w.cell? ⟨g,0+j,none⟩=some v:=fun j v hj=>by have BN:=(oS hj).1;rw[kg,hb.cell,O8 h4 aa,hj]
 have aoV:vb≠g:=fun e=>mK (by subst e;rfl);rcases j6 i l.length with CQ|CQ
 .rcases j6 c (l.length+1)with vh|vh
  .refine(Any2.slices_Insert_int_grow lays2_21 g 0 l.length c i vb 0 1 1 (mW l) [Y a] w CQ aa h1 vh aa BV Z mL AB (aex l) LV).mono ?_;rintro e w' ⟨rfl,rfl⟩;have oh:=kC w (l.length+1) c<|Tryz.lays2_21_ren.t 3;have aBm:=gM w (l.length+1) c (Tryz.lays2_21_ren.t 3) (by simp[maxLen];omega);generalize grownCap w (l.length+1) c (Tryz.lays2_21_ren.t 3)=gc at oh aBm|-;refine⟨_,_,Z,ly.one (mC.setCells (.inr<|ku _) _ _<|(mC.setCells (.inr<|ku _) _ _<|(mC.pure (mC.refl _ w)<|(Pure.refl w).alloc _).pure (Pure.refl _).drew).pure (Pure.refl _).drew) (Gs ((((mV.new w 3 _).drew).setCells _ _).drew.setCells _ _) (by rw[aBn];exact oh) dB ?_ ?_)<|fun k hk=>.inr ?_⟩
   .rw[uQ,uQ];simp only[gO,N0,gY,iz,BV];omega
   .rw[M6];refine NR bU fun j hj=>?_;rw[aBn]at hj;rw[Xg _ _ _ aa,ET _ _ _ _ (by rw[uQ];simp only[gO,N0,gY,iz,iy,BV];omega),ET _ _ _ _<|by simp only[gO,N0,gY,iz,BV,ix,iZ];omega];simp only[iy,BV,ix,iZ];by_cases e1:j<i
    .rw[lp aa,lp aa,lq e1,Array.append_assoc,ef<|by simp[mW];omega];simp[e1]
    by_cases e2:j=i
    .subst e2;rw[lp aa,lq aa,lp aa,lq rfl,j8];rfl
    rw[lq aa,lp e1,lp e2,gB,show i+(j-(i+1))=j-1 by omega]
   have:some w.heap.size=some k:=hk;injection this with this;omega
  refine(Any2.slices_Insert_int_shift lays2_21 g 0 l.length c i vb 0 1 1 (mW l) [Y a] w CQ aa aa h2 aoV BV Z mL (fun j hj=>by rw[kg,hb.cell];simp;omega) (fun j _=>hb.frozen _) AB (aex l) LV 3 3 1 c (aap hv) (by rw[aap hb,h3]) aa (hv.frozen _)<|hv.frozen _).mono ?_;rintro e w' ⟨rfl,rfl⟩;refine⟨_,_,Z,ly.one (mC.setCells (S:=(mM (some ⟨g,0,none⟩) c l).D) (.inl Z) _ _<|mC.setCells (S:=(mM (some ⟨g,0,none⟩) c l).D) (.inl Z) _ _<|mC.pure (mC.refl _ w) (Pure.refl w).drew) (Gs ((hb.drew.setCells _ _).setCells _ _) (by rw[aBn];exact vh) h2 (by rw[uQ,uQ,h3]) ?_)<|fun k hk=>.inl hk⟩;rw[M6];refine NR bU fun j hj=>?_;rw[Xg _ _ _ aa,ET _ _ _ _ (by rw[uQ];simp;omega),ET _ _ _ _<|by simp[mW];omega];simp only[iy,BV,ix,iZ,kg];rw[aBn]at hj;by_cases e1:j<i
  .rw[lp aa,lp aa,lq e1,O8 h4 aa]
  by_cases e2:j=i
  .subst e2;rw[lq aa,lp aa,lq rfl,j8];rfl
  rw[lp aa,lq aa,lp e1,lp e2,gB,show i+(j-(i+1))=j-1 by omega]
 obtain rfl:i=l.length:=aa;rcases j6 c (l.length+1)with vh|vh
 .refine(Any2.slices_Insert_int_end_grow lays2_21 (some ⟨g,0,none⟩) l.length c vb 0 1 1 (mW l) [Y a] w aa h1 vh aa BV Z (fun h=>by cases h) (fun a h=>by injection h with h;subst h;intro j v hj;rw[jU];exact mL j v hj) AB LV).mono ?_;rintro e w' ⟨rfl,rfl⟩;have oh:=kC w (l.length+1) c<|Tryz.lays2_21_ren.t 3;have aBm:=gM w (l.length+1) c (Tryz.lays2_21_ren.t 3) (by simp[maxLen];omega);generalize grownCap w (l.length+1) c (Tryz.lays2_21_ren.t 3)=gc at oh aBm|-;refine⟨_,_,Z,ly.one ((mC.pure (mC.refl _ w) (Pure.refl w).drew).pure<|(Pure.refl _).alloc _) (Gs (mV.new _ _ _) (by rw[aBn];exact oh) dB ?_ ?_)<|fun k hk=>.inr ?_⟩
  .simp only[gO,N0,gY,gD,BV,ix,iZ];omega
  .rw[aBn,M6];have e1:(mW l).take l.length=mW l:=fq aa;have e2:(mW l).drop l.length=[]:=fo aa;rw[e1,e2,gg,dY<|by simp[BV]];exact fq (by simp[BV])
  have:some w.heap.size=some k:=hk;injection this with this;omega
 refine(Any2.slices_Insert_int_end_room lays2_21 g 0 l.length c vb 0 1 1 [Y a] w aa vh h2 Z (fun j hj=>by rw[hb.cell];simp;omega) (fun j _=>hb.frozen _) AB LV).mono ?_;rintro e w' ⟨rfl,rfl⟩;refine⟨_,_,Z,ly.one (mC.setCells (S:=(mM (some ⟨g,0,none⟩) c l).D) (.inl Z) _ _<|mC.refl _ w) (Gs (hb.setCells _ _) (by rw[aBn];exact vh) h2 (by rw[uQ,h3]) ?_)<|fun k hk=>.inl hk⟩;rw[M6];refine NR bU fun j hj=>?_;rw[Xg _ _ _ aa,ET _ _ _ _ aF];simp only[ix,iZ,kg];rw[aBn]at hj;by_cases e1:j<l.length
 .rw[lp aa,lq e1,O8 h4 e1]
 obtain rfl:j=l.length:=aa;rw[lq aa,lp aa,lq rfl,j8];rfl
section
variable{P:lY}{ρ:lB}{o:Oper}{w:lE}{x y:mN}{t t' e:lT}
theorem atT(ho:o.op=.binOp .eql t x (.const (.slice none 0 0)) t')(ht:P.underlying t=some (.slice e))(hx:ev ρ x=.slice none n c):lQ P ρ o w (.bool true):=by have h:=yh (P:=P) (w:=w) (t:=t) (x:=.slice none n c) (y:=.slice none 0 0) (r:=true) (fun d=>by simp[Op.equalIn,jD ht]);simp[lQ,execOp,ho,hx,show ev ρ (.const<|.slice none 0 0)=.slice none 0 0 from rfl,eqGuard,binOp,h]
theorem atS{p:Addr}(ho:o.op=.binOp .eql t x (.const (.slice none 0 0)) t')(ht:P.underlying t=some (.slice e))(hx:ev ρ x=.slice (some p) n c):lQ P ρ o w (.bool false):=by have h:=yh (P:=P) (w:=w) (t:=t) (x:=.slice (some p) n c) (y:=.slice none 0 0) (r:=false) (fun d=>by simp[Op.equalIn,jD ht]);simp[lQ,execOp,ho,hx,show ev ρ (.const<|.slice none 0 0)=.slice none 0 0 from rfl,eqGuard,binOp,h]
end
theorem Xb(l:mq):(mW l).length=l.length:=by simp[mW]
theorem aqe(l:mq):(mW l).all (·.oneCell'):=by simp[mW,Value.oneCell']
theorem SX(A:lO)(c:Nat)(l:mq)(D:lF)(w0:lE)(h:Rd w0 D 1 (.slice A l.length c) l.length (mW l))(hb:l.length<=1000000):
  Cq 19 #[.slice A l.length c] w0 fun en w'=>∃A' c',en=.returned (.slice A' l.length c')/\ly NF w0 w' [mM A' c' l]:=by
 obtain⟨A1,c1,hv,sn,qb,aBn,nU⟩:=h;injection hv with e1 e2 e3;subst e1 e3;have hI:=ly.start (fun _=>False) w0;refine Vo func19 Z<|Wq<|Vm Z<|Wn ?_;cases A with
 |none=>
  have hl:l=[]:=by
   rcases gJ l.length with h0|h0
   .exact dX h0
   have⟨b,o,qo,_⟩:=nU h0;cases qo
  subst hl;exact Ws<|Wq<|Vf Z<|Wv Z (atT Z nz Z)<|Yt Z<|Wq<|Vm Z<|Wn<|WR<|lV 2 Z ⟨none,0,Z,hI.fresh (Pure.refl _) (lz.nil _ 0 3 1)<|fun k hk=>by simp[lz]at hk⟩
 |some p=>
  refine Ws<|Wq<|Vf Z<|Wv Z (atS Z nz Z)<|Yf Z<|Wk<|Wq<|T7 [] [] [] [] hI Z nz (fun _=>ai) ?_;rintro b5 w- -hI;apply Vf Z;replace hI:ly NF w0 w [mM (some ⟨b5,0,none⟩) 0 []]:=hI.u0 (e':=mM (some ⟨b5,0,none⟩) 0 []) (mC.refl _ _) (Gs hI.g0 (ku _) aa rfl rfl)<|fun k hk=>.inl (by have:some b5=some k:=hk;injection this with this;exact this.symm);rcases gJ l.length with h0|h0
  .have hl:l=[]:=dX h0;subst hl;exact Wv Z (QZ Z nz (sz:=1) ai Z Z<|ku _)<|Vm Z<|Wn<|WR<|lV 2 Z ⟨_,_,Z,hI⟩
  have⟨b,o,qo,_,oz⟩:=nU h0;injection qo with qo;subst qo;refine K8 (z:=Y 0) (by_:=8) (aBp:=mW l) hI Z Z Z Z Z Z nz ai Z aa (by rw[Xb];omega) (fun k u hk=>hI.my<|oz k u hk) (aqe l) aF aF (kz _) ?_;rintro A2 c2 w _ _ hI;refine Vm Z<|Wn<|WR<|lV 2 Z ⟨A2,c2,?_,?_⟩
  .show Ending.returned (.slice A2 (0+l.length) c2)=_;rw[kg]
  have h':ly NF w0 w [lz 0 3 1 A2 (0+l.length) c2 ([]++mW l)]:=hI;rw[kg,je]at h';exact h'
theorem ain{l:mq}(h:(mM A c l).Φ w):Rd w (fun _=>True) 1 (.slice A l.length c) l.length (mW l):=Rd.wP (D:=fun _=>True) h (fun _ _ _=>trivial)
theorem ajy(A:lO)(c:Nat)(l:mq)(a:Int)(w:lE)(h:(mM A c l).ok w)(hs:l.Pairwise (· < ·))(hb:l.length<=1000000):
  Cq 163 #[.slice A l.length c,Y a] w fun en w'=>en=.returned (.tuple #[Y ((r9 l a:Nat):Int),.bool<|decide (a∈l)])/\Pure w w':=by
 rcases gJ l.length with h0|h0
 .have hl:l=[]:=dX h0;subst hl;refine(Any.slices_BinarySearch_int_empty lays2_25 A c a w).mono ?_;rintro e w' ⟨rfl,rfl⟩;exact⟨Z,Pure.refl _⟩
 obtain⟨b,o,rfl⟩:=Ri h.1 h0 aa;refine(Any.slices_BinarySearch_int lays2_25 b o l.length c l a w (ku _) aa (fun j hj=>?_) ?_).mono ?_
 .exact EO h.1 (by simp[mW,nM hj]) h0
 .rw[fq (ku _)];exact hs.imp<|fun h=>aa
 rintro e w' ⟨rfl,q,rfl⟩;refine⟨?_,(Pure.refl w).drewN q⟩;rw[fq (ku _)];have e1:List.countP (fun x=>decide (x<a)) l=r9 l a:=by unfold r9;rw[List.countP_eq_length_filter]
 have e2:l.contains a=decide (a∈l):=by rw[iO];simp
 rw[e1,e2]
theorem akZ(A:lO)(c:Nat)(l:mq)(i:Nat)(w:lE)(hR:(mM A c l).ok w)(hi:i<l.length)(anD:l.length<=1000000):
  Cq 165 #[.slice A l.length c,lI i,Y ((i+1:Nat):Int)] w fun en w'=>en=.returned (.slice A (l.length-1) c)/\ly (mM A c l).D w w' [mM A c (l.take i++l.drop (i+1))]:=by
 have aBn:(l.take i++l.drop (i+1)).length=l.length-1:=aF;rcases NG hR.1 with⟨rfl,hn,rfl,hx⟩|⟨g,aBl,rfl,hb,h1,h2,h3,h4⟩
 .omega
 refine(Any.slices_Delete_int_cells lays2_23 g 0 l.length c i (i+1) l w (ku _) h1 h2 aa aa (fun j hj=>?_)<|fun j _=>hb.frozen _).mono ?_
 .exact EO hR.1 (by simp[mW,nM hj]) aa
 rintro e w' ⟨rfl,q,rfl⟩;refine⟨by rw[Nat.add_sub_cancel_left],ly.one (mC.setCells (S:=(mM (some ⟨g,0,none⟩) c l).D) (.inl Z) _ _<|(mC.refl _ w).drewN q) (Gs ((hb.drewN q).setCells _ _) (by rw[aBn];omega) h2 (by rw[uQ,h3]) ?_)<|fun k hk=>.inl hk⟩;rw[fq (ku _)];refine NR (Xb _) fun j hj=>?_;rw[ET _ _ _ _ aF,lq aF];simp only[mW,jb,Nat.sub_zero];rw[eH aF]
theorem ZN{l:mq}(h:(mM A c l).ok w)(k:Nat)(hk:k<=l.length):(mM A c (l.take k)).ok w:=by
 rcases NG h.1 with⟨rfl,hn,rfl,hx⟩|⟨g,aBl,rfl,hb,h1,h2,h3,h4⟩
 .have hl:l=[]:=dX hn;subst hl;rw[List.take_nil];exact h
 refine Gs hb aF h2 h3<|NR (Xb _) fun j hj=>?_;have qE:j<k:=by simp at hj;omega
 rw[O8 h4 aa];simp[mW,eM qE]
theorem au1(A:lO)(c:Nat)(l:mq)(k a:Int)(w0:lE)(h:(mM A c l).ok w0)(hs:l.Pairwise (· < ·))(hb:l.length<=100000):
  Cq 150 #[.slice A l.length c,Y k,Y a] w0 fun en w'=>∃A' c',en=.returned (.tuple #[.slice A' (tJ l k a).1.length c',Y (tJ l k a).2])/\ly (mM A c l).D w0 w' [mM A' c' (tJ l k a).1]:=by
 have hI:=ly.J9 h;have MH:=ae0 l a;refine Vo func150 Z<|Wq<|Vm Z<|Vb Z<|Wn<|Wq<|Vf Z<|V0 Z<|V7 [.slice _ _ _,Y _] Z func163 Z<|(ajy A c l a _ (hI.ok _ aq) hs aa).mono<|pJ hI fun w1 hp hI=>Vy Z<|Vi Z<|Vi Z<|Vb Z<|V5 Z<|Wn<|Ws<|Wb ?_;by_cases hm:a∈l
 .rw[jB hm];have lX:r9 l a<l.length:=by
   rcases j6 (r9 l a) l.length with h1|h1
   .exact h1
   have⟨h2,h3⟩:=XS l a hs;rw[fq h1]at h2;have:=h2 a hm;omega
  by_cases k7:k=7
  .have e:tJ l k a=(FB l a,1):=by unfold tJ;rw[lp aa,lq ⟨k7,hm⟩]
   refine Wq<|V0 Z<|Vv Z<|V3 Z<|V2 Z<|V2 Z<|Va Z<|V5 Z<|Yf Z<|Wq<|V0 Z<|Vz Z<|V3 Z<|V3 Z<|Vg Z<|V5 Z<|Yt Z<|Wq<|Vf Z<|V0 Z<|V0 Z<|Vx Z<|V7 [.slice _ _ _,Y _,Y _] Z func165 Z<|(akZ A c l (r9 l a) _ (hI.ok _ aq) lX aa).mono ?_;rintro e w1 ⟨rfl,hT⟩;apply rV;have hI:=hI.Dq hT;refine Vm Z<|Vb Z<|Wn<|WR<|nD 6 7 Z ⟨A,c,?_,?_⟩
   .rw[e];have hl:(FB l a).length=l.length-1:=by unfold FB;simp;omega
    rw[hl];rfl
   rw[e];exact hI
  by_cases k6:k=6
  .have e:tJ l k a=(l,0):=bt;refine Wq<|V0 Z<|Vz Z<|V3 Z<|V3 Z<|Th Z<|Vg Z<|V5 Z<|Yf Z<|Wq<|V0 Z<|Vv Z<|V3 Z<|V2 Z<|Va Z<|V5 Z<|Yf Z<|Wk<|Wq<|Vf Z<|V0 Z<|Vv Z<|V3 Z<|V2 Z<|Va Z<|V7 [.bool _] Z func151 Z<|(ED _ _).mono<|pJ hI fun w1 wG hI=>Vm Z<|Vb Z<|Wn<|WR<|nD 6 7 Z ⟨A,c,cC,cN⟩
  by_cases k8:k=8
  .have e:tJ l k a=(l,1):=by unfold tJ;rw[lp (fun h=>h.2 hm),lp aa,jB ⟨k8,hm⟩];rfl
   refine Wq<|V0 Z<|Vv Z<|V3 Z<|V2 Z<|V2 Z<|Va Z<|V5 Z<|Yf Z<|Wq<|V0 Z<|Vv Z<|V3 Z<|V2 Z<|Va Z<|V5 Z<|Yf Z<|Wk<|Wq<|Vf Z<|V0 Z<|Vz Z<|V3 Z<|V3 Z<|Vg Z<|V7 [.bool _] Z func151 Z<|(ED _ _).mono<|pJ hI fun w1 wG hI=>Vm Z<|Vb Z<|Wn<|WR<|nD 6 7 Z ⟨A,c,cC,cN⟩
  have e:tJ l k a=(l,0):=bt;refine Wq<|V0 Z<|Vv Z<|V3 Z<|V2 Z<|V2 Z<|Va Z<|V5 Z<|Yf Z<|Wq<|V0 Z<|Vv Z<|V3 Z<|V2 Z<|Va Z<|V5 Z<|Yf Z<|Wk<|Wq<|Vf Z<|V0 Z<|Vv Z<|V3 Z<|V2 Z<|Va Z<|V7 [.bool _] Z func151 Z<|(ED _ _).mono<|pJ hI fun w1 wG hI=>Vm Z<|Vb Z<|Wn<|WR<|nD 6 7 Z ⟨A,c,cC,cN⟩
 rw[jo hm];by_cases k6:k=6
 .have e:tJ l k a=(Ga l a,1):=by unfold tJ;rw[lq ⟨k6,hm⟩]
  refine Wq<|V0 Z<|Vz Z<|V3 Z<|V3 Z<|Tm Z<|Vg Z<|V5 Z<|Yt Z<|Wq<|Vf Z<|V0 Z<|V0 Z<|T7 [(0,Y _)] [_] [Y 0] [0] hI Z nz (fun _=>ai) ?_;rintro b26 w- -hI;refine V7 [.slice _ _ _,Y _,.slice _ _ _] Z func164 Z<|(aqp A c l (r9 l a) a b26 _ (hI.ok (mM A c l) aq) MH hI.g0 (fun he=>?_) aa).mono ?_
  .exact hI.G2 (i:=1) (j:=0) Z Z aa b26 he Z
  rintro e w1 ⟨A',c',rfl,hT⟩;apply rV;have hI:=hI.d0.Dq hT;refine Vm Z<|Vb Z<|Wn<|WR<|nD 6 7 Z ⟨A',c',?_,?_⟩
  .rw[e];have hl:(Ga l a).length=l.length+1:=by unfold Ga;simp;omega
   rw[hl];rfl
  rw[e];exact hI
 have e:tJ l k a=(l,0):=by unfold tJ;rw[lp aa,lp<|fun h=>hm h.2,jo<|fun h=>hm h.2];rfl
 by_cases k7:k=7
 .refine Wq<|V0 Z<|Vv Z<|V3 Z<|V2 Z<|V2 Z<|Va Z<|V5 Z<|Yf Z<|Wq<|V0 Z<|Vz Z<|V3 Z<|V3 Z<|Vg Z<|V5 Z<|Yf Z<|Wk<|Wq<|Vf Z<|V0 Z<|Vv Z<|V3 Z<|V2 Z<|Va Z<|V7 [.bool _] Z func151 Z<|(ED _ _).mono<|pJ hI fun w1 wG hI=>Vm Z<|Vb Z<|Wn<|WR<|nD 6 7 Z ⟨A,c,cC,cN⟩
 by_cases k8:k=8
 .refine Wq<|V0 Z<|Vv Z<|V3 Z<|V2 Z<|V2 Z<|Va Z<|V5 Z<|Yf Z<|Wq<|V0 Z<|Vv Z<|V3 Z<|V2 Z<|Va Z<|V5 Z<|Yf Z<|Wk<|Wq<|Vf Z<|V0 Z<|Vz Z<|V3 Z<|V3 Z<|Vg Z<|V7 [.bool _] Z func151 Z<|(ED _ _).mono<|pJ hI fun w1 wG hI=>Vm Z<|Vb Z<|Wn<|WR<|nD 6 7 Z ⟨A,c,cC,cN⟩
 refine Wq<|V0 Z<|Vv Z<|V3 Z<|V2 Z<|V2 Z<|Va Z<|V5 Z<|Yf Z<|Wq<|V0 Z<|Vv Z<|V3 Z<|V2 Z<|Va Z<|V5 Z<|Yf Z<|Wk<|Wq<|Vf Z<|V0 Z<|Vv Z<|V3 Z<|V2 Z<|Va Z<|V7 [.bool _] Z func151 Z<|(ED _ _).mono<|pJ hI fun w1 wG hI=>Vm Z<|Vb Z<|Wn<|WR<|nD 6 7 Z ⟨A,c,cC,cN⟩
theorem adA(l:mq)(a:Int):mW (l++[a])=mW l++[Y a]:=by simp[mW]
theorem ail{g o:Nat}{l:mq}(h:Rd w (fun _=>True) 1 (me g o l.length c) l.length (mW l))(h2:2<=l.length):Rd w (fun _=>True) 1 (me g (o+1*1) (l.drop 1).length (c-1)) (l.drop 1).length (mW (l.drop 1)):=by
 obtain⟨A1,c1,hv,sn,qb,aBn,nU⟩:=h;injection hv with e1 e2 e3;subst e1 e3;have⟨b,o',qo,_,oz⟩:=nU aa;injection qo with qo;injection qo with e4 e5;subst e4 e5;refine⟨_,_,Z,aF,aa,by simp[mW],fun _=>⟨g,o+1*1,rfl,trivial,fun j u hj=>?_⟩⟩;have:(mW l)[1+j]?=some u:=by rw[<-hj];simp[mW,gB,Nat.add_comm]
 have:=oz (1+j) u this
 rwa [kv,jO]
theorem aik(hc:c<=9223372036854775807):Rd w (fun _=>True) 1 (.slice A ([]:mq).length c) ([]:mq).length (mW []):=⟨A,c,rfl,kz _,hc,rfl,fun h=>ll h<|Nat.lt_irrefl 0⟩
theorem adX(o:Int)(A:lO)(c:Nat)(l:mq)(k a:Int)(w0:lE)(h:(mM A c l).ok w0)(hb:l.length<=100000):
  Cq 152 #[Y o,.slice A l.length c,Y k,Y a] w0 fun en w'=>∃A' c',en=.returned (.tuple #[.slice A' (th o l k a).1.length c',Y (th o l k a).2])/\ly (mM A c l).D w0 w' [mM A' c' (th o l k a).1]:=by
 have hI:=ly.J9 h;refine Vo func152 Z<|Wq<|Vm Z<|Vb Z<|Wn ?_;rcases gJ l.length with Hf|Hf
 .have hl:l=[]:=dX Hf;subst hl;refine Wq<|Vf Z<|Vp Z nz Z<|Wv Z (by exact Kl rfl rfl rfl aa)<|Vb Z<|Wn<|Ws<|Wb ?_;by_cases k9:k=9
  .have e:th o [] k a=([]++[a],0):=by unfold th;rw[lq k9]
   refine Wq<|V0 Z<|Vz Z<|V5 Z<|Yt Z<|Wq<|Vf Z<|V0 Z<|T7 [(0,Y _)] [_] [Y 0] [0] hI Z nz (fun _=>ai) ?_;rintro DT w- -hI;apply Tz 8 (Y 0) hI Z nz Z (by rfl) hI.qP (by rfl) (kz _);rintro N6 c20 w amH anJ hI;have hI:=hI.d0;refine Vm Z<|Vb Z<|Wn<|WR<|nD 8 9 Z ⟨N6,c20,?_,?_⟩
   .rw[e];rfl
   rw[e];exact hI
  refine Wq<|V0 Z<|Vv Z<|V5 Z<|Yf Z ?_;have e:th o [] k a=([], -1):=by unfold th;rw[lp k9,lq rfl]
  exact Wq<|V0 Z<|Vt Z<|V5 Z<|Yt Z<|Wq<|Vf Z<|Vm Z<|Vb Z<|Wn<|WR<|nD 8 9 Z ⟨A,c,cC,cN⟩
 refine Wq<|Vf Z<|Vp Z nz Z<|Wv Z (Ib (b:=1) Z Z Z aa aa)<|Vb Z<|Wn<|Ws<|Wb ?_;by_cases k9:k=9
 .have e:th o l k a=(l++[a],0):=by unfold th;rw[lq k9]
  refine Wq<|V0 Z<|Vz Z<|V5 Z<|Yt Z<|Wq<|Vf Z<|V0 Z<|T7 [(0,Y _)] [_] [Y 0] [0] hI Z nz (fun _=>ai) ?_;rintro DT w- -hI;apply Tz 8 (Y 0) hI Z nz Z (by rfl) hI.qP (by rfl) (kz _);rintro N6 c20 w amH anJ hI;have hI:=hI.d0;refine Vm Z<|Vb Z<|Wn<|WR<|nD 8 9 Z ⟨N6,c20,?_,?_⟩
  .rw[e];simp only[gD,ix,iZ,kg];rfl
  rw[e];have h':ly (mM A c l).D w0 w [lz 0 3 1 N6 (l.length+1) c20 (mW l++[Y a])]:=hI;rw[<-adA]at h';simpa[mM]using h'
 refine Wq<|V0 Z<|Vv Z<|V5 Z<|Yf Z ?_;have h0:=Hf;have mK:l≠[]:=fun e=>by subst e;simp at h0
 obtain⟨g,og,rfl⟩:=Ri h.1 h0 aa;have acf:l.length<=c/\c<=9223372036854775807:=by
  rcases NG h.1 with⟨hA,_⟩|⟨_,_,_,_,h1,h2,_⟩
  .cases hA
  exact⟨h1,h2⟩
 refine Wq<|V0 Z<|Vq Z<|V5 Z<|Yf Z ?_;have c0:(mW l)[0]?=some (Y<|l.getD 0 0):=by simp[mW,List.getD,nM h0]
 have c1:(mW l)[l.length-1]?=some (Y<|l.getD (l.length-1) 0):=by simp[mW,List.getD,nM<|show l.length-1<l.length by omega]
 by_cases ho:o=4
 .have e:th o l k a=(l.drop 1,l.getD 0 0):=by unfold th;rw[lp k9,lp mK,lq ho]
  have hld:(l.drop 1).length=l.length-1:=aq;refine Wq<|V0 Z<|Vz Z<|V5 Z<|Yt Z ?_;rcases j6 1 l.length with h2|h2
  .refine Ws<|Yi hI fun Sx hY hZ hI=>?_;refine T8 0 Z<|Wt 1 Z (lL hY fun hI=>(by exact afC (sz:=1) (i:=1) rfl nz ai rfl rfl aa aa))<|T8 3 Z<|Wt 4 Z (lL hY fun hI=>cD)<|V9 5 (Y _) Z (lL hY fun hI=>EO hI.g0 c0 h0)<|Vr 2 Z<|V7 [.slice _ _ _] Z func19 Z ?_;rw[<-hld];refine(SX _ (c-1) (l.drop 1) _ _ (ail (ain hI.g0) h2) aa).mono ?_;rintro e1 w1 ⟨A',c',rfl,hT⟩;apply rV;have hI:=hI.app1 hT;refine Wn ⟨hZ _ hI.d0,(Wt 6 Z (lL hY fun hI=>(by exact Gm rfl rfl))<|Um 7 Z<|Yz<|WR<|nD 8 9 Z ⟨A',c',cC,by rw[e];exact hI.d1⟩)⟩
  have xX:l.drop 1=[]:=fo h2;refine Ws<|Yi hI fun Sx hY hZ hI=>?_;refine T8 0 Z<|Wt 1 Z (lL hY fun hI=>(afD (sz:=1) (i:=1) Z nz ai Z Z aa))<|T8 3 Z<|Wt 4 Z (lL hY fun hI=>cD)<|V9 5 (Y _) Z (lL hY fun hI=>EO hI.g0 c0 h0)<|Vr 2 Z<|V7 [.slice _ _ _] Z func19 Z ?_;rw[show l.length-1=([]:mq).length from by simp;omega];refine(SX _ (c-1) [] _ _ (aik aa) aq).mono ?_;rintro e1 w1 ⟨A',c',rfl,hT⟩;apply rV;have hI:=hI.app1 hT;refine Wn ⟨hZ _ hI.d0,(Wt 6 Z (lL hY fun hI=>(by exact Gm rfl rfl))<|Um 7 Z<|Yz<|WR<|nD 8 9 Z ⟨A',c',by rw[e,xX];rfl,by rw[e,xX];exact hI.d1⟩)⟩
 have e:th o l k a=(l.take<|l.length-1,l.getD (l.length-1) 0):=by unfold th;rw[lp k9,lp mK,lp ho]
 refine Wq<|V0 Z<|Vv Z<|V5 Z<|Yf Z<|Wk<|Ws<|Yi hI fun Sx hY hZ hI=>?_;refine T8 0 Z<|Vw 1 Z<|Wt 2 Z (lL hY fun hI=>(Rg (sz:=1) (i:=l.length-1) Z nz ai Z Z aa))<|T8 3 Z<|Vw 4 Z<|Wt 5 Z (lL hY fun hI=>(by exact zN rfl nz ai rfl rfl aa))<|V9 6 (Y _) Z (lL hY fun hI=>EO hI.g0 c1 h0)<|Wt 7 Z (lL hY fun hI=>(by exact Gm rfl rfl))<|Um 8 Z<|Yz<|WR<|nD 8 9 Z ⟨some ⟨g,og,none⟩,c,?_,?_⟩
 .rw[e];have hl:(l.take<|l.length-1).length=l.length-1:=aq;rw[hl];rfl
 rw[e];exact hI.u0 (e':=mM (some ⟨g,og,none⟩) c<|l.take<|l.length-1) (mC.refl _ _) (ZN (hI.ok _ aq) _ aa)<|fun k hk=>.inl hk
def uX(o:Int)(st:mq)(k a b:Int)(w0:lE)(en:Ending)(w':lE):Prop:=
 match qY o st k a b with
 |none=>en=.returned (.tuple #[.slice none 0 0,.int .i64 0,.bool false])/\Pure w0 w'|some (st',r)=>∃A' c',en=.returned (.tuple #[.slice A' st'.length c',.int .i64 r,.bool true])/\ly NF w0 w' [mM A' c' st']
theorem uX.none{o:Int}{st:mq}{a b:Int}(h:qY o st k a b=.none)(hp:Pure w0 w'):uX o st k a b w0 (.returned (.tuple #[.slice none 0 0,Y 0,.bool false])) w':=by unfold uX;rw[h];exact⟨rfl,hp⟩
theorem uX.some{o:Int}{st st':mq}{a b r:Int}{A':lO}{c' n':Nat}(h:qY o st k a b=.some (st',r))(hn:n'=st'.length)(hI:ly NF w0 w' [mM A' c' st']):uX o st k a b w0 (.returned (.tuple #[.slice A' n' c',Y r,.bool true])) w':=by unfold uX;rw[h];subst hn;exact⟨A',c',rfl,hI⟩
theorem aqG{o:Int}(h:zG o k):o=1\/o=2\/o=3\/o=4\/o=5\/o=6:=by
 rcases jV (o<1\/6<o)with h1|h1
 .rw[adP o k aa]at h;cases h
 omega
theorem Qq{S:lF}{H:List lN}{g:Nat}{z:Int}(hI:ly S w0 w (B g 3 #[Y z]::H)):ly S w0 w (mM (some ⟨g,0,none⟩) 1 [z]::H):=hI.u0 (e':=mM (some ⟨g,0,none⟩) 1 [z]) (mC.refl _ _) (lz.HZ hI.g0 (kz _) rfl aq) (fun k hk=>.inl (by have:some g=some k:=hk;injection this with this;exact this.symm))
theorem ag9(o:Int)(A:lO)(c:Nat)(st:mq)(k a b:Int)(D:lF)(w0:lE)(h:Rd w0 D 1 (.slice A st.length c) st.length (mW st))(hs:Nj o st)(hb:st.length<=100000)(hk:wW w0):
  Cq 136 #[Y o,.slice A st.length c,Y k,Y a,Y b] w0 (uX o st k a b w0):=by
 have hI:=ly.start (fun _=>False) w0;refine Vo func136 Z<|Wq<|Vm Z<|Vb Z<|V5 Z<|Wn ?_;by_cases nC:zG o k;rotate_left
 .have nC:zG o k=false:=by simpa using nC
  refine Ws<|Wq<|V0 Z<|V0 Z<|V7 [Y _,Y _] Z func131 Z<|(JH o k _<|hk.pure hI.pu).mono ?_;rw[nC];rintro e w1 ⟨rfl,hp⟩;apply rV;have hI:=hI.pure hp;exact Tm Z<|V3 Z<|V2 Z<|V2 Z<|V2 Z<|V2 Z<|V2 Z<|V2 Z<|V2 Z<|Vg Z<|Yt Z<|Ws<|Wr<|Vm Z<|Vb Z<|V5 Z<|Wn<|WR<|Di 10 11 12 (.inr Z) Z<|uX.none (by unfold qY;rw[lq (.inl nC)]) hI.pu
 by_cases MQ:AN o/\st.length≠1
 .refine Ws<|Wq<|V0 Z<|V0 Z<|V7 [Y _,Y _] Z func131 Z<|(JH o k _<|hk.pure hI.pu).mono ?_;rw[nC];rintro e w1 ⟨rfl,hp⟩;apply rV;have hI:=hI.pure hp;refine Th Z<|V3 Z<|V0 Z<|V7 [Y _] Z func132 Z<|(Ro o _).mono ?_;rw[MQ.1];rintro e w1 ⟨rfl,hp⟩;apply rV;have hI:=hI.pure hp;exact V3 Z<|Vf Z<|Vp Z nz Z<|Ug Z<|Vg Z<|Va Z<|Yt Z<|Wq<|Vm Z<|Vb Z<|V5 Z<|Wn<|WR<|Di 10 11 12 (.inr Z) Z<|uX.none (by unfold qY;rw[lq (.inr MQ)]) hI.pu
 have aBk:¬(zG o k=false\/(AN o/\st.length≠1)):=fun hh=>by
  rcases hh with hh|hh
  .rw[nC]at hh;cases hh
  exact MQ hh
 refine Wx (fun ρ w=>lA ρ [(0,Y o),(1,.slice A st.length c),(2,Y k),(3,Y a),(4,Y b)]/\ly NF w0 w []) ?_ ?_
 .cases MP:AN o with
  |true=>
   have Mp:st.length=1:=by
    rcases jV (st.length=1)with h1|h1
    .exact h1
    exact ll ⟨MP,h1⟩ MQ
   refine Wq<|V0 Z<|V0 Z<|V7 [Y _,Y _] Z func131 Z<|(JH o k _<|hk.pure hI.pu).mono ?_;rw[nC];rintro e w1 ⟨rfl,hp⟩;apply rV;have hI:=hI.pure hp;refine Th Z<|V3 Z<|V0 Z<|V7 [Y _] Z func132 Z<|(Ro o _).mono ?_;rw[MP];rintro e w1 ⟨rfl,hp⟩;apply rV;have hI:=hI.pure hp;exact V3 Z<|Vf Z<|Vp Z nz Z<|U3 Z<|Vg Z<|Va Z<|Yf Z<|Wk ⟨ug,hI⟩
  |false=>refine Wq<|V0 Z<|V0 Z<|V7 [Y _,Y _] Z func131 Z<|(JH o k _<|hk.pure hI.pu).mono ?_;rw[nC];rintro e w1 ⟨rfl,hp⟩;apply rV;have hI:=hI.pure hp;refine Th Z<|V3 Z<|V0 Z<|V7 [Y _] Z func132 Z<|(Ro o _).mono ?_;rw[MP];rintro e w1 ⟨rfl,hp⟩;apply rV;have hI:=hI.pure hp;exact V3 Z<|V2 Z<|V2 Z<|V2 Z<|Va Z<|Va Z<|Yf Z<|Wk ⟨ug,hI⟩
 clear hI;rintro ρ w ⟨hH,hI⟩;obtain⟨σ,rfl⟩:=hH.open;have one:AN o->∃bA oA z,A=some ⟨bA,oA,none⟩/\st=[z]/\w0.cell? ⟨bA,oA,none⟩=some (Y z):=by
  intro MP;have Mp:st.length=1:=by
   rcases jV (st.length=1)with h1|h1
   .exact h1
   exact ll ⟨MP,h1⟩ MQ
  obtain⟨z,rfl⟩:∃z,st=[z]:=List.length_eq_one_iff.1 Mp;have⟨b',o',h1,_,_,h2⟩:=h.get (k:=0) (u:=Y z) rfl aq;exact⟨b',o',z,h1,Z,h2⟩
 have oz:=fun(W:lE) (hp:Pure w0 W)=>SX A c st D W (h.pure hp) aa;rcases aqG nC with rfl|rfl|rfl|rfl|rfl|rfl
 ·
  obtain⟨bA,oA,z,rfl,rfl,hz⟩:=one rfl;have e:qY 1 [z] k a b=some ([(Cb z k a b).1],(Cb z k a b).2):=by unfold qY;rw[lp aBk,lq rfl];rfl
  refine Ws<|Wq<|V0 Z<|Wn<|Wb<|Wq<|Vz Z<|V5 Z<|Yt Z<|Ws<|Wr<|Vf Z<|Wv Z (zN (i:=0) Z nz ai Z Z aq)<|V4 (Y _) Z (hI.my hz)<|V0 Z<|V0 Z<|V0 Z<|V7 [Y _,Y _,Y _,Y _] Z func149 Z<|(aud z k a b _).mono ?_;rintro e1 w1 ⟨rfl,hp⟩;apply rV;have hI:=hI.pure hp;refine Vy Z<|Vi Z<|Vi Z<|Vb Z<|Vb Z<|Wn<|Wq<|V0 Z<|T7 [(0,Y _)] [_] [Y 0] [0] hI Z nz (fun _=>ai) ?_;rintro b43 w- -hI;exact V0 Z<|Vm Z<|Vb Z<|V5 Z<|Wn<|WR<|Di 10 11 12 (.inr Z) Z<|uX.some e Z<|Qq hI
 ·
  obtain⟨bA,oA,z,rfl,rfl,hz⟩:=one rfl;refine Ws<|Wq<|V0 Z<|Wn<|Wb<|Wq<|Vv Z<|V5 Z<|Yf Z<|Ws<|Wr<|Vz Z<|V5 Z<|Yt Z<|Wq<|Vf Z<|Wv Z (zN (i:=0) Z nz ai Z Z aq)<|V4 (Y _) Z (hI.my hz)<|Vb Z<|Wn ?_;by_cases k4:k=4
  .have e:qY 2 [z] k a b=some ([IntKind.i64.wrap (z+a)],IntKind.i64.wrap<|z+a):=by unfold qY;rw[lp aBk,lp aw,lq rfl,lq k4];rfl
   refine Ws<|Wq<|V0 Z<|Vz Z<|Yt Z<|Wr<|V0 Z<|V0 Z<|Wv Z (Nw Z Z Z)<|Vb Z<|Wn<|Wq<|V0 Z<|T7 [(0,Y _)] [_] [Y 0] [0] hI Z nz (fun _=>ai) ?_;rintro SC w- -hI;exact V0 Z<|Vm Z<|Vb Z<|V5 Z<|Wn<|WR<|Di 10 11 12 (.inr Z) Z<|uX.some e Z<|Qq hI
  have e:qY 2 [z] k a b=some ([z],z):=by unfold qY;rw[lp aBk,lp aw,lq rfl,lp k4];rfl
  refine Ws<|Wq<|V0 Z<|Vv Z<|Yf Z<|Wk<|Wq<|V0 Z<|T7 [(0,Y _)] [_] [Y 0] [0] hI Z nz (fun _=>ai) ?_;rintro SC w- -hI;exact V0 Z<|Vm Z<|Vb Z<|V5 Z<|Wn<|WR<|Di 10 11 12 (.inr Z) Z<|uX.some e Z<|Qq hI
 ·
  have e:qY 3 st k a b=some (tJ st k a):=by unfold qY;rw[lp aBk,lp aw,lp aw,lq rfl]
  refine Ws<|Wq<|V0 Z<|Wn<|Wb<|Wq<|Vv Z<|V5 Z<|Yf Z<|Ws<|Wr<|Vv Z<|V5 Z<|Yf Z<|Wq<|Vz Z<|V5 Z<|Yt Z<|Wq<|Vf Z<|V7 [.slice _ _ _] Z func19 Z<|(oz _ hI.pu).mono ?_;rintro e1 w1 ⟨A1,c1,rfl,hT⟩;apply rV;have hI:=hI.app1 hT;refine V0 Z<|V0 Z<|V7 [.slice _ _ _,Y _,Y _] Z func150 Z<|(au1 A1 c1 st k a _ (hI.ok (mM A1 c1 st) aq) (hs Z) hb).mono ?_;rintro e1 w1 ⟨A2,c2,rfl,L9⟩;apply rV;have hI:=hI.Dq L9;exact Vy Z<|Vi Z<|Vi Z<|Vm Z<|Vb Z<|Wn<|Wq<|Vf Z<|V0 Z<|Vm Z<|Vb Z<|V5 Z<|Wn<|WR<|Di 10 11 12 (.inr Z) Z<|uX.some (st':=(tJ st k a).1) (r:=(tJ st k a).2) e Z hI
 ·
  have e:qY 4 st k a b=some (th 4 st k a):=bf;refine Ws<|Wq<|V0 Z<|Wn<|Wb<|Wq<|Vv Z<|V5 Z<|Yf Z<|Ws<|Wr<|Vv Z<|V5 Z<|Yf Z<|Wq<|Vv Z<|V5 Z<|Yf Z<|Wq<|Vv Z<|V5 Z<|Yf Z<|Wk<|Wq<|V0 Z<|Vf Z<|V7 [.slice _ _ _] Z func19 Z<|(oz _ hI.pu).mono ?_;rintro e1 w1 ⟨A1,c1,rfl,hT⟩;apply rV;have hI:=hI.app1 hT;refine V0 Z<|V0 Z<|V7 [Y _,.slice _ _ _,Y _,Y _] Z func152 Z<|(adX 4 A1 c1 st k a _ (hI.ok (mM A1 c1 st) aq) hb).mono ?_;rintro e1 w1 ⟨A2,c2,rfl,L9⟩;apply rV;have hI:=hI.Dq L9;exact Vy Z<|Vi Z<|Vi Z<|Vm Z<|Vb Z<|Wn<|Wq<|Vf Z<|V0 Z<|Vm Z<|Vb Z<|V5 Z<|Wn<|WR<|Di 10 11 12 (.inr Z) Z<|uX.some (st':=(th 4 st k a).1) (r:=(th 4 st k a).2) e Z hI
 ·
  have e:qY 5 st k a b=some (th 5 st k a):=bf;refine Ws<|Wq<|V0 Z<|Wn<|Wb<|Wq<|Vv Z<|V5 Z<|Yf Z<|Ws<|Wr<|Vv Z<|V5 Z<|Yf Z<|Wq<|Vv Z<|V5 Z<|Yf Z<|Wq<|Vv Z<|V5 Z<|Yf Z<|Wk<|Wq<|V0 Z<|Vf Z<|V7 [.slice _ _ _] Z func19 Z<|(oz _ hI.pu).mono ?_;rintro e1 w1 ⟨A1,c1,rfl,hT⟩;apply rV;have hI:=hI.app1 hT;refine V0 Z<|V0 Z<|V7 [Y _,.slice _ _ _,Y _,Y _] Z func152 Z<|(adX 5 A1 c1 st k a _ (hI.ok (mM A1 c1 st) aq) hb).mono ?_;rintro e1 w1 ⟨A2,c2,rfl,L9⟩;apply rV;have hI:=hI.Dq L9;exact Vy Z<|Vi Z<|Vi Z<|Vm Z<|Vb Z<|Wn<|Wq<|Vf Z<|V0 Z<|Vm Z<|Vb Z<|V5 Z<|Wn<|WR<|Di 10 11 12 (.inr Z) Z<|uX.some (st':=(th 5 st k a).1) (r:=(th 5 st k a).2) e Z hI
 obtain⟨bA,oA,z,rfl,rfl,hz⟩:=one rfl;refine Ws<|Wq<|V0 Z<|Wn<|Wb<|Wq<|Vv Z<|V5 Z<|Yf Z<|Ws<|Wr<|Vv Z<|V5 Z<|Yf Z<|Wq<|Vv Z<|V5 Z<|Yf Z<|Wq<|Vz Z<|V5 Z<|Yt Z ?_;by_cases pF:z=Gj (k==12)
 .have e:qY 6 [z] k a b=some ([Gj (k==11)],0):=by unfold qY;rw[lp aBk,lp aw,lp aw,lp aw,lq rfl,lq<|by simpa using pF]
  refine Ws<|Ws<|Yi hI fun Sx hY hZ hI=>?_;refine T8 0 Z<|Wt 1 Z (lL hY fun hI=>(zN (i:=0) Z nz ai Z Z aq))<|V9 2 (Y _) Z (Yo hY hz)<|Vw 3 Z<|Wt 4 Z (lL hY fun hI=>(EI Z Z Z))<|Vr 5 Z<|V7 [.bool _] Z func151 Z<|(ED (k==12) _).mono ?_;rw[<-pF];rintro e1 w1 ⟨rfl,hp⟩;apply rV;have hI:=hI.pure hp;refine Wn ⟨hZ _ hI,(U7 6 Z<|Yz<|Wc false Z<|Wk<|Wq<|V0 Z<|Wv Z (EI Z Z Z)<|V7 [.bool _] Z func151 Z<|(ED (k==11) _).mono ?_)⟩;rintro e1 w1 ⟨rfl,hp⟩;apply rV;have hI:=hI.pure hp;refine T7 [(0,Y _)] [_] [Y 0] [0] hI Z nz (fun _=>ai) ?_;rintro b82 w- -hI;exact Vm Z<|Vb Z<|V5 Z<|Wn<|WR<|Di 10 11 12 (.inr Z) Z<|uX.some e Z<|Qq hI
 have e:qY 6 [z] k a b=none:=by unfold qY;rw[lp aBk,lp aw,lp aw,lp aw,lq rfl,lp<|by simpa using pF]
 refine Ws<|Ws<|Yi hI fun Sx hY hZ hI=>?_;refine T8 0 Z<|Wt 1 Z (lL hY fun hI=>(zN (i:=0) Z nz ai Z Z aq))<|V9 2 (Y _) Z (Yo hY hz)<|Vw 3 Z<|Wt 4 Z (lL hY fun hI=>(EI Z Z Z))<|Vr 5 Z<|V7 [.bool _] Z func151 Z<|(ED (k==12) _).mono ?_;generalize hzz:Gj (k==12)=zz at pF|-;rintro e1 w1 ⟨rfl,hp⟩;apply rV;have hI:=hI.pure hp;exact Wn ⟨hZ _ hI,(Ut 6 Z<|Yz<|Wc true Z<|Wq<|Vm Z<|Vb Z<|V5 Z<|Wn<|WR<|Di 10 11 12 (.inr Z) Z<|uX.none e hI.pu)⟩
def tU(w:lE)(D:lF)(v:lH)(l:List l9):Prop:=Rd w D 8 v l.length (l.flatMap pP)
theorem tU.pure{v:lH}(h:tU w D v l)(hp:Pure w w'):tU w' D v l:=Rd.pure h hp
theorem tU.at(h:tU w D (.slice A n c) l){k:Nat}(hk:k<l.length):∃b o,A=some ⟨b,o,none⟩/\∀(j:Nat) (u:lH),(pP (lS l k))[j]?=some u->w.cell? ⟨b,o+k*8+j,none⟩=some u:=by
 obtain⟨A1,c1,hv,sn,qb,aBn,nU⟩:=h;injection hv with e1 e2 e3;subst e1 e3;have⟨b,o,qo,_,oz⟩:=nU aa;refine⟨b,o,qo,fun j u hj=>?_⟩;have Mn:j<8:=by have:=(oS hj).1;simpa[pP]using this
 have hg:l[k]?=some (lS l k):=by unfold lS;rw[eu,nM hk];rfl
 rw[jO];refine oz _ u ?_;rw[O1 (f:=pP) (fun a=>rfl) l k _ hg j Mn];exact hj
theorem tU.len(h:tU w D (.slice A n c) l):n=l.length/\n<=c/\c<=9223372036854775807:=by have⟨A',c',he,h1,h2⟩:=Rd.form h;injection he with _ e2 e3;subst e2 e3;exact⟨Z,h1,h2⟩
abbrev Loc:=Nat->Option Addr×Nat
def tO(L:Loc)(k:Nat)(A:lO)(c:Nat):Loc:=fun j=>if j=k then(A,c)else L j
def sD(p q:l9):Bool:=decide (0<=p.ret)&&decide (p.ret<q.call)
theorem SD(p0 p1 p2 p3 p4 p5 p6 p7 q0 q1 q2 q3 q4 q5 q6 q7:Int)(w0:lE):Cq 70 #[.agg #[Y p0,Y p1,Y p2,Y p3,Y p4,Y p5,Y p6,Y p7],.agg #[Y q0,Y q1,Y q2,Y q3,Y q4,Y q5,Y q6,Y q7]] w0 fun en w'=>en=.returned (.bool (sD ⟨p0,p1,p2,p3,p4,p5,p6,p7⟩ ⟨q0,q1,q2,q3,q4,q5,q6,q7⟩))/\Pure w0 w':=by
 have hI:=ly.start (fun _=>False) w0;refine Vo func70 Z<|Wq<|Tg (.agg _) (#[_,_,_,_,_,_,_,_]) hI Z ?_;rintro b2 w- -hI;apply Tg (.agg _) (#[_,_,_,_,_,_,_,_]) hI Z;rintro b3 w- -hI;refine V5 Z<|Wn ?_;obtain⟨r,hr⟩:∃r,sD ⟨p0,p1,p2,p3,p4,p5,p6,p7⟩ ⟨q0,q1,q2,q3,q4,q5,q6,q7⟩=r:=⟨_,rfl⟩
 rw[hr];have qF:(decide (0<=p7)&&decide (p7<q6))=r:=hr;by_cases h:0<=p7
 .rw[jB h,jI]at qF;by_cases h2:p7<q6
  .rw[jB h2]at qF;subst qF;exact Wq<|V6 7 Z<|Yd hI Z Z<|Tw Z<|V3 Z<|V6 7 Z<|Yd hI Z Z<|V6 6 Z<|Yc hI Z Z<|Vt Z<|Vg Z<|V5 Z<|Wn<|WR<|lV 4 Z ⟨Z,hI.pu⟩
  rw[jo h2]at qF;subst qF;exact Wq<|V6 7 Z<|Yd hI Z Z<|Tw Z<|V3 Z<|V6 7 Z<|Yd hI Z Z<|V6 6 Z<|Yc hI Z Z<|Vq Z<|Vg Z<|V5 Z<|Wn<|WR<|lV 4 Z ⟨Z,hI.pu⟩
 rw[jo h,Bool.false_and]at qF;subst qF;exact Wq<|V6 7 Z<|Yd hI Z Z<|Ua Z<|V3 Z<|V2 Z<|V2 Z<|V2 Z<|V2 Z<|V2 Z<|Va Z<|V5 Z<|Wn<|WR<|lV 4 Z ⟨Z,hI.pu⟩
theorem ajl(p q:l9)(w0:lE):Cq 70 #[.agg (pP p).toArray,.agg (pP q).toArray] w0 fun en w'=>en=.returned (.bool (sD p q))/\Pure w0 w':=by obtain⟨p0,p1,p2,p3,p4,p5,p6,p7⟩:=p;obtain⟨q0,q1,q2,q3,q4,q5,q6,q7⟩:=q;exact SD p0 p1 p2 p3 p4 p5 p6 p7 q0 q1 q2 q3 q4 q5 q6 q7 w0
def Nk(o:l9)(ah:List l9):Prop:=¬(o.call<0)/\¬(0<ah.length/\o.call<=(lS ah (ah.length-1)).call)/\¬(o.ret≠ -1/\o.ret<=o.call)/\¬(o.ret= -1/\o.res≠0)
def wS(o:l9)(n:Int):Prop:=n≠ -1/\(n=o.call\/n=o.ret)
def OkOp(o:l9)(ah:List l9):Prop:=
 xD o.proc o.key [o.a,o.b,o.res,o.call,o.ret]=true/\qG o.kind 1 12=true/\Nk o ah/\
  (∀k,k<ah.length->¬wS o (lS ah k).call/\¬wS o (lS ah k).ret)/\(∀k,k<ah.length->(lS ah k).proc=o.proc->sD (lS ah k) o=true)
def Oc(v:lH):Prop:=∃u:Int,v=.iface 36 (.int .i64 u)/\u≠8
theorem Oc.any{v:lH}(h:Oc v):R5 v:=by obtain⟨u,h1,_⟩:=h;exact⟨u,h1⟩
def Dz(o:l9)(ah:List l9)(w0:lE)(en:Ending)(w':lE):Prop:=Pure w0 w'/\((OkOp o ah/\en=.returned .nilIface)\/(¬OkOp o ah/\∃x,Oc x/\en=.returned x))
theorem Dz.bad{o:l9}{ah:List l9}{z:Int}(h:¬OkOp o ah)(hp:Pure w0 w')(hz:z≠8:=by decide):Dz o ah w0 (.returned (.iface 36 (Y z))) w':=⟨hp,.inr ⟨h,_,⟨z,rfl,hz⟩,rfl⟩⟩
theorem aaB(o0 o1 o2 o3 o4 o5 o6 o7:Int)(A:lO)(n c:Nat)(ah:List l9)(D:lF)(w0:lE)(h:tU w0 D (.slice A n c) ah)(azL:n<=1000):
  Cq 147 #[.agg #[Y o0,Y o1,Y o2,Y o3,Y o4,Y o5,Y o6,Y o7],.slice A n c] w0 (Dz ⟨o0,o1,o2,o3,o4,o5,o6,o7⟩ ah w0):=by
 have⟨hn,oT,rJ⟩:=h.len;subst hn;have hI:=ly.start (fun _=>False) w0;refine Vo func147 Z<|Wq<|Tg (.agg _) (#[_,_,_,_,_,_,_,_]) hI Z ?_;rintro b2 w- -hI;refine Vh Z<|Wn<|Wq<|V6 7 Z<|Yc hI Z Z<|Wv Z (EI Z Z Z)<|V5 Z<|Wn<|Ws<|Wb ?_;cases ht:xD o0 o1 [o3,o4,o5,o6,o7]with
 |false=>refine Wq<|V6 0 Z<|Yc hI Z Z<|V6 1 Z<|Yc hI Z Z<|V6 3 Z<|Yc hI Z Z<|V6 4 Z<|Yc hI Z Z<|V6 5 Z<|Yc hI Z Z<|V6 6 Z<|Yc hI Z Z<|V6 7 Z<|Yc hI Z Z<|T7 [(0,Y _),(1,Y _),(2,Y _),(3,Y _),(4,Y _)] [_,_,_,_,_] [Y 0,Y 0,Y 0,Y 0,Y 0] [0,1,2,3,4] hI Z nz (fun _=>ai) ?_;rintro b30 w- -hI;refine V7 [Y _,Y _,.slice _ _ _] Z func103 Z<|(Za o0 o1 _ 5 5 [o3,o4,o5,o6,o7] _ _ (Xh hI.g0 Z Z aa) Z aa).mono ?_;rw[ht];rintro e w1 ⟨rfl,rfl⟩;exact rV<|Tm Z<|V5 Z<|Yt Z<|Wq<|T9 Z pd Z<|Vn Z<|Wn<|WR<|lV 4 Z<|Dz.bad (fun hh=>by have:=hh.1;rw[show xD _ _ _=false from ht]at this;cases this) hI.pu
 |true=>
 refine Wq<|V6 0 Z<|Yc hI Z Z<|V6 1 Z<|Yc hI Z Z<|V6 3 Z<|Yc hI Z Z<|V6 4 Z<|Yc hI Z Z<|V6 5 Z<|Yc hI Z Z<|V6 6 Z<|Yc hI Z Z<|V6 7 Z<|Yc hI Z Z<|T7 [(0,Y _),(1,Y _),(2,Y _),(3,Y _),(4,Y _)] [_,_,_,_,_] [Y 0,Y 0,Y 0,Y 0,Y 0] [0,1,2,3,4] hI Z nz (fun _=>ai) ?_;rintro b30 w- -hI;refine V7 [Y _,Y _,.slice _ _ _] Z func103 Z<|(Za o0 o1 _ 5 5 [o3,o4,o5,o6,o7] _ _ (Xh hI.g0 Z Z aa) Z aa).mono ?_;rw[ht];rintro e w1 ⟨rfl,rfl⟩;refine rV<|Th Z<|V5 Z<|Yf Z ?_;have hI:=hI.d0;cases rZ:qG o2 1 12 with
 |false=>refine Wq<|V6 2 Z<|Yc hI Z Z<|V7 [Y _,Y _,Y _] Z func104 Z<|(G3 o2 1 12 _).mono ?_;rw[rZ];rintro e w1 ⟨rfl,rfl⟩;exact rV<|Tm Z<|V5 Z<|Yt Z<|Wq<|T9 Z pd Z<|Vn Z<|Wn<|WR<|lV 4 Z<|Dz.bad (fun hh=>by have:=hh.2.1;rw[show qG _ _ _=false from rZ]at this;cases this) hI.pu
 |true=>
 refine Wq<|V6 2 Z<|Yc hI Z Z<|V7 [Y _,Y _,Y _] Z func104 Z<|(G3 o2 1 12 _).mono ?_;rw[rZ];rintro e w1 ⟨rfl,rfl⟩;refine rV<|Th Z<|V5 Z<|Yf Z<|Wx (fun ρ w=>∃bb:Bool,(bb=true↔¬Nk ⟨o0,o1,o2,o3,o4,o5,o6,o7⟩ ah)/\lA ρ [(40,.bool bb),(1,.slice A ah.length c),(2,lJ b2 0)]/\ly NF w0 w [B b2 162 #[Y o0,Y o1,Y o2,Y o3,Y o4,Y o5,Y o6,Y o7]]) ?_ ?_
 .by_cases c1:o6<0
  .exact Wq<|V6 6 Z<|Yc hI Z Z<|Vt Z<|V5 Z<|Yt Z<|Wk ⟨true,by simp;exact fun hh=>hh.1 c1,sf,hI⟩
  refine Wq<|V6 6 Z<|Yc hI Z Z<|Vq Z<|V5 Z<|Yf Z ?_;obtain⟨lb,qV⟩:∃lb:Bool,(lb=true↔(0<ah.length/\o6<=(lS ah<|ah.length-1).call)):=⟨decide (0<ah.length/\o6<=(lS ah<|ah.length-1).call),aq⟩
  refine Wx (fun ρ w=>lA ρ [(40,.bool lb),(1,.slice A ah.length c),(2,lJ b2 0),(5,.bool<|decide (o7= -1))]/\ly NF w0 w [B b2 162 #[Y o0,Y o1,Y o2,Y o3,Y o4,Y o5,Y o6,Y o7]]) ?_ ?_
  .rcases gJ ah.length with h0|h0
   .have:lb=false:=by
     cases lb
     .rfl
     have:=qV.1 rfl;omega
    subst this;refine Yi hI fun Sx hY hZ hI=>?_;exact T8 0 Z<|Uj 1 Z pY Z<|Wt 2 Z (lL hY fun hI=>(by exact afk rfl rfl rfl aa))<|Te 3 Z<|Vl 4 Z Z<|Vl 5 Z Z<|Vl 6 Z Z<|Vl 7 Z Z<|Vl 8 Z Z<|Vl 9 Z Z<|Vl 10 Z Z<|Vl 11 Z Z<|Vl 12 Z Z<|Vl 13 Z Z<|Ts 14 Z<|Ue 15 Z<|Yz ⟨oy,hI⟩
   obtain⟨ab,ao,rfl,qN⟩:=h.at (show ah.length-1<ah.length by omega);have oz:=qN 6 _ rfl;by_cases aBm:o6<=(lS ah<|ah.length-1).call
   .have:lb=true:=qV.2 ⟨h0,aBm⟩;subst this;refine Yi hI fun Sx hY hZ hI=>?_;exact T8 0 Z<|Uj 1 Z pY Z<|Wt 2 Z (lL hY fun hI=>(by exact X2 rfl rfl rfl aa))<|Te 3 Z<|Vd 4 6 Z<|Ye 5 hY Z Z<|T8 6 Z<|T8 7 Z<|Uj 8 Z pY Z<|Wt 9 Z (lL hY fun hI=>(Ib (a:=ah.length) (b:=1) Z Z Z aa aa))<|Wt 10 Z (lL hY fun hI=>(yX (sz:=8) (i:=ah.length-1) Z pY ai Z Z aa))<|Td 11 6 Z<|V9 12 (Y _) Z (Yo hY oz)<|Wt 13 Z (lL hY fun hI=>aU)<|U6 14 Z<|Ue 15 Z<|Yz ⟨oy,hI⟩
   have:lb=false:=by
    cases lb
    .rfl
    exact ll (qV.1 Z).2 aBm
   subst this;refine Yi hI fun Sx hY hZ hI=>?_;exact T8 0 Z<|Uj 1 Z pY Z<|Wt 2 Z (lL hY fun hI=>(by exact X2 rfl rfl rfl aa))<|Te 3 Z<|Vd 4 6 Z<|Ye 5 hY Z Z<|T8 6 Z<|T8 7 Z<|Uj 8 Z pY Z<|Wt 9 Z (lL hY fun hI=>(Ib (a:=ah.length) (b:=1) Z Z Z aa aa))<|Wt 10 Z (lL hY fun hI=>(yX (sz:=8) (i:=ah.length-1) Z pY ai Z Z aa))<|Td 11 6 Z<|V9 12 (Y _) Z (Yo hY oz)<|Wt 13 Z (lL hY fun hI=>bd)<|U6 14 Z<|Ue 15 Z<|Yz ⟨oy,hI⟩
  clear hI;rintro ρ w ⟨hH,hI⟩;obtain⟨σ,rfl⟩:=hH.open;cases lb with
  |true=>exact Wc true Z<|Wk ⟨true,by simp;exact fun hh=>hh.2.1<|qV.1 rfl,sf,hI⟩|false=>
  have uL:¬(0<ah.length/\o6<=(lS ah<|ah.length-1).call):=fun hh=>by have:=qV.2 hh;cases this
  apply Wc false Z;by_cases hu:o7= -1
  .rw[jB hu];refine Wq<|V3 Z<|Th Z<|V3 Z<|V2 Z<|V2 Z<|V2 Z<|V2 Z<|V2 Z<|Va Z<|V5 Z<|Yf Z ?_;by_cases ur:o5=0
   .exact Wr<|V3 Z<|V3 Z<|V6 5 Z<|Yc hI Z Z<|U3 Z<|Vg Z<|V5 Z<|Wn ⟨false,by simp;exact⟨by exact c1,uL,fun hh=>hh.1 hu,fun hh=>hh.2 ur⟩,sf,hI⟩
   exact Wr<|V3 Z<|V3 Z<|V6 5 Z<|Yc hI Z Z<|Ug Z<|Vg Z<|V5 Z<|Wn ⟨true,by simp;exact fun hh=>hh.2.2.2 ⟨hu,ur⟩,sf,hI⟩
  rw[jo hu];by_cases MJ:o7<=o6
  .exact Wq<|V3 Z<|Tm Z<|V3 Z<|V6 7 Z<|Yc hI Z Z<|V6 6 Z<|Yc hI Z Z<|Wv Z aU<|Vg Z<|V5 Z<|Yt Z<|Wk ⟨true,by simp;exact fun hh=>hh.2.2.1 ⟨hu,MJ⟩,sf,hI⟩
  exact Wq<|V3 Z<|Tm Z<|V3 Z<|V6 7 Z<|Yc hI Z Z<|V6 6 Z<|Yc hI Z Z<|Wv Z bd<|Vg Z<|V5 Z<|Yf Z<|Wr<|V3 Z<|V3 Z<|V2 Z<|V2 Z<|V2 Z<|Va Z<|V5 Z<|Wn ⟨false,by simp;exact⟨by exact c1,uL,fun hh=>MJ hh.2,fun hh=>hu hh.1⟩,sf,hI⟩
 clear hI;rintro ρ w ⟨bb,yI,hH,hI⟩;obtain⟨σ,rfl⟩:=hH.open;cases bb with
 |true=>exact Wc true Z<|Wq<|T9 Z pd Z<|Vn Z<|Wn<|WR<|lV 4 Z<|Dz.bad (fun hh=>yI.1 Z hh.2.2.1) hI.pu|false=>
 have PY:Nk ⟨o0,o1,o2,o3,o4,o5,o6,o7⟩ ah:=by
  rcases jV (Nk ⟨o0,o1,o2,o3,o4,o5,o6,o7⟩ ah)with h1|h1
  .exact h1
  have:=yI.2 h1;cases this
 refine Wc false Z<|Wk<|Wx (fun ρ w=>(∀k,k<ah.length->¬wS ⟨o0,o1,o2,o3,o4,o5,o6,o7⟩ (lS ah k).call/\¬wS ⟨o0,o1,o2,o3,o4,o5,o6,o7⟩ (lS ah k).ret)/\lA ρ [(1,.slice A ah.length c),(2,lJ b2 0)]/\ly NF w0 w [B b2 162 #[Y o0,Y o1,Y o2,Y o3,Y o4,Y o5,Y o6,Y o7]]) ?_ ?_
 .refine Wq<|Vf Z<|Vp Z pY Z<|V0 Z<|Wn<|Wb ?_;refine Wl (fun mu ρ w=>∃k:Nat,mu=ah.length-k/\k<=ah.length/\(∀j,j<k->¬wS ⟨o0,o1,o2,o3,o4,o5,o6,o7⟩ (lS ah j).call/\¬wS ⟨o0,o1,o2,o3,o4,o5,o6,o7⟩ (lS ah j).ret)/\lA ρ [(77,lI k),(76,lI ah.length),(75,.slice A ah.length c),(1,.slice A ah.length c),(2,lJ b2 0)]/\ly NF w0 w [B b2 162 #[Y o0,Y o1,Y o2,Y o3,Y o4,Y o5,Y o6,Y o7]]) ah.length
   ⟨0,rfl,aa,fun j hj=>aa,⟨rfl,rfl,rfl,rfl,rfl,trivial⟩,hI⟩ ?_
  clear hI;rintro mu ρ w ⟨k,rfl,hk,nG,hH,hI⟩;obtain⟨σ,rfl⟩:=hH.open;by_cases ow:k<ah.length;rotate_left
  .obtain rfl:k=ah.length:=aa;exact Wq<|Vq Z<|Yg Z<|WE ⟨nG,yD,hI⟩
  obtain⟨ab,ao,rfl,qN⟩:=h.at ow;generalize oX:lS ah k=pk at qN;obtain⟨p0,p1,p2,p3,p4,p5,p6,p7⟩:=pk;refine Wq<|Vt Z<|Yu Z<|Wk<|Wx (fun ρ w=>(¬wS ⟨o0,o1,o2,o3,o4,o5,o6,o7⟩ p6/\¬wS ⟨o0,o1,o2,o3,o4,o5,o6,o7⟩ p7)/\lA ρ [(77,lI k),(76,lI ah.length),(75,me ab ao ah.length c),(1,me ab ao ah.length c),(2,lJ b2 0)]/\ly NF w0 w [B b2 162 #[Y o0,Y o1,Y o2,Y o3,Y o4,Y o5,Y o6,Y o7]]) ?_ ?_;rotate_left
  .clear hI;rintro ρ w ⟨mI,hH,hI⟩;obtain⟨σ,rfl⟩:=hH.open;refine Wr<|Vx Z<|V0 Z<|Wn ⟨ah.length-(k+1),aa,k+1,rfl,aa,fun j hj=>?_,ug,hI⟩;rcases j6 j k with h1|h1
   .exact nG j h1
   obtain rfl:j=k:=aa;rw[oX];exact mI
  refine Wb<|Wq<|Tu 8 Z pY Z<|Ur 8 Z (by rfl) (fun k u hk=>hI.my<|qN k u hk)<|T6 (.agg vT) (vT) hI Z ?_;rintro b7 w- -hI;apply Ta 8 (#[_,_,_,_,_,_,_,_]) (.agg _) hI Z;intro w hI;apply Wn;simp only[pP]at hI;refine Wq<|V6 6 Z<|Yc hI Z Z<|V6 7 Z<|Yc hI Z Z<|T7 [(0,Y _),(1,Y _)] [_,_] [Y 0,Y 0] [0,1] hI Z nz (fun _=>ai) ?_;rintro b85 w- -hI;refine Vp Z nz Z<|V0 Z<|Wn<|Wb ?_;refine Wl (fun mu ρ w=>∃m:Nat,mu=2-m/\m<=2/\(0<m->¬wS ⟨o0,o1,o2,o3,o4,o5,o6,o7⟩ p6)/\(1<m->¬wS ⟨o0,o1,o2,o3,o4,o5,o6,o7⟩ p7)/\lA ρ [(87,lI m),(86,Y 2),(85,me b85 0 2 2),(77,lI k),(76,lI ah.length),(75,me ab ao ah.length c),(1,me ab ao ah.length c),(2,lJ b2 0)]/\ly NF w0 w [B b85 3 #[Y p6,Y p7],B b2 162 #[Y o0,Y o1,Y o2,Y o3,Y o4,Y o5,Y o6,Y o7]]) 2
   ⟨0,rfl,aa,fun h=>aa,fun h=>aa,⟨rfl,rfl,rfl,rfl,rfl,rfl,rfl,rfl,trivial⟩,hI.d1⟩ ?_
  clear hI;rintro mu ρ w ⟨m,rfl,hm,Av,rm,hH,hI⟩;obtain⟨σ,rfl⟩:=hH.open;by_cases rK:m<2;rotate_left
  .obtain rfl:m=2:=aa;exact Wq<|Vq Z<|Yg Z<|WE ⟨⟨Av aa,rm aa⟩,ug,hI.d0⟩
  obtain⟨z,hz,hzt⟩:∃z:Int,(#[Y p6,Y p7]:lW)[m]?=some (Y z)/\(z=p6/\m=0\/z=p7/\m=1):=by
   match m,rK with
   |0,_=>exact⟨p6,rfl,.inl ⟨rfl,rfl⟩⟩|1,_=>exact⟨p7,rfl,.inr ⟨rfl,rfl⟩⟩
  refine Wq<|Vt Z<|Yu Z<|Wk<|Ws<|Wb<|Wq<|Tx Z nz Z<|V4 (Y _) Z (hI.c0 hz)<|Vb Z<|Wn ?_;have ab8:wS ⟨o0,o1,o2,o3,o4,o5,o6,o7⟩ z->¬OkOp ⟨o0,o1,o2,o3,o4,o5,o6,o7⟩ ah:=fun ht hh=>by
   have:=hh.2.2.2.1 k ow;rw[oX]at this;rcases hzt with⟨rfl,_⟩|⟨rfl,_⟩
   .exact this.1 ht
   exact this.2 ht
  have aBk:¬wS ⟨o0,o1,o2,o3,o4,o5,o6,o7⟩ z->(0<m+1->¬wS ⟨o0,o1,o2,o3,o4,o5,o6,o7⟩ p6)/\(1<m+1->¬wS ⟨o0,o1,o2,o3,o4,o5,o6,o7⟩ p7):=fun BQ=>by
   rcases hzt with⟨rfl,rfl⟩|⟨rfl,rfl⟩
   .exact⟨fun _=>BQ,fun h=>aa⟩
   exact⟨fun _=>Av aa,fun _=>BQ⟩
  by_cases z1:z= -1
  .have BQ:¬wS ⟨o0,o1,o2,o3,o4,o5,o6,o7⟩ z:=fun ht=>ht.1 z1;exact Wq<|V0 Z<|U3 Z<|V3 Z<|V2 Z<|V2 Z<|V2 Z<|V2 Z<|V2 Z<|V2 Z<|V2 Z<|V2 Z<|V2 Z<|V2 Z<|Va Z<|Yf Z<|Wk<|Wr<|Vx Z<|V0 Z<|Wn ⟨2-(m+1),aa,m+1,rfl,aa,(aBk BQ).1,(aBk BQ).2,yE,hI⟩
  by_cases z2:z=o6
  .exact Wq<|V0 Z<|Ug Z<|V3 Z<|V0 Z<|V6 6 Z<|Yd hI Z Z<|Vz Z<|V3 Z<|V2 Z<|V2 Z<|V2 Z<|V2 Z<|Vg Z<|Vg Z<|Yt Z<|Wq<|T9 Z pd Z<|Vn Z<|Wn<|WR<|lV 4 Z<|Dz.bad (ab8 ⟨z1,.inl z2⟩) hI.pu
  by_cases z3:z=o7
  .exact Wq<|V0 Z<|Ug Z<|V3 Z<|V0 Z<|V6 6 Z<|Yd hI Z Z<|Vv Z<|V3 Z<|V0 Z<|V6 7 Z<|Yd hI Z Z<|Vz Z<|Va Z<|Vg Z<|Yt Z<|Wq<|T9 Z pd Z<|Vn Z<|Wn<|WR<|lV 4 Z<|Dz.bad (ab8 ⟨z1,.inr z3⟩) hI.pu
  have BQ:¬wS ⟨o0,o1,o2,o3,o4,o5,o6,o7⟩ z:=fun ht=>by rcases ht.2 with h1|h1;exact z2 h1;exact z3 h1
  exact Wq<|V0 Z<|Ug Z<|V3 Z<|V0 Z<|V6 6 Z<|Yd hI Z Z<|Vv Z<|V3 Z<|V0 Z<|V6 7 Z<|Yd hI Z Z<|Vv Z<|Va Z<|Vg Z<|Yf Z<|Wk<|Wr<|Vx Z<|V0 Z<|Wn ⟨2-(m+1),aa,m+1,rfl,aa,(aBk BQ).1,(aBk BQ).2,yE,hI⟩
 clear hI;rintro ρ w ⟨anp,hH,hI⟩;obtain⟨σ,rfl⟩:=hH.open;refine Ws<|Wq<|Vf Z<|Vp Z pY Z<|V0 Z<|Wn<|Wb ?_;refine Wl (fun mu ρ w=>∃k:Nat,mu=ah.length-k/\k<=ah.length/\(∀j,j<k->(lS ah j).proc=o0->sD (lS ah j) ⟨o0,o1,o2,o3,o4,o5,o6,o7⟩=true)/\lA ρ [(110,lI k),(109,lI ah.length),(108,.slice A ah.length c),(2,lJ b2 0)]/\ly NF w0 w [B b2 162 #[Y o0,Y o1,Y o2,Y o3,Y o4,Y o5,Y o6,Y o7]]) ah.length
  ⟨0,rfl,aa,fun j hj=>aa,⟨rfl,rfl,rfl,rfl,trivial⟩,hI⟩ ?_
 clear hI;rintro mu ρ w ⟨k,rfl,hk,nG,hH,hI⟩;obtain⟨σ,rfl⟩:=hH.open;by_cases ow:k<ah.length;rotate_left
 .obtain rfl:k=ah.length:=aa;exact Wq<|Vq Z<|Yg Z<|WE<|Wq<|Vh Z<|Wn<|WR<|lV 4 Z ⟨hI.pu,.inl ⟨⟨ht,rZ,PY,anp,nG⟩,Z⟩⟩
 obtain⟨ab,ao,rfl,qN⟩:=h.at ow;generalize oX:lS ah k=pk at qN;obtain⟨p0,p1,p2,p3,p4,p5,p6,p7⟩:=pk;refine Wq<|Vt Z<|Yu Z<|Wk<|Ws<|Wb<|Wq<|Tu 8 Z pY Z<|Ur 8 Z (by rfl) (fun k u hk=>hI.my<|qN k u hk)<|T6 (.agg vT) (vT) hI Z ?_;rintro px w- -hI;apply Ta 8 (#[_,_,_,_,_,_,_,_]) (.agg _) hI Z;intro w hI;apply Wn;simp only[pP]at hI;have sY:(p0=o0->sD ⟨p0,p1,p2,p3,p4,p5,p6,p7⟩ ⟨o0,o1,o2,o3,o4,o5,o6,o7⟩=true)->∀j,j<k+1->(lS ah j).proc=o0->sD (lS ah j) ⟨o0,o1,o2,o3,o4,o5,o6,o7⟩=true:=fun hb j hj=>by
  rcases j6 j k with h1|h1
  .exact nG j h1
  obtain rfl:j=k:=aa;rw[oX];exact hb
 by_cases F1:p0=o0
 .cases FQ:sD ⟨p0,p1,p2,p3,p4,p5,p6,p7⟩ ⟨o0,o1,o2,o3,o4,o5,o6,o7⟩with
  |true=>refine Wq<|V6 0 Z<|Yc hI Z Z<|V6 0 Z<|Yd hI Z Z<|Vz Z<|V3 Z<|U1 8 Z hI.g0<|U1 8 Z hI.g1<|V7 [.agg _,.agg _] Z func70 Z<|(SD p0 p1 p2 p3 p4 p5 p6 p7 o0 o1 o2 o3 o4 o5 o6 o7 _).mono ?_;rw[FQ];rintro e w1 ⟨rfl,hp⟩;apply rV;have hI:=hI.pure hp;refine Th Z<|Vg Z<|Yf Z<|Wk ?_;have hI:=hI.d0;exact Wr<|Vx Z<|V0 Z<|Wn ⟨ah.length-(k+1),aa,k+1,rfl,aa,sY<|fun _=>FQ,oy,hI⟩
  |false=>refine Wq<|V6 0 Z<|Yc hI Z Z<|V6 0 Z<|Yd hI Z Z<|Vz Z<|V3 Z<|U1 8 Z hI.g0<|U1 8 Z hI.g1<|V7 [.agg _,.agg _] Z func70 Z<|(SD p0 p1 p2 p3 p4 p5 p6 p7 o0 o1 o2 o3 o4 o5 o6 o7 _).mono ?_;rw[FQ];rintro e w1 ⟨rfl,hp⟩;apply rV;have hI:=hI.pure hp;exact Tm Z<|Vg Z<|Yt Z<|Wq<|T9 Z pd Z<|Vn Z<|Wn<|WR<|lV 4 Z<|Dz.bad (fun hh=>by have:=hh.2.2.2.2 k ow (by rw[oX];exact F1);rw[oX,FQ]at this;cases this) hI.pu
 refine Wq<|V6 0 Z<|Yc hI Z Z<|V6 0 Z<|Yd hI Z Z<|Vv Z<|V3 Z<|V2 Z<|V2 Z<|V2 Z<|V2 Z<|Va Z<|Wn<|Wc false Z<|Wk ?_;have hI:=hI.d0;exact Wr<|Vx Z<|V0 Z<|Wn ⟨ah.length-(k+1),aa,k+1,rfl,aa,sY<|fun e=>ll e F1,oy,hI⟩
theorem tU.take(h:tU w D (.slice A n c) l)(k:Nat)(hk:k<=l.length):tU w D (.slice A k c) (l.take k):=by
 have⟨hn,oT,rJ⟩:=h.len;have Eh:(l.take k).length=k:=aF;unfold tU;rw[Eh];refine⟨A,c,Z,aa,rJ,?_,fun h0=>?_⟩
 .have:∀l:List l9,(l.flatMap pP).length=l.length*8:=by
   intro l
   induction l with
   |nil=>rfl|cons s l ih=>rw[gU,gD,ih];simp[pP];omega
  rw[this,Eh]
 obtain⟨A1,c1,hv,_,_,_,nU⟩:=h;injection hv with e1 e2 e3;subst e1 e3;have⟨b,o,qo,hD,oz⟩:=nU aa;refine⟨b,o,qo,hD,fun j u hj=>oz j u ?_⟩;have e:l.flatMap pP=(l.take k).flatMap pP++(l.drop k).flatMap pP:=by rw[<-gk,fL]
 rw[e,eH (oS hj).1];exact hj
def Ba(l:List l9):Prop:=l.length<=40/\∀k,k<l.length->OkOp (lS l k) (l.take k)
def aih(l:List l9)(w0:lE)(en:Ending)(w':lE):Prop:=Pure w0 w'/\((Ba l/\en=.returned .nilIface)\/(¬Ba l/\∃x,(∃u:Int,x=.iface 36 (.int .i64 u)/\u≠8/\(40<l.length->u=4))/\en=.returned x))
def aii(l:List l9)(w0:lE)(en:Ending)(w':lE):Prop:=Pure w0 w'/\((Ba l/\en=.returned .nilIface)\/(¬Ba l/\∃x,Oc x/\en=.returned x))
def aif(l:List l9)(w0:lE)(en:Ending)(w':lE):Prop:=Pure w0 w'/\((Ba l/\en=.returned .nilIface)\/(¬Ba l/\∃x,R5 x/\en=.returned x))
theorem aaC(A:lO)(n c:Nat)(l:List l9)(D:lF)(w0:lE)(h:tU w0 D (.slice A n c) l):Cq 130 #[.slice A n c] w0 (aih l w0):=by
 have⟨hn,oT,rJ⟩:=h.len;subst hn;have hI:=ly.start (fun _=>False) w0;refine Vo func130 Z<|Wq<|Vh Z<|Wn ?_;by_cases FK:l.length<=40;rotate_left
 .exact Ws<|Wq<|Vf Z<|Vp Z pY Z<|Ty Z<|Yt Z<|Wq<|T9 Z pd Z<|Vn Z<|Wn<|WR<|lV 2 Z ⟨hI.pu,.inr ⟨fun hh=>FK hh.1,_,⟨_,Z,aw,fun _=>rfl⟩,rfl⟩⟩
 refine Ws<|Wq<|Vf Z<|Vp Z pY Z<|Ti Z<|Yf Z<|Wk<|Ws<|Wq<|Vf Z<|Vp Z pY Z<|V0 Z<|Wn<|Wb ?_;refine Wl (fun mu ρ w=>∃k:Nat,mu=l.length-k/\k<=l.length/\(∀j,j<k->OkOp (lS l j) (l.take j))/\lA ρ [(12,lI k),(11,lI l.length),(10,.slice A l.length c),(0,.slice A l.length c)]/\ly NF w0 w []) l.length
  ⟨0,rfl,aa,fun j hj=>aa,⟨rfl,rfl,rfl,rfl,trivial⟩,hI⟩ ?_
 clear hI;rintro mu ρ w ⟨k,rfl,hk,nG,hH,hI⟩;obtain⟨σ,rfl⟩:=hH.open;by_cases ow:k<l.length;rotate_left
 .obtain rfl:k=l.length:=aa;exact Wq<|Vq Z<|Yg Z<|WE<|Wq<|Vh Z<|Wn<|WR<|lV 2 Z ⟨hI.pu,.inl ⟨⟨FK,nG⟩,Z⟩⟩
 obtain⟨ab,ao,rfl,qN⟩:=h.at ow;have vi:=h.take k hk;generalize oX:lS l k=pk at qN;obtain⟨p0,p1,p2,p3,p4,p5,p6,p7⟩:=pk;refine Wq<|Vt Z<|Yu Z<|Wk<|Ws<|Wb<|Wq<|V0 Z<|Tu 8 Z pY Z<|Ur 8 Z (by rfl) (fun k u hk=>hI.my<|qN k u hk)<|T6 (.agg vT) (vT) hI Z ?_;rintro b4 w- -hI;refine Vb Z<|Ta 8 (#[_,_,_,_,_,_,_,_]) (.agg _) hI Z ?_;intro w hI;apply Wn;simp only[pP]at hI;by_cases mw:OkOp ⟨p0,p1,p2,p3,p4,p5,p6,p7⟩ (l.take k)
 .refine Ws<|Yi hI fun Sx hY hZ hI=>?_;refine Wt 0 Z (lL hY fun hI=>aV)<|T8 1 Z<|Vw 2 Z<|Wt 3 Z (lL hY fun hI=>(Rg (sz:=8) (i:=k) Z pY ai Z Z aa))<|Vr 4 Z<|V7 [.agg _,.slice _ _ _] Z func147 Z<|(aaB p0 p1 p2 p3 p4 p5 p6 p7 _ k c (l.take k) D _ (vi.pure hI.pu) aa).mono ?_;rintro e w1 ⟨hp,⟨_,rfl⟩|⟨rT,_⟩⟩;rotate_left
  .exact ll mw rT
  apply rV;have hI:=hI.pure hp;refine Wn ⟨hZ _ hI,(Wt 5 Z (lL hY fun hI=>(by exact XY rfl rfl))<|Yz<|Wq<|Tb Z<|Tn Z mY Z<|Yf Z<|Wk ?_)⟩;have hI:=hI.d0;refine Wr<|Vx Z<|V0 Z<|Wn ⟨l.length-(k+1),aa,k+1,rfl,aa,fun j hj=>?_,oy,hI⟩;rcases j6 j k with h1|h1
  .exact nG j h1
  obtain rfl:j=k:=aa;rw[oX];exact mw
 refine Ws<|Yi hI fun Sx hY hZ hI=>?_;refine Wt 0 Z (lL hY fun hI=>aV)<|T8 1 Z<|Vw 2 Z<|Wt 3 Z (lL hY fun hI=>(Rg (sz:=8) (i:=k) Z pY ai Z Z aa))<|Vr 4 Z<|V7 [.agg _,.slice _ _ _] Z func147 Z<|(aaB p0 p1 p2 p3 p4 p5 p6 p7 _ k c (l.take k) D _ (vi.pure hI.pu) aa).mono ?_;rintro e w1 ⟨hp,⟨VK,_⟩|⟨_,x,⟨u,rfl,hu8⟩,rfl⟩⟩
 .exact ll VK mw
 apply rV;have hI:=hI.pure hp;exact Wn ⟨hZ _ hI,(Wt 5 Z (lL hY fun hI=>(by exact Q0 rfl rfl))<|Yz<|Wq<|Vs Z<|Tp Z mY Z<|Yt Z<|Wq<|Vs Z<|Vn Z<|Wn<|WR<|lV 2 Z ⟨hI.pu,.inr ⟨fun hh=>by have:=hh.2 k ow;rw[oX]at this;exact mw this,_,⟨_,rfl,hu8,fun hh=>ll hh aa⟩,rfl⟩⟩)⟩
theorem ajJ(A:lO)(n c:Nat)(l:List l9)(D:lF)(w0:lE)(h:tU w0 D (.slice A n c) l):Cq 130 #[.slice A n c] w0 (aii l w0):=(aaC A n c l D w0 h).mono fun e w' hh=>⟨hh.1,hh.2.imp id fun⟨h1,x,⟨u,h2,h4,_⟩,h3⟩=>⟨h1,x,⟨u,h2,h4⟩,h3⟩⟩
theorem ajK(A:lO)(n c:Nat)(l:List l9)(D:lF)(w0:lE)(h:tU w0 D (.slice A n c) l):Cq 130 #[.slice A n c] w0 (aif l w0):=(ajJ A n c l D w0 h).mono fun e w' hh=>⟨hh.1,hh.2.imp id fun⟨h1,x,h2,h3⟩=>⟨h1,x,h2.any,h3⟩⟩
def vt(o:Int)(l:List l9)(lP:Int):Prop:=1<=o/\o<=6/\0<=lP/\lP<=1000000/\Ba l/\∀k,k<l.length->zG o (lS l k).kind=true
def GP(o:Int)(l:List l9)(lP:Int)(w0:lE)(en:Ending)(w':lE):Prop:=Pure w0 w'/\((vt o l lP/\en=.returned .nilIface)\/(¬vt o l lP/\∃x,R5 x/\en=.returned x))
def GO(o:Int)(l:List l9)(lP:Int)(u:Int):Prop:=1<=o->o<=6->0<=lP->lP<=1000000->(40<l.length->u=4)/\(Ba l->u=1)
def ZD(o:Int)(l:List l9)(lP:Int)(w0:lE)(en:Ending)(w':lE):Prop:=Pure w0 w'/\((vt o l lP/\en=.returned .nilIface)\/(¬vt o l lP/\∃u,GO o l lP u/\en=.returned (.iface 36 (.int .i64 u))))
theorem GP.bad{o:Int}{lP:Int}{z:Int}(h:¬vt o l lP)(hz:GO o l lP z)(hp:Pure w0 w'):ZD o l lP w0 (.returned (.iface 36 (Y z))) w':=⟨hp,.inr ⟨h,z,hz,rfl⟩⟩
theorem adU(o:Int)(A:lO)(n c:Nat)(l:List l9)(lP:Int)(D:lF)(w0:lE)(h:tU w0 D (.slice A n c) l)(hk:wW w0):Cq 105 #[Y o,.slice A n c,Y lP] w0 (ZD o l lP w0):=by
 have⟨hn,oT,rJ⟩:=h.len;subst hn;have hI:=ly.start (fun _=>False) w0;refine Vo func105 Z<|Wq<|Vh Z<|Wn<|Ws<|Wb ?_;by_cases g1:o<1
 .exact Wq<|V0 Z<|Vt Z<|V3 Z<|V2 Z<|V2 Z<|Vg Z<|V5 Z<|Yt Z<|Wq<|T9 Z pd Z<|Vn Z<|Wn<|WR<|lV 6 Z<|GP.bad (fun hh=>by have:=hh.1;omega) (fun _ _ _ _=>aa) hI.pu
 by_cases g2:6<o
 .exact Wq<|V0 Z<|Vq Z<|V3 Z<|V0 Z<|Ty Z<|Va Z<|V5 Z<|Yt Z<|Wq<|T9 Z pd Z<|Vn Z<|Wn<|WR<|lV 6 Z<|GP.bad (fun hh=>by have:=hh.2.1;omega) (fun _ _ _ _=>aa) hI.pu
 refine Wq<|V0 Z<|Vq Z<|V3 Z<|V0 Z<|Ti Z<|Va Z<|V5 Z<|Yf Z ?_;by_cases g3:lP<0
 .exact Wq<|V0 Z<|Vt Z<|V3 Z<|V2 Z<|V2 Z<|Vg Z<|V5 Z<|Yt Z<|Wq<|T9 Z pd Z<|Vn Z<|Wn<|WR<|lV 6 Z<|GP.bad (fun hh=>by have:=hh.2.2.1;omega) (fun _ _ _ _=>aa) hI.pu
 by_cases g4:1000000<lP
 .exact Wq<|V0 Z<|Vq Z<|V3 Z<|V0 Z<|Ty Z<|Va Z<|V5 Z<|Yt Z<|Wq<|T9 Z pd Z<|Vn Z<|Wn<|WR<|lV 6 Z<|GP.bad (fun hh=>by have:=hh.2.2.2.1;omega) (fun _ _ _ _=>aa) hI.pu
 refine Wq<|V0 Z<|Vq Z<|V3 Z<|V0 Z<|Ti Z<|Va Z<|V5 Z<|Yf Z<|Wk ?_;by_cases mH:Ba l;rotate_left
 .refine Ws<|Wq<|Vf Z<|V7 [.slice _ _ _] Z func130 Z<|(aaC A _ c l D _<|h.pure hI.pu).mono ?_;rintro e w1 ⟨hp,⟨hg,_⟩|⟨_,x,⟨u,rfl, -,F5⟩,rfl⟩⟩
  .exact ll hg mH
  apply rV;have hI:=hI.pure hp;exact Vn Z<|Wn<|Wq<|Vs Z<|Tp Z mY Z<|Yt Z<|Wq<|Vs Z<|Vn Z<|Wn<|WR<|lV 6 Z<|GP.bad (fun hh=>mH hh.2.2.2.2.1) (fun _ _ _ _=>⟨F5,fun hh=>ll hh mH⟩) hI.pu
 have azF:=mH.1;refine Ws<|Wq<|Vf Z<|V7 [.slice _ _ _] Z func130 Z<|(ajK A _ c l D _<|h.pure hI.pu).mono ?_;rintro e w1 ⟨hp,⟨_,rfl⟩|⟨rT,_⟩⟩;rotate_left
 .exact ll mH rT
 apply rV;have hI:=hI.pure hp;refine Vh Z<|Wn<|Wq<|Tb Z<|Tn Z mY Z<|Yf Z<|Wk<|Ws<|Wq<|Vf Z<|Vp Z pY Z<|V0 Z<|Wn<|Wb ?_;refine Wl (fun mu ρ w=>∃k:Nat,mu=l.length-k/\k<=l.length/\(∀j,j<k->zG o (lS l j).kind)/\lA ρ [(33,lI k),(32,lI l.length),(31,.slice A l.length c),(0,Y o)]/\ly NF w0 w []) l.length
  ⟨0,rfl,aa,fun j hj=>aa,⟨rfl,rfl,rfl,rfl,trivial⟩,hI⟩ ?_
 clear hI;rintro mu ρ w ⟨k,rfl,PM,nG,hH,hI⟩;obtain⟨σ,rfl⟩:=hH.open;by_cases ow:k<l.length;rotate_left
 .obtain rfl:k=l.length:=aa;exact Wq<|Vq Z<|Yg Z<|WE<|Wq<|Vh Z<|Wn<|WR<|lV 6 Z ⟨hI.pu,.inl ⟨⟨aa,aa,aa,aa,mH,nG⟩,rfl⟩⟩
 obtain⟨ab,ao,rfl,qN⟩:=h.at ow;generalize oX:lS l k=pk at qN;obtain⟨p0,p1,p2,p3,p4,p5,p6,p7⟩:=pk;refine Wq<|Vt Z<|Yu Z<|Wk<|Ws<|Wb<|Wq<|Tu 8 Z pY Z<|Ur 8 Z (by rfl) (fun k u hk=>hI.my<|qN k u hk)<|T6 (.agg vT) (vT) hI Z ?_;rintro b9 w- -hI;apply Ta 8 (#[_,_,_,_,_,_,_,_]) (.agg _) hI Z;intro w hI;apply Wn;simp only[pP]at hI;cases nC:zG o p2 with
 |true=>
  refine Wq<|V0 Z<|V6 2 Z<|Yc hI Z Z<|V7 [Y _,Y _] Z func131 Z<|(JH o p2 _<|hk.pure hI.pu).mono ?_;rw[nC];rintro e w1 ⟨rfl,hp⟩;apply rV;have hI:=hI.pure hp;refine Th Z<|Yf Z<|Wk ?_;have hI:=hI.d0;refine Wr<|Vx Z<|V0 Z<|Wn ⟨l.length-(k+1),aa,k+1,rfl,aa,fun j hj=>?_,oy,hI⟩;rcases j6 j k with h1|h1
  .exact nG j h1
  obtain rfl:j=k:=aa;rw[oX];exact nC
 |false=>refine Wq<|V0 Z<|V6 2 Z<|Yc hI Z Z<|V7 [Y _,Y _] Z func131 Z<|(JH o p2 _<|hk.pure hI.pu).mono ?_;rw[nC];rintro e w1 ⟨rfl,hp⟩;apply rV;have hI:=hI.pure hp;exact Tm Z<|Yt Z<|Wq<|T9 Z pd Z<|Vn Z<|Wn<|WR<|lV 6 Z<|GP.bad (fun hh=>by have:=hh.2.2.2.2.2 k ow;rw[oX]at this;rw[show zG o _=false from nC]at this;cases this) (fun _ _ _ _=>⟨fun hh=>ll hh aa,fun _=>rfl⟩) hI.pu
theorem ajq(n:Nat):rep (.bool false) n=qS n (fun _=>false):=by apply kH;simp[rep,qS,List.map_const']
theorem vt.key{o:Int}{lP:Int}(h:vt o l lP):∀i,i<l.length->0<=(lS l i).key/\(lS l i).key<8:=fun i hi=>by have h1:=(h.2.2.2.2.1.2 i hi).1;unfold xD qG at h1;simp at h1;omega
def Sq(l:List l9)(dn:pw):Prop:=∀i,i<l.length->0<=(lS l i).ret->dn i=true
theorem agm(sb:Nat)(A:lO)(c:Nat)(l:List l9)(db:Nat)(dn:pw)(D:lF)(w0:lE)(h:tU w0 D (.slice A l.length c) l)(h1:w0.cell? ⟨sb,1,none⟩=some (.slice A l.length c))(h4:w0.cell? ⟨sb,4,none⟩=some (me db 0 l.length l.length))(hd:mV w0 db 4 (qS l.length dn))(hl:l.length<=1000):
  Cq 133 #[lJ sb 0] w0 fun en w'=>(∃b:Bool,en=.returned (.bool b)/\(b=true↔Sq l dn))/\Pure w0 w':=by
 have hI:=ly.start (fun _=>False) w0;refine Vo func133 Z<|Wq<|V5 Z<|Wn<|Ws<|Wq<|V8 Z<|Ve Z<|V6 1 Z<|V4 (.slice _ _ _) Z (hI.my h1)<|Vp Z pY Z<|V0 Z<|Wn<|Wb ?_;refine Wl (fun mu ρ w=>∃k:Nat,mu=l.length-k/\k<=l.length/\(∀i,i<k->0<=(lS l i).ret->dn i)/\lA ρ [(10,lI k),(9,lI l.length),(8,.slice A l.length c),(0,lJ sb 0)]/\ly NF w0 w []) l.length
  ⟨0,rfl,aa,fun j hj=>aa,⟨rfl,rfl,rfl,rfl,trivial⟩,hI⟩ ?_
 clear hI;rintro mu ρ w ⟨k,rfl,PM,nG,hH,hI⟩;obtain⟨σ,rfl⟩:=hH.open;by_cases ow:k<l.length;rotate_left
 .obtain rfl:k=l.length:=aa;exact Wq<|Vq Z<|Yg Z<|WE<|Wq<|V5 Z<|Wn<|WR<|lV 2 Z ⟨⟨true,Z,by simp;exact nG⟩,hI.pu⟩
 obtain⟨ab,ao,rfl,qN⟩:=h.at ow;have vA:=(hd.cell k).trans<|OF (n:=l.length) dn ow;generalize oX:lS l k=pk at qN;obtain⟨p0,p1,p2,p3,p4,p5,p6,p7⟩:=pk;have sY:(0<=p7->dn k)->∀i,i<k+1->0<=(lS l i).ret->dn i:=fun hb j hj=>by
  rcases j6 j k with h1|h1
  .exact nG j h1
  obtain rfl:j=k:=aa;rw[oX];exact hb
 refine Wq<|Vt Z<|Yu Z<|Wk<|Ws<|Wb<|Wq<|V0 Z<|Tu 8 Z pY Z<|Ur 8 Z (by rfl) (fun k u hk=>hI.my<|qN k u hk)<|T6 (.agg vT) (vT) hI Z ?_;rintro b4 w- -hI;refine Vb Z<|Ta 8 (#[_,_,_,_,_,_,_,_]) (.agg _) hI Z ?_;intro w hI;apply Wn;simp only[pP]at hI;by_cases zB:0<=p7
 .cases BK:dn k with
  |true=>rw[BK]at vA;refine Wq<|V6 7 Z<|Yc hI Z Z<|Tw Z<|V3 Z<|V8 Z<|Ve Z<|V6 4 Z<|V4 (.slice _ _ _) Z (hI.my h4)<|V0 Z<|Tx Z oZ Z<|V4 (.bool _) Z (hI.my vA)<|Th Z<|Vg Z<|Yf Z<|Wk ?_;have hI:=hI.d0;exact Wr<|Vx Z<|V0 Z<|Wn ⟨l.length-(k+1),aa,k+1,rfl,aa,sY<|fun _=>BK,oy,hI⟩
  |false=>rw[BK]at vA;exact Wq<|V6 7 Z<|Yc hI Z Z<|Tw Z<|V3 Z<|V8 Z<|Ve Z<|V6 4 Z<|V4 (.slice _ _ _) Z (hI.my h4)<|V0 Z<|Tx Z oZ Z<|V4 (.bool _) Z (hI.my vA)<|Tm Z<|Vg Z<|Yt Z<|Wq<|V5 Z<|Wn<|WR<|lV 2 Z ⟨⟨false,Z,by simp;exact fun hs=>by have:=hs k ow (by rw[oX];exact zB);rw[BK]at this;cases this⟩,hI.pu⟩
 refine Wq<|V6 7 Z<|Yc hI Z Z<|Ua Z<|V3 Z<|V2 Z<|V2 Z<|V2 Z<|V2 Z<|V2 Z<|V2 Z<|V2 Z<|V2 Z<|Va Z<|Yf Z<|Wk ?_;have hI:=hI.d0;exact Wr<|Vx Z<|V0 Z<|Wn ⟨l.length-(k+1),aa,k+1,rfl,aa,sY<|fun e=>ll e zB,oy,hI⟩
structure N7(f:FuncId)(ab:l9->l9->Bool):Prop where
 fn:∃fn:Func,prog.funcs[f]?=some fn/\(fn.name== "runtime.NumGoroutine")=false/\fn.body.isNone=false
 calls:∀p q W,Cq f #[.agg (pP p).toArray,.agg (pP q).toArray] W fun en w'=>en=.returned (.bool<|ab p q)/\Pure W w'
def Xz(l:List l9)(ab:l9->l9->Bool)(dn:pw)(i:Nat):Prop:=dn i=false/\∀k,k<l.length->k≠i->dn k=false->ab (lS l k) (lS l i)=false
theorem agz(sb:Nat)(A:lO)(c:Nat)(l:List l9)(db f:Nat)(ab:l9->l9->Bool)(dn:pw)(i:Nat)(D:lF)(w0:lE)(h:tU w0 D (.slice A l.length c) l)(h1:w0.cell? ⟨sb,1,none⟩=some (.slice A l.length c))(h3:w0.cell? ⟨sb,3,none⟩=some (.func (.func f) #[] #[]))(h4:w0.cell? ⟨sb,4,none⟩=some (me db 0 l.length l.length))(hd:mV w0 db 4 (qS l.length dn))(hl:l.length<=1000)(hi:i<l.length)(hf:N7 f ab):
  Cq 135 #[lJ sb 0,lI i] w0 fun en w'=>(∃b:Bool,en=.returned (.bool b)/\(b=true↔Xz l ab dn i))/\Pure w0 w':=by
 obtain⟨⟨fn,f1,f2,f3⟩,yJ⟩:=hf;have hI:=ly.start (fun _=>False) w0;have wz:=(hd.cell i).trans<|OF (n:=l.length) dn hi;refine Vo func135 Z<|Wq<|V5 Z<|Wn ?_;cases PC:dn i with
 |true=>rw[PC]at wz;exact Ws<|Wq<|V8 Z<|Ve Z<|V6 4 Z<|V4 (.slice _ _ _) Z (hI.my h4)<|V0 Z<|Tx Z oZ Z<|V4 (.bool _) Z (hI.my wz)<|Yt Z<|Ws<|Wr<|V5 Z<|Wn<|WR<|lV 4 Z ⟨⟨false,Z,by simp;exact fun hs=>by have:=hs.1;rw[PC]at this;cases this⟩,hI.pu⟩|false=>
 rw[PC]at wz;refine Ws<|Wq<|V8 Z<|Ve Z<|V6 4 Z<|V4 (.slice _ _ _) Z (hI.my h4)<|V0 Z<|Tx Z oZ Z<|V4 (.bool _) Z (hI.my wz)<|Yf Z<|Wk<|Ws<|Wq<|V8 Z<|Ve Z<|V6 1 Z<|V4 (.slice _ _ _) Z (hI.my h1)<|Vp Z pY Z<|V0 Z<|Wn<|Wb ?_;refine Wl (fun mu ρ w=>∃k:Nat,mu=l.length-k/\k<=l.length/\(∀j,j<k->j≠i->dn j=false->ab (lS l j) (lS l i)=false)/\lA ρ [(19,lI k),(18,lI l.length),(17,.slice A l.length c),(0,lJ sb 0),(1,lI i)]/\ly NF w0 w []) l.length
  ⟨0,rfl,aa,fun j hj=>aa,⟨rfl,rfl,rfl,rfl,rfl,trivial⟩,hI⟩ ?_
 rintro mu ρ w ⟨k,rfl,PM,nG,hH,hI⟩;obtain⟨σ,rfl⟩:=hH.open;by_cases ow:k<l.length;rotate_left
 .obtain rfl:k=l.length:=aa;exact Wq<|Vq Z<|Yg Z<|WE<|Wq<|V5 Z<|Wn<|WR<|lV 4 Z ⟨⟨true,Z,by simp;exact⟨PC,nG⟩⟩,hI.pu⟩
 obtain⟨bA,oA,rfl,qN⟩:=h.at ow;have⟨bA',oA',UR,ao4⟩:=h.at hi;injection UR with UR;injection UR with e1 e2;subst e1 e2;have vA:=(hd.cell k).trans<|OF (n:=l.length) dn ow;have sY:(k≠i->dn k=false->ab (lS l k) (lS l i)=false)->∀j,j<k+1->j≠i->dn j=false->ab (lS l j) (lS l i)=false:=fun hb j hj=>by
  rcases j6 j k with h1|h1
  .exact nG j h1
  obtain rfl:j=k:=aa;exact hb
 refine Wq<|Vt Z<|Yu Z<|Wk<|Ws<|Wb<|Wq<|V0 Z<|Tu 8 Z pY Z<|Ur 8 Z (by rfl) (fun k u hk=>hI.my<|qN k u hk)<|T6 (.agg vT) (vT) hI Z ?_;rintro b6 w- -hI;refine Vb Z<|Ta 8 (#[_,_,_,_,_,_,_,_]) (.agg _) hI Z ?_;intro w hI;apply Wn;by_cases Ef:k=i
 .refine Ws<|Yi hI fun Sx hY hZ hI=>?_;refine Vw 0 Z<|Vw 1 Z<|U7 2 Z<|Te 3 Z<|Vl 4 Z Z<|Vl 5 Z Z<|Vl 6 Z Z<|Vl 7 Z Z<|Vl 8 Z Z<|Vl 9 Z Z<|Vl 10 Z Z<|Vl 11 Z Z<|Ts 12 Z<|Te 13 Z<|Vl 14 Z Z<|Vl 15 Z Z<|Vl 16 Z Z<|Vl 17 Z Z<|Vl 18 Z Z<|Vl 19 Z Z<|Vl 20 Z Z<|Vl 21 Z Z<|Vl 22 Z Z<|Vl 23 Z Z<|Vl 24 Z Z<|Vl 25 Z Z<|Vl 26 Z Z<|Ts 27 Z<|Yz<|Wc false Z<|Wk ?_;have hI:=hI.d0;exact Wr<|Vx Z<|V0 Z<|Wn ⟨l.length-(k+1),aa,k+1,rfl,aa,sY<|fun e=>ll Ef e,ug,hI⟩
 cases PD:dn k with
 |true=>rw[PD]at vA;refine Ws<|Yi hI fun Sx hY hZ hI=>?_;refine Vw 0 Z<|Vw 1 Z<|Ut 2 Z<|Te 3 Z<|Vj 4 Z<|Vk 5 Z<|Vd 6 4 Z<|V9 7 (.slice _ _ _) Z (Yo hY h4)<|Vw 8 Z<|Uc 9 Z oZ Z<|V9 10 (.bool _) Z (Yo hY vA)<|Wt 11 Z (lL hY fun hI=>(by exact Ic rfl rfl))<|U6 12 Z<|Te 13 Z<|Vl 14 Z Z<|Vl 15 Z Z<|Vl 16 Z Z<|Vl 17 Z Z<|Vl 18 Z Z<|Vl 19 Z Z<|Vl 20 Z Z<|Vl 21 Z Z<|Vl 22 Z Z<|Vl 23 Z Z<|Vl 24 Z Z<|Vl 25 Z Z<|Vl 26 Z Z<|Ts 27 Z<|Yz<|Wc false Z<|Wk ?_;have hI:=hI.d0;exact Wr<|Vx Z<|V0 Z<|Wn ⟨l.length-(k+1),aa,k+1,rfl,aa,sY (fun _ e=>by rw[PD]at e;cases e),ug,hI⟩
 |false=>
  rw[PD]at vA;cases qU:ab (lS l k) (lS l i)with
  |true=>refine Ws<|Yi hI fun Sx hY hZ hI=>?_;refine Vw 0 Z<|Vw 1 Z<|Ut 2 Z<|Te 3 Z<|Vj 4 Z<|Vk 5 Z<|Vd 6 4 Z<|V9 7 (.slice _ _ _) Z (Yo hY h4)<|Vw 8 Z<|Uc 9 Z oZ Z<|V9 10 (.bool _) Z (Yo hY vA)<|Wt 11 Z (lL hY fun hI=>(by exact Re rfl rfl))<|U6 12 Z<|Te 13 Z<|Vj 14 Z<|Vk 15 Z<|Vd 16 3 Z<|V9 17 (.func _ _ _) Z (Yo hY h3)<|Wt 18 Z (lL hY fun hI=>aV)<|Vj 19 Z<|Vk 20 Z<|Vd 21 1 Z<|V9 22 (.slice _ _ _) Z (Yo hY h1)<|Vw 23 Z<|Uk 24 8 Z pY Z<|Wt 25 Z (lL hY fun hI=>bh)<|Vr 26 Z<|z8 Z Z Z (Nz (f:=f) (first:=[]) (cap:=[]) (vs:=[.agg _,.agg _]) Z Z f1 f2 f3 Z)<|(yJ (lS l k) (lS l i) _).mono ?_;rw[qU];rintro e w1 ⟨rfl,hp⟩;apply rV;have hI:=hI.pure hp;exact Wn ⟨hZ _ hI,(U6 27 Z<|Yz<|Wc true Z<|Wq<|V5 Z<|Wn<|WR<|lV 4 Z ⟨⟨false,Z,by simp;exact fun hs=>by have:=hs.2 k ow Ef PD;rw[qU]at this;cases this⟩,hI.pu⟩)⟩
  |false=>refine Ws<|Yi hI fun Sx hY hZ hI=>?_;refine Vw 0 Z<|Vw 1 Z<|Ut 2 Z<|Te 3 Z<|Vj 4 Z<|Vk 5 Z<|Vd 6 4 Z<|V9 7 (.slice _ _ _) Z (Yo hY h4)<|Vw 8 Z<|Uc 9 Z oZ Z<|V9 10 (.bool _) Z (Yo hY vA)<|Wt 11 Z (lL hY fun hI=>(by exact Re rfl rfl))<|U6 12 Z<|Te 13 Z<|Vj 14 Z<|Vk 15 Z<|Vd 16 3 Z<|V9 17 (.func _ _ _) Z (Yo hY h3)<|Wt 18 Z (lL hY fun hI=>aV)<|Vj 19 Z<|Vk 20 Z<|Vd 21 1 Z<|V9 22 (.slice _ _ _) Z (Yo hY h1)<|Vw 23 Z<|Uk 24 8 Z pY Z<|Wt 25 Z (lL hY fun hI=>bh)<|Vr 26 Z<|z8 Z Z Z (Nz (f:=f) (first:=[]) (cap:=[]) (vs:=[.agg _,.agg _]) Z Z f1 f2 f3 Z)<|(yJ (lS l k) (lS l i) _).mono ?_;rw[qU];rintro e w1 ⟨rfl,hp⟩;apply rV;have hI:=hI.pure hp;refine Wn ⟨hZ _ hI,(U6 27 Z<|Yz<|Wc false Z<|Wk ?_)⟩;have hI:=hI.d0;exact Wr<|Vx Z<|V0 Z<|Wn ⟨l.length-(k+1),aa,k+1,rfl,aa,sY<|fun _ _=>qU,ug,hI⟩
end
section
open Tryz
variable{k:Int}{l:List l9}{c n:Nat}{D:lF}{A:lO}{w w' w0:lE}
section
variable{o:Int}{l:List l9}{ab:l9->l9->Bool}
end
theorem ahr{p k:Int}{l:mq}(h:xD p k l):∀x∈l, -1000000<=x/\x<=1000000:=by unfold xD qG at h;simp at h;exact h.1.1
theorem aiZ{o:Int}{l:List l9}{lP:Int}(h:vt o l lP):KU l:=by
 refine⟨h.key,fun i hi=>?_,fun i hi=>?_,fun i hi=>?_⟩
 .have:=ahr (h.2.2.2.2.1.2 i hi).1 (lS l i).a aq;unfold wK;omega
 .have:=ahr (h.2.2.2.2.1.2 i hi).1 (lS l i).b aq;unfold wK;omega
 have⟨h1,_,h3⟩:=(h.2.2.2.2.1.2 i hi).2.2.1;omega
section
variable{o:Int}{l:List l9}{ab:l9->l9->Bool}
theorem Qt{rec:qM->Int×qM}:∀(r:nN) (s:qM),(sK o l ab rec r s).1=2->(sK o l ab rec r s).2.dn=s.dn/\(sK o l ab rec r s).2.sts=s.sts/\(sK o l ab rec r s).2.ord=s.ord
 |[],s,_=>⟨rfl,rfl,rfl⟩
 |i::r,s,h=>by
  unfold sK at h|-;split
  .rename_i hx;rw[hx]at h;exact Qt r s h
  rename_i hx;rw[hx]at h;simp only at h;split
  .rename_i hg;rw[hg]at h;exact Qt r s h
  rename_i st' hg;rw[hg]at h;simp only at h;by_cases h2:(rec<|Cc l s i st').1=2
  .rw[lq h2]at h|-;exact Qt r ⟨s.dn,s.sts,s.ord,(rec<|Cc l s i st').2.mG⟩ h
  rw[lp h2]at h;exact ll h h2
theorem alv{lP:Nat}:∀(f:Nat) (s:qM),(qg o l ab lP f s).1=2->(qg o l ab lP f s).2.dn=s.dn/\(qg o l ab lP f s).2.sts=s.sts/\(qg o l ab lP f s).2.ord=s.ord
 |0,s,_=>⟨rfl,rfl,rfl⟩
 |f+1,s,h=>by
  cases ha:DR l s.dn with
  |true=>rw[abb ha];exact⟨rfl,rfl,rfl⟩|false=>
   by_cases hk:zF l.length s.dn s.sts∈s.mG
   .rw[abd ha hk];exact⟨rfl,rfl,rfl⟩
   by_cases hb:s.mG.length=lP
   .rw[abe ha hk hb];exact⟨rfl,rfl,rfl⟩
   rw[abc ha hk hb]at h|-;exact Qt _ _ h
theorem alw{f lP:Nat}{s:qM}(h:(qg o l ab lP f s).1=2):(qg o l ab lP f s).2=⟨s.dn,s.sts,s.ord,(qg o l ab lP f s).2.mG⟩:=by
 have⟨h1,h2,h3⟩:=alv f s h;generalize (qg o l ab lP f s).2=t at h1 h2 h3|-;cases t;subst h1 h2 h3
 rfl
end
theorem asi{l:List l9}{i k:Nat}(h:k<i):lS (l.take i) k=lS l k:=by unfold lS;rw[eu,eu,eM h]
section
variable{o:Int}{l:List l9}{ab:l9->l9->Bool}
end
theorem aqy{s:pf}{k n:Nat}:n∈sZ s k↔n<k/\sg s n=false:=by unfold sZ sg;rw[jd,jy];simp
theorem aqz(s:pf)(k:Nat):(sZ s k).Pairwise (· < ·):=List.Pairwise.filter _ List.pairwise_lt_range
def uN(s:pf)(k:Nat):Nat:=(sZ s s.ops.length).getD k 0
theorem aeH(s:pf):(vK s).length=(sZ s s.ops.length).length:=by simp[vK]
theorem aeG{s:pf}{k:Nat}(hk:k<(vK s).length):lS (vK s) k=lS s.ops (uN s k)/\uN s k<s.ops.length/\sg s (uN s k)=false:=by
 have nY:k<(sZ s s.ops.length).length:=by rw[<-aeH];exact hk
 have e1:uN s k=(sZ s s.ops.length)[k]:=by unfold uN;rw[eu,nM nY];rfl
 have hm:=aqy.1<|iw nY;rw[e1];refine⟨?_,hm⟩;unfold lS vK;rw[eu,gW,nM nY]
 rfl
theorem aqx{s:pf}{j k:Nat}(qE:j<k)(hk:k<(vK s).length):uN s j<uN s k:=by rw[aeH]at hk;unfold uN;rw[eu,eu,nM hk,nM<|show j<(sZ s s.ops.length).length by omega];exact eI.1 (aqz s _) j k aa hk qE
theorem abn{e:Ev}(h:xd e):(0<=e.proc/\e.proc<=7)/\(0<=e.key/\e.key<=7)/\(-1000000<=e.a/\e.a<=1000000)/\(-1000000<=e.b/\e.b<=1000000)/\(-1000000<=e.res/\e.res<=1000000)/\(1<=e.kind/\e.kind<=12):=by unfold xd xD qG at h;simp at h;omega
theorem axa{p k a b r c t:Int}(hp:0<=p/\p<=7)(hk:0<=k/\k<=7)(ha: -1000000<=a/\a<=1000000)(hb: -1000000<=b/\b<=1000000)(hr: -1000000<=r/\r<=1000000)(hc: -1000000<=c/\c<=1000000)(ht: -1000000<=t/\t<=1000000):xD p k [a,b,r,c,t]:=by unfold xD qG;simp;omega
theorem asD{l:List Ev}{s:pf}(h:yq l l.length s)(hl:l.length<=120)(FK:(vK s).length<=40):Ba (vK s):=by
 refine⟨FK,fun k hk=>?_⟩;have⟨ek,nC,PL⟩:=aeG hk;have⟨c,oT,rJ,e,he,oE,mH,ep,eke,eki,ea,eb⟩:=h.called _ nC;have xm:=abn mH;have aBn:((vK s).take k).length=k:=aF;have uu:((lS s.ops<|uN s k).ret= -1/\(lS s.ops<|uN s k).res=0)\/(0<=(lS s.ops<|uN s k).ret/\(lS s.ops<|uN s k).ret<120/\(lS s.ops<|uN s k).call<(lS s.ops<|uN s k).ret/\(-1000000<=(lS s.ops<|uN s k).res/\(lS s.ops<|uN s k).res<=1000000)):=by
  rcases h.ret _ nC with h1|⟨r,h1,h2,h3,_,e',_,_,h6,h7⟩
  .exact .inl h1
  refine .inr ⟨aa,aa,aa,?_⟩;have:=abn h6;rw[<-h7];omega
 have pr:∀j,j<k->lS ((vK s).take k) j=lS s.ops (uN s j)/\uN s j<uN s k/\sg s (uN s j)=false:=fun j hj=>by rw[asi hj];have⟨e1,_,e3⟩:=aeG (s:=s) (k:=j) aa;exact⟨e1,aqx hj hk,e3⟩
 rw[ek];refine⟨?_,?_,⟨?_,?_,?_,?_⟩,fun j hj=>?_,fun j hj hp=>?_⟩
 .rw[<-ep,<-eke,<-ea,<-eb,rJ];refine axa xm.1 xm.2.1 xm.2.2.1 xm.2.2.2.1 ?_ aa ?_
  .rcases uu with h1|h1
   .rw[h1.2];omega
   omega
  rcases uu with h1|h1
  .rw[h1.1];omega
  omega
 .rw[<-eki];unfold qG;simp;omega
 .rw[rJ];omega
 .rw[aBn];rintro⟨h0,h1⟩;have⟨e1,e2,_⟩:=pr (k-1) aa;rw[e1]at h1;have:=h.Rh _ _ e2 nC;omega
 .rintro⟨h1,h2⟩;rcases uu with h3|h3
  .exact h1 h3.1
  omega
 .rintro⟨h1,h2⟩;rcases uu with h3|h3
  .exact h2 h3.2
  omega
 .rw[aBn]at hj;have⟨e1,e2,e3⟩:=pr j hj;rw[e1];have⟨c',azh,azk,_⟩:=h.called _<|Nat.lt_trans e2 nC;have azV:=h.Rh _ _ e2 nC;refine⟨?_,?_⟩
  .rintro⟨_,h1|h1⟩
   .omega
   rcases uu with h3|h3
   .rw[h3.1]at h1;omega
   omega
  rintro⟨h0,h1|h1⟩
  .rcases h.ret _ (Nat.lt_trans e2 nC)with h3|⟨r,h3,h4,h5,_,e',h6,h7,_⟩
   .exact h0 h3.1
   rw[h4,rJ]at h1;have:r=c:=aa;subst this;rw[he]at h6;injection h6 with h6;subst h6;omega
  refine h.once _ _ e2 nC (fun hh=>?_) h1;rw[hh]at h1;exact h0 h1
 rw[aBn]at hj;have⟨e1,e2,e3⟩:=pr j hj;rw[e1]at hp|-;have⟨h1,h2⟩:=h.order _ _ e2 nC hp e3;unfold sD;simp[h1,h2]
end
end Go.Proofs.YtfjcghhjlmfggaaGreatDoor
namespace Go.Proofs.YtfjcghhjlmfggaaGreatDoor
theorem aY{p:Prop}(h:p:=by simp[IntKind.wrap,IntKind.signed,IntKind.bits];omega):p:=h
theorem cQ{p:Prop}(h:p:=by exact Nat.zero_le _):p:=h
theorem cU{p:Prop}(h:p:=by unfold rz;rw[hb];rfl):p:=h
theorem dw{p:Prop}(h:p:=by have:=hI.ni.size;omega):p:=h
theorem du{p:Prop}(h:p:=by simp[Nat.blt,tK];omega):p:=h
section
open Tryz
open Go.RowKit
variable{z:Int}{l:List l9}{L:Loc}{a b lP c c' db e eb f i j k n sb:Nat}{sts:sB}{D:lF}{A A':lO}{v:lH}{w w' w0:lE}
abbrev mP(b:Nat):Value:=.pointer (some ⟨b,0,none⟩)
def mX(q:Nat)(nv:lH)(u:Nat):lN:=B q 80 #[nv,.int .i64 (u:Int)]
theorem OB(nums:mq)(u:Nat)(n:Int)(h:0<n):0<=xL nums u n/\xL nums u n<n:=⟨iS _ aa,Int.emod_lt_of_pos _ h⟩
theorem ahQ{n:Int}(h:0<n)(h2:n<=9223372036854775807):IntKind.u64.wrap n=n:=aY
theorem aal(nums:mq)(u:Nat)(n:Int)(h:0<n)(h2:n<=9223372036854775807):IntKind.i64.wrap (Int.tmod (IntKind.u64.wrap (nums.getD u 0)) (IntKind.u64.wrap n))=xL nums u n:=by have e1:IntKind.u64.wrap n=n:=aY;have h0:0<=IntKind.u64.wrap (nums.getD u 0):=aY;have h3:=OB nums u n h;rw[e1,ej h0];show IntKind.i64.wrap (xL nums u n)=xL nums u n;rw[wrap64_in aa aa]
theorem SE(S D:lF)(w0 w:lE)(H:List lN)(q:Nat)(A:lO)(len c:Nat)(nums:mq)(u:Nat)(n:Int)(hI:ly S w0 w (mX q (.slice A len c) u::H))(hN:pL w0 D (.slice A len c) nums)(hD:∀k,D k->¬S k)(hn:0<n)(FY:n<=9223372036854775807)(hu:u<9223372036854775807):
  Cq 56 #[mP q,Y n] w fun e w'=>e=.returned (Y<|xL nums u n)/\ly S w0 w' (mX q (.slice A len c) (u+1)::H):=by
 unfold mX at hI;have aBn:len=nums.length:=by obtain⟨A',c',hv,_⟩:=hN;injection hv
 refine Vo func56 Z<|Wq<|Vb Z<|Wn<|Ws<|Wq<|V8 Z<|Wv Z (Dg Z underlying77 Z Z)<|V3 Z<|V0 Z<|Wv Z (by exact X5 rfl rfl rfl aa)<|Va Z<|Yf Z<|Wk<|Wq<|Vb Z<|Wn ?_;have nU:u<len->∃b o,A=some ⟨b,o,none⟩/\D b/\w0.cell? ⟨b,o+u,none⟩=some (Y<|nums.getD u 0):=fun h=>by
  have⟨b,o,hA,hb,_,hc⟩:=hN.get (k:=u) aa;refine⟨b,o,hA,hb,?_⟩;rw[hc,eu,nM aa]
  rfl
 have rU:∀(x:Int) (w:lE),ly S w0 w (B q 80 #[.slice A len c,lI u]::H)->True:=fun _ _ _=>trivial;by_cases lX:u<len
 .obtain⟨b,o,rfl,hb,hc⟩:=nU lX;refine Ws<|Ws<|Yi hI fun Sx hY hZ hI=>?_;refine Vj 0 Z<|Vk 1 Z<|Vd 2 1 Z<|Ye 3 hY Z Z<|Vj 4 Z<|Vk 5 Z<|Vd 6 0 Z<|V9 7 (.slice _ _ _) Z (lL hY fun h=>h.c0 Z)<|Uj 8 Z nz Z<|Wt 9 Z (lL hY fun hI=>(by exact Ra rfl rfl rfl aa))<|Yz<|Wc true Z<|Yi hI fun Sx hY hZ hI=>?_;refine Vj 0 Z<|Vk 1 Z<|Vd 2 0 Z<|V9 3 (.slice _ _ _) Z (lL hY fun h=>h.c0 Z)<|Vj 4 Z<|Vk 5 Z<|Vd 6 1 Z<|Ye 7 hY Z Z<|Wt 8 Z (lL hY fun hI=>(zN (i:=u) Z nz ai Z Z aa))<|V9 9 (Y _) Z (lL hY fun hI=>hI.old hc<|hD b hb)<|Um 10 Z<|Yz<|Wq<|V8 Z<|Ve Z<|V6 1 Z<|Yc hI Z Z<|Vx Z<|Ve Z<|V6 1 Z<|xI (u:=Y _) hI Z Z Z Z Z Z ai Z Z Z ?_;intro w hI;refine Wn<|Wq<|V0 Z<|Wv Z (EH Z sM Cj Z)<|V0 Z<|Wv Z (EH Z sM Cj Z)<|Wv Z (Yl Z Z Z<|by rw[ahQ hn FY];omega)<|Wv Z (EH Z Cj sM Z)<|Vb Z<|Wn<|WR<|lV 4 Z ⟨?_,hI⟩;rw[<-aal nums u n hn FY]
  rfl
 refine Ws<|Ws<|Yi hI fun Sx hY hZ hI=>?_;refine Vj 0 Z<|Vk 1 Z<|Vd 2 1 Z<|Ye 3 hY Z Z<|Vj 4 Z<|Vk 5 Z<|Vd 6 0 Z<|V9 7 (.slice _ _ _) Z (lL hY fun h=>h.c0 Z)<|Uj 8 Z nz Z<|Wt 9 Z (lL hY fun hI=>(by exact Q9 rfl rfl rfl aa))<|Yz<|Wc false Z<|Wk<|Wq<|V8 Z<|Ve Z<|V6 1 Z<|Yc hI Z Z<|Vx Z<|Ve Z<|V6 1 Z<|xI (u:=Y _) hI Z Z Z Z Z Z ai Z Z Z ?_;intro w hI;refine Wn<|Wq<|V0 Z<|Wv Z (EH Z sM Cj Z)<|V0 Z<|Wv Z (EH Z sM Cj Z)<|Wv Z (Yl Z Z Z<|by rw[ahQ hn FY];omega)<|Wv Z (EH Z Cj sM Z)<|Vb Z<|Wn<|WR<|lV 4 Z ⟨?_,hI⟩;rw[<-aal nums u n hn FY,eu,fF aa]
 rfl
end
section
open Tryz
open Go
variable{z:Int}{l:List l9}{L:Loc}{a b lP c c' db e eb f i j k n sb:Nat}{sts:sB}{D:lF}{A A':lO}{v:lH}{w w' w0:lE}
section
variable{P:lY}{N:Nat}{aBi:nI}{Q:pg}{rest:List Oper}{ρ:lB}{o:Oper}{w0 w w':lE}{S:lF}{H:List lN}{d t:Nat}{x y z:mN}{v:lH}
theorem afm{s:ByteArray}{k:IntKind}{b:UInt8}{c:Int}(ho:o.op=.index t x y)(ht:P.underlying t=some .string)(hx:ev ρ x=.string s)(hy:ev ρ y=.int k (i:Int))(hb:s[i]?=some b)(hc:(b.toNat:Int)=c):lQ P ρ o w (.int .u8 c):=by subst hc;simp[lQ,execOp,ho,hx,hy,Instr.index,asIntOf,jD ht,hb]
theorem atv{cs:lW}{k:IntKind}(ho:o.op=.index t x y)(ht:P.underlying t=some (.array n e))(he:yW P e)(hs:pq P e 1)(hx:ev ρ x=.agg cs)(hy:ev ρ y=.int k (i:Int))(hi:i<n)(hv:cs[i]?=some v):lQ P ρ o w v:=by have mr:(i:Int)<(n:Int):=aa;simp[lQ,execOp,ho,hx,hy,Instr.index,asIntOf,jD ht,yZ hs,hi,part,run_isAgg_plain he,hv]
theorem atU{g:Nat}{k:IntKind}(ho:o.op=.slice t x (some y) none none)(ht:P.underlying t=some (.array n e))(hs:pq P e 1)(hx:ev ρ x=lJ g j)(hy:ev ρ y=.int k (i:Int))(hi:i<n):lQ P ρ o w (me g (j+i) (n-i) (n-i)):=by have h1:¬n=i:=aa;have h2:(i:Int)<=(n:Int):=aa;have h3:i<=n:=aa;simp[lQ,execOp,ho,hx,hy,Instr.sliceAt,Instr.sureAddr,Instr.sliceBounds,Instr.sliceBound,asIntOf,jD ht,yZ hs,h1,h3,jU]
theorem atr{s:Nat}{base:Nat}{l:nN}(ho:o.op=.convert s t x)(hs:P.underlying s=some (.slice e))(he:P.underlying e=some (.int .u8))(ht:P.underlying t=some .string)(hx:ev ρ x=.slice A n c)(hr:w.ownsRow base e 1 (.slice A n c) n (l.map fun b:Nat=>Value.int .u8 (b:Int)))(hb:∀b∈l,b<256)(h0:0<n):lQ P ρ o w (.string (tM l)):=by
 obtain⟨g,o',rfl⟩:=Ri hr h0 aa;have hl:l.length=n:=by have:=hr.1;simpa using this
 have h:=run_convert_bytes_back (P:=P) w s t e ⟨g,o',none⟩ c (l.map UInt8.ofNat) hs he ht (fun j hj=>by
  have xl:j<l.length:=by simpa using hj
  rw[jU];have h2:((l.map UInt8.ofNat)[j].toNat:Int)=(l[j]:Int):=by have:=hb _<|iw xl;simp;omega
  rw[h2]
  exact EO hr (by simp[xl]) h0)
 have e1:(l.map UInt8.ofNat).length=n:=by simpa using hl
 rw[e1]at h;simp[lQ,execOp,ho,hx,h,tM]
theorem aiG{by_ base:Nat}{zv:lH}(hI:ly S w0 w H)(hw:nH aBi ρ o)(hd:o.dst=some d)(hN:Nat.blt d N)(ho:o.op=.makeSlice t x y)(hx:ev ρ x=Y 0)(hy:ev ρ y=lI n)
  (ht:P.underlying t=some (.slice e)) (hi:(P.info? e).map (fun i=>(i.zero,i.size,i.bytes))=some (some zv,1,by_)) (hb:by_*n<=281474976710656) (sS:n<=9223372036854775807) (sF:base<=w.heap.size)
  (h:∀g w',Pure w w'->g=w.heap.size->ly S w0 w' (lz base e 1 (some ⟨g,0,none⟩) 0 n []::H)->WL P N aBi Q rest (upd ρ d<|me g 0 0 n) w'):WL P N aBi Q (o::rest) ρ w:=by
 cases hp:P.info? e with
 |none=>simp[hp]at hi|some i=>simp only[hp,jk,ia,jP]at hi;obtain⟨h1,h2,h3⟩:=hi;have⟨w',hr,h4,h5⟩:=run_make_own (P:=P) w base t e i zv 1 ht hp h1 h2 .i64 .i64 n (by rw[h3];exact hb) (by simpa[maxLen]using sS) sF;have hpu:Pure w w':=(Pure.refl w).grown h5 (fun k hk=>by cases hk);refine zi hw hd hN (by simp[execOp,ho,hx,hy,hr])<|h _ _ hpu Z<|hI.fresh hpu (lz.ok h4)<|fun k hk=>?_;have:some w.heap.size=some k:=hk;injection this with this;omega
end
theorem bytes_beq(a b:ByteArray):(a==b)=decide (a=b):=by
 obtain⟨a⟩:=a;obtain⟨b⟩:=b;show ByteArray.beq _ _=_;unfold ByteArray.beq;simp;by_cases h:a=b
 .subst h;simp
 simp[h]
theorem awO{a b:nN}(ha:∀c∈a,c<256)(hb:∀c∈b,c<256):(tM a==tM b)=decide (a=b):=by
 rw[bytes_beq];by_cases h:a=b
 .subst h;simp
 simp only[h,decide_false,fe];exact fun e=>h<|awP ha hb e
def ID(es:List MapEntry)(ks:List (List Nat)):Prop:=es.map (fun e=>(e.key,e.val))=ks.map (fun k=>(Value.string (tM k),Value.agg #[]))
theorem TP{a:nN}(ha:∀c∈a,c<256):∀(es:List MapEntry) (ks:List (List Nat)) (i:Nat),ID es ks->(∀k∈ks,∀c∈k,c<256)->
  (a∉ks/\Instr.findNow .string (.string<|tM a) es i=some none)\/(a∈ks/\∃j,Instr.findNow .string (.string<|tM a) es i=some (some (j,.agg #[])))
 |[],[],i,_,_=>.inl ⟨aq,rfl⟩|[],_::_,i,h,_=>by simp[ID]at h
 |_::_,[],i,h,_=>by simp[ID]at h
 |e::es,k::ks,i,h,hs=>by
  simp only[ID,jL,iV,jP]at h;obtain⟨⟨h1,h2⟩,h3⟩:=h;have hb:=awO ha<|hs k aq;by_cases hk:a=k
  .refine .inr ⟨by simp[hk],i,?_⟩;have:(tM a==tM k):=by rw[hb];simp[hk]
   simp only[Instr.findNow,h1,Instr.sameNow,this,h2]
  have:(tM a==tM k)=false:=by rw[hb];simp[hk]
  rcases TP ha es ks (i+1) h3 (fun k hk=>hs k<|by simp[hk])with⟨g1,g2⟩|⟨g1,j,g2⟩
  .refine .inl ⟨by simp[hk,g1],?_⟩;simp only[Instr.findNow,h1,Instr.sameNow,this];exact g2
  refine .inr ⟨by simp[g1],j,?_⟩;simp only[Instr.findNow,h1,Instr.sameNow,this];exact g2
structure Fq(w:lE)(b:Nat)(ks:List (List Nat)):Prop where
 ex:∃(es:Array MapEntry) (sR:Nat),w.heap[b]?=some (.map es sR)/\ID es.toList ks
 small:∀k∈ks,∀c∈k,c<256
def tx(b:Nat)(ks:List (List Nat)):lN:=⟨fun k=>k=b,fun w=>Fq w b ks⟩
theorem tx.ok{w:lE}{b:Nat}{ks:List (List Nat)}(h:Fq w b ks):(tx b ks).ok w:=by
 refine lN.C8 h (fun k hk=>?_)<|fun S w1 w2 hc hS h1=>?_
 .have⟨es,sR,h1,_⟩:=h.ex;have:k=b:=hk;subst this;rcases j6 k w.heap.size with h2|h2
  .exact h2
  simp[fg h2]at h1
 have⟨es,sR,h2,h3⟩:=h1.ex;have lX:b<w1.heap.size:=by
  rcases j6 b w1.heap.size with h4|h4
  .exact h4
  simp[fg h4]at h2
 exact⟨⟨es,sR,(hc.block b lX<|hS b Z).trans h2,h3⟩,h1.small⟩
section
variable{P:lY}{N:Nat}{aBi:nI}{Q:pg}{rest:List Oper}{ρ:lB}{o:Oper}{w0 w w':lE}{S:lF}{H:List lN}{d t kt et b:Nat}{x y z:mN}{ks:List (List Nat)}{a:nN}
theorem aiH(hI:ly S w0 w H)(hw:nH aBi ρ o)(hd:o.dst=some d)(hN:Nat.blt d N)(ho:o.op=.makeMap t none)
  (h:∀b w',Pure w w'->b=w.heap.size->ly S w0 w' (tx b []::H)->WL P N aBi Q rest (upd ρ d<|.map<|some b) w'):WL P N aBi Q (o::rest) ρ w:=
 zi hw hd hN (v:=.map<|some w.heap.size) (w':=w.alloc<|.map #[] 0) (by simp[execOp,ho,Instr.makeMap])
  (h _ _ ((Pure.refl w).alloc _) rfl<|hI.fresh ((Pure.refl w).alloc _) (tx.ok ⟨⟨#[],0,by show(w.heap.push _)[w.heap.size]?=_;simp,rfl⟩,aq⟩) (fun k hk=>by have:k=w.heap.size:=hk;omega))
theorem aaD{em:Bool}{s:ByteArray}(hk:P.underlying kt=some .string):(Instr.checkKey em 10000 kt (.string s)).run P w=.ok () w:=by show(Instr.checkKey em (Nat.succ 9999) kt<|.string s).run P w=.ok () w;rw[Instr.checkKey];simp[jD hk]
theorem afo(ho:o.op=.lookup t x y true)(ht:P.underlying t=some (.map kt et))(hk:P.underlying kt=some .string)(hz:(P.info? et).bind (·.zero)=some (.agg #[]))(hx:ev ρ x=.map (some b))(hy:ev ρ y=.string (tM a))(ha:∀c∈a,c<256)(hM:Fq w b ks):
  lQ P ρ o w (.tuple #[.agg #[],.bool<|decide (a∈ks)]):=by
 have⟨es,sR,h1,h2⟩:=hM.ex;have MY:(zeroValue et).run P w=.ok (.agg #[]) w:=by
  cases hi:P.info? et with
  |none=>simp[hi]at hz|some i=>simp only[hi,iI]at hz;simp[zeroValue,typeInfo,hi,hz]
 have hc:=aaD (P:=P) (w:=w) (s:=tM a) (em:=es.isEmpty) hk;rcases TP ha es.toList ks 0 h2 hM.small with⟨g1,g2⟩|⟨g1,j,g2⟩
 .simp[lQ,execOp,ho,hx,hy,Instr.lookup,jD ht,Dj h1,hc,Instr.findKey,jD hk,g2,MY,g1]
 simp[lQ,execOp,ho,hx,hy,Instr.lookup,jD ht,Dj h1,hc,Instr.findKey,jD hk,g2,g1]
theorem NB(ho:o.op=.call {callee:=.builtin .len,args:= #[x],argTypes:= #[t]})(ht:P.underlying t=some (.map kt et))(hx:ev ρ x=.map (some b))(hM:Fq w b ks):lQ P ρ o w (lI ks.length):=by
 have⟨es,sR,h1,h2⟩:=hM.ex;have hl:es.size=ks.length:=by have:=kY List.length h2;simpa using this
 simp[lQ,execOp,ho,resolve,invoke,builtin,hx,Builtin.len_,jD ht,Dj h1,hl,goInt]
theorem aiI(i:Nat)(hi:H[i]?=some (tx b ks))(hI:ly S w0 w H)(hw:nH aBi ρ o)(hd:o.dst=none)(ho:o.op=.mapUpdate t x y z)(ht:P.underlying t=some (.map kt et))(hk:P.underlying kt=some .string)(hx:ev ρ x=.map (some b))(hy:ev ρ y=.string (tM a))(hz:ev ρ z=.agg #[])(ha:∀c∈a,c<256)(hn:a∉ks)
  (h:∀w',ly S w0 w' (H.set i<|tx b<|ks++[a])->WL P N aBi Q rest ρ w'):WL P N aBi Q (o::rest) ρ w:=by
 have hM:Fq w b ks:=(hI.ok _<|mZ hi).1;have⟨es,sR,h1,h2⟩:=hM.ex;have lX:b<w.heap.size:=by
  rcases j6 b w.heap.size with h5|h5
  .exact h5
  simp[fg h5]at h1
 have hc:=aaD (P:=P) (w:=w) (s:=tM a) (em:=false) hk;rcases TP ha es.toList ks 0 h2 hM.small with⟨g1,g2⟩|⟨g1,j,g2⟩
 .have hM':Fq (zP w b<|.map (es.push {key:=.string<|tM a,val:=.agg #[],born:=sR})<|sR+1) b (ks++[a]):=by
   refine⟨⟨_,_,Mk lX,?_⟩,fun k hk=>?_⟩
   .unfold ID at h2|-;simp[h2]
   rcases jc.1 hk with hk|hk
   .exact hM.small k hk
   rw[gF.1 hk];exact ha
  refine IQ hw hd (w':=zP w b<|.map (es.push {key:=.string<|tM a,val:=.agg #[],born:=sR})<|sR+1) ?_<|h _<|hI.upd i hi (SU w b _) (tx.ok hM')<|fun _ hk=>.inl hk;simp[execOp,ho,hx,hy,hz,Instr.mapUpdate,jD ht,Dj h1,hc,Instr.findKey,jD hk,g2,NH _ h1]
 exact ll g1 hn
end
open Go.RowKit
section
variable{P:lY}{ρ:lB}{o:Oper}{w:lE}{x y:mN}{t kt et b:Nat}{q:IntKind}{zv v:lH}{a:Int}{g:Int->Option Value}
theorem X9(h:g a=some v)(ho:o.op=.lookup t x y true)(ht:P.underlying t=some (.map kt et))(hk:P.underlying kt=some (.int q))(hz:(P.info? et).bind (·.zero)=some zv)(hx:ev ρ x=.map (some b))(hy:ev ρ y=Y a)(hM:AZ w b g):lQ P ρ o w (.tuple #[v,.bool true]):=by
 have:=X7 (P:=P) ho ht hk hz hx hy hM
 rwa [h]at this
theorem X8(h:g a=none)(ho:o.op=.lookup t x y true)(ht:P.underlying t=some (.map kt et))(hk:P.underlying kt=some (.int q))(hz:(P.info? et).bind (·.zero)=some zv)(hx:ev ρ x=.map (some b))(hy:ev ρ y=Y a)(hM:AZ w b g):lQ P ρ o w (.tuple #[zv,.bool false]):=by
 have:=X7 (P:=P) ho ht hk hz hx hy hM
 rwa [h]at this
end
abbrev zf(A:Option Addr)(c:Nat)(aBi:List l9):lN:=lz 0 162 8 A aBi.length c (aBi.flatMap pP)
abbrev Fb(A:Option Addr)(c:Nat)(l:List Bool):lN:=lz 0 4 1 A l.length c (l.map Value.bool)
def rz(g:Int->Option Nat):Int->Option Value:=fun k=>(g k).map fun n=>.int .i64 (n:Int)
theorem ad7(g:Int->Option Nat)(k:Int)(n:Nat):(fun j=>if j=k then some (Value.int .i64 (n:Int))else rz g j)=rz (sv g k (some n)):=by
 funext j;unfold rz sv;by_cases h:j=k
 .rw[lq h,lq h];rfl
 rw[lp h,lp h]
theorem arC(g:Int->Option Nat)(k:Int):(fun j=>if j=k then none else rz g j)=rz (sv g k none):=by
 funext j;unfold rz sv;by_cases h:j=k
 .rw[lq h,lq h];rfl
 rw[lp h,lp h]
def Ih(Ao:lO)(no co b1 b2:Nat)(Ag:lO)(ng cg:Nat):Array Value:= #[.slice Ao no co,.map (some b1),.map (some b2),.slice Ag ng cg]
def tH(sb:Nat)(Ao:lO)(co b1 b2:Nat)(Ag:lO)(cg:Nat)(s:pf):List lN:=[B sb 157 (Ih Ao s.ops.length co b1 b2 Ag s.gone.length cg),zf Ao co s.ops,Fb Ag cg s.gone,sP b1<|rz s.busy,sP b2<|rz s.lost]
def wa(z0:Int)(r:Option pf)(sb b1 b2:Nat)(S:lF)(w0:lE)(en:Ending)(w':lE):Prop:=match r with
 |none=>ly S w0 w' []/\en=.returned (.iface 36<|.int .i64 z0)|some s'=>en=.returned .nilIface/\∃Ao' co' Ag' cg',ly S w0 w'<|tH sb Ao' co' b1 b2 Ag' cg' s'
theorem ly.nn{S:lF}{w0 w:lE}{H:List lN}(h:ly S w0 w H):ly S w0 w []:=⟨h.ni,aq,aq,.nil⟩
theorem wa.none{r:Option pf}{sb b1 b2:Nat}{S:lF}{w0 w':lE}{H:List lN}{z:Int}(h:r=Option.none)(hI:ly S w0 w' H):wa z r sb b1 b2 S w0 (.returned (.iface 36 (Y z))) w':=by subst h;exact⟨hI.nn,rfl⟩
theorem wa.some{z:Int}{r:Option pf}{s':pf}{sb b1 b2:Nat}{S:lF}{w0 w':lE}{Ao' Ag':lO}{co' cg':Nat}(h:r=Option.some s')(hI:ly S w0 w' (tH sb Ao' co' b1 b2 Ag' cg' s')):wa z r sb b1 b2 S w0 (.returned .nilIface) w':=by subst h;exact⟨rfl,Ao',co',Ag',cg',hI⟩
theorem ajm(e0 e1 e2 e3 e4 e5 e6:Int)(i:Nat)(sb b1 b2:Nat)(Ao:lO)(co:Nat)(Ag:lO)(cg:Nat)(s:pf)(w0:lE)(aBn:s.ops.length<=100000)(BM:s.gone.length=s.ops.length)
  (hI:ly (DL<|tH sb Ao co b1 b2 Ag cg s) w0 w0 (tH sb Ao co b1 b2 Ag cg s)):
  Cq 66 #[lJ sb 0,.agg #[Y e0,Y e1,Y e2,Y e3,Y e4,Y e5,Y e6],lI i] w0 (wa 6 (Bh ⟨e0,e1,e2,e3,e4,e5,e6⟩ i s) sb b1 b2 (DL<|tH sb Ao co b1 b2 Ag cg s) w0):=by
 generalize BP:DL (tH sb Ao co b1 b2 Ag cg s)=S at hI|-;replace hI:ly S w0 w0 [B sb 157 (Ih Ao s.ops.length co b1 b2 Ag s.gone.length cg),zf Ao co s.ops,Fb Ag cg s.gone,sP b1<|rz s.busy,sP b2<|rz s.lost]:=hI;refine Vo func66 Z<|Wq<|Tg (.agg _) (#[_,_,_,_,_,_,_]) hI Z ?_;rintro b4 w- -hI;refine Vh Z<|Wn ?_;cases hb:s.busy e0 with
 |some nb=>have Hn:rz s.busy e0=some (lI nb):=cU;refine Ws<|Yi hI fun Sx hY hZ hI=>?_;refine Vj 0 Z<|Vk 1 Z<|Vd 2 1 Z<|V9 3 (.map _) Z (lL hY fun h=>h.c1 Z)<|Vd 4 0 Z<|Ye 5 hY Z Z<|Wt 6 Z (lL hY fun hI=>(X9 Hn (zv:=Y 0) Z Dt sM ai Z Z hI.g4))<|U9 7 Z<|Tj 8 Z<|Tj 9 Z<|Um 10 Z<|Ue 11 Z<|Yz<|Ws<|Ws<|Yi hI fun Sx hY hZ hI=>?_;exact Vj 0 Z<|Vk 1 Z<|Vd 2 2 Z<|V9 3 (.map _) Z (lL hY fun h=>h.c1 Z)<|Vd 4 0 Z<|Ye 5 hY Z Z<|Wt 6 Z (lL hY fun hI=>(X7 (zv:=Y 0) Z Dt sM ai Z Z hI.g5))<|U9 7 Z<|Tj 8 Z<|Tj 9 Z<|Wt 10 Z (lL hY fun hI=>(by exact De rfl))<|Ue 11 Z<|Yz<|Wq<|V3 Z<|V3 Z<|V2 Z<|Vg Z<|Yt Z<|Wq<|T9 Z pd Z<|Vn Z<|Wn<|WR<|lV 6 Z<|wa.none (by unfold Bh;exact lq<|.inl<|by show s.busy e0≠none;rw[hb];simp) hI
 |none=>
 have Hn:rz s.busy e0=none:=cU;refine Ws<|Yi hI fun Sx hY hZ hI=>?_;refine Vj 0 Z<|Vk 1 Z<|Vd 2 1 Z<|V9 3 (.map _) Z (lL hY fun h=>h.c1 Z)<|Vd 4 0 Z<|Ye 5 hY Z Z<|Wt 6 Z (lL hY fun hI=>(X8 Hn (zv:=Y 0) Z Dt sM ai Z Z hI.g4))<|U9 7 Z<|Tj 8 Z<|Tj 9 Z<|Um 10 Z<|Ue 11 Z<|Yz ?_;cases hl:s.lost e0 with
 |some nl=>
  have Mq:rz s.lost e0=some (lI nl):=by unfold rz;rw[hl];rfl
  refine Ws<|Ws<|Yi hI fun Sx hY hZ hI=>?_;exact Vj 0 Z<|Vk 1 Z<|Vd 2 2 Z<|V9 3 (.map _) Z (lL hY fun h=>h.c1 Z)<|Vd 4 0 Z<|Ye 5 hY Z Z<|Wt 6 Z (lL hY fun hI=>(X9 Mq (zv:=Y 0) Z Dt sM ai Z Z hI.g5))<|U9 7 Z<|Tj 8 Z<|Tj 9 Z<|Um 10 Z<|Ue 11 Z<|Yz<|Wq<|V3 Z<|V3 Z<|V3 Z<|Va Z<|Yt Z<|Wq<|T9 Z pd Z<|Vn Z<|Wn<|WR<|lV 6 Z<|wa.none (by unfold Bh;exact lq<|.inr<|by show s.lost e0≠none;rw[hl];simp) hI
 |none=>
 have Mq:rz s.lost e0=none:=by unfold rz;rw[hl];rfl
 refine Ws<|Ws<|Yi hI fun Sx hY hZ hI=>?_;refine Vj 0 Z<|Vk 1 Z<|Vd 2 2 Z<|V9 3 (.map _) Z (lL hY fun h=>h.c1 Z)<|Vd 4 0 Z<|Ye 5 hY Z Z<|Wt 6 Z (lL hY fun hI=>(X8 Mq (zv:=Y 0) Z Dt sM ai Z Z hI.g5))<|U9 7 Z<|Tj 8 Z<|Tj 9 Z<|Um 10 Z<|Ue 11 Z<|Yz<|Wq<|V3 Z<|V3 Z<|V3 Z<|Va Z<|Yf Z<|Wk ?_;have FQ:Bh ⟨e0,e1,e2,e3,e4,e5,e6⟩ i s=some ⟨s.ops++[Ey ⟨e0,e1,e2,e3,e4,e5,e6⟩ i],sv s.busy e0<|some s.ops.length,s.lost,s.gone++[false]⟩:=by
  unfold Bh;apply lp;rintro(h|h)
  .exact h hb
  exact h hl
 refine Ws<|Yj [11] hI fun Sx hY hZ hI=>?_;refine Vj 0 Z<|Vk 1 Z<|Vd 2 1 Z<|V9 3 (.map _) Z (lL hY fun h=>h.c1 Z)<|Vd 4 0 Z<|Ye 5 hY Z Z<|Vj 6 Z<|Vk 7 Z<|Vd 8 0 Z<|V9 9 (.slice _ _ _) Z (lL hY fun h=>h.c1 Z)<|Uj 10 Z pY Z<|qn ai ?_;clear hZ hY;refine Tc 11 Z<|ZV (v:=lI s.ops.length) 4 Z hI Z Z Z Dt sM Z Z Z ?_;intro w hI;simp only[gH,gI]at hI;rw[ad7]at hI;refine Wn<|qm ai<|Ws<|Wd ai<|Wi (T:=[21]) hI.d2.drew ?_;intro Sx hY hZ;have hI:=hI.drew;refine Vj 0 Z<|Vj 1 Z<|Vk 2 Z<|Vd 3 0 Z<|V9 4 (.slice _ _ _) Z (lL hY fun h=>h.c1 Z)<|Vd 5 0 Z<|Ye 6 hY Z Z<|Vd 7 2 Z<|Ye 8 hY Z Z<|Vd 9 3 Z<|Ye 10 hY Z Z<|Vd 11 4 Z<|Ye 12 hY Z Z<|Vd 13 5 Z<|Ye 14 hY Z Z<|Vw 15 Z<|Ub 16 [(0,Y _),(1,Y _),(2,Y _),(3,Y _),(4,Y _),(6,Y _),(7,Y _)] [_,_,_,_,_,_,_,_] Z [Y 0,Y 0,Y 0,Y 0,Y 0,Y 0,Y 0,Y 0] [0,1,2,3,4,6,7] Z (fun _ _=>fun _=>ai)<|Vr 17 rfl<|T7 [(0,.agg #[_,_,_,_,_,_,_,_])] [_,_,_,_,_,_,_,_] [Y 0,Y 0,Y 0,Y 0,Y 0,Y 0,Y 0,Y 0] [0] hI rfl pY (fun _=>ai) ?_;rintro b64 w- -hI;refine Wn ⟨hZ _ hI.d0.d2,(Vr 18 Z<|Si (z:=.agg vT) (by_:=64) hI Z Z Z Z Z Z pY ai Z aa (by rfl) hI.qP (by rfl) aa aa cQ ?_)⟩;rintro KQ Lm w ay1 azq hI;have hI:=hI.d0;refine Wn ⟨hZ _ hI.d2,(Vk 19 Z<|Vd 20 0 Z<|qn ai ?_)⟩;clear hZ hY;refine Tc 21 Z<|Fv (u:=.slice _ _ _) hI Z Z Z Z Z Z ai Z Z Z ?_;intro w hI;refine Wn<|qm ai ?_;replace hI:ly S w0 w [B b4 66 #[Y e0,Y e1,Y e2,Y e3,Y e4,Y e5,Y e6],B sb 157<|Ih KQ (s.ops.length+1) Lm b1 b2 Ag s.gone.length cg,lz 0 162 8 KQ (s.ops.length+1) Lm<|s.ops.flatMap pP++pP (Ey ⟨e0,e1,e2,e3,e4,e5,e6⟩ i),Fb Ag cg s.gone,sP b1<|rz<|sv s.busy e0<|some s.ops.length,sP b2<|rz s.lost]:=hI;refine Wq<|V8 Z<|V8 Z<|Ve Z<|V6 3 Z<|V4 (.slice _ _ _) Z (hI.c1 Z)<|T7 [(0,.bool _)] [_] [.bool false] [0] hI Z oZ (fun _=>ai) ?_;rintro b73 w- -hI;apply aiy (z:=.bool false) (by_:=1) hI Z Z Z Z Z Z oZ ai Z aa (by rfl) hI.qP (by rfl) aa aa cQ;rintro R0 SM w ay3 azs hI;have hI:=hI.d0;refine Ve Z<|V6 3 Z<|Fv (u:=.slice _ _ _) hI Z Z Z Z Z Z ai Z Z Z ?_;intro w hI;refine Wn<|Wq<|Vh Z<|Wn<|WR ?_;replace hI:ly S w0 w [B sb 157 (Ih KQ (s.ops.length+1) Lm b1 b2 R0 (s.gone.length+1) SM),lz 0 162 8 KQ (s.ops.length+1) Lm<|s.ops.flatMap pP++pP (Ey ⟨e0,e1,e2,e3,e4,e5,e6⟩ i),lz 0 4 1 R0 (s.gone.length+1) SM<|s.gone.map Value.bool++[.bool false],sP b1<|rz<|sv s.busy e0<|some s.ops.length,sP b2<|rz s.lost]:=hI.d0;refine lV 6 Z<|wa.some (Ao':=KQ) (co':=Lm) (Ag':=R0) (cg':=SM) FQ ?_;unfold tH zf Fb;simp only[gD,fI,gk,gU,iu,iU,jb,jL,jX];exact hI
theorem aep{l:List l9}{k:Nat}(hk:k<l.length):l[k]?=some (lS l k):=by unfold lS;rw[eu,nM hk];rfl
theorem aeF(l:List l9):(l.flatMap pP).length=l.length*8:=TU (f:=pP) (fun _=>rfl) l
theorem yg{w:lE}{b c n k j:Nat}{l:List l9}{v:lH}(h:w.ownsRow 0 162 8 (me b 0 n c) n (l.flatMap pP))(hn:n=l.length)(hk:k<l.length)(hj:(pP (lS l k))[j]?=some v):w.cell? ⟨b,0+k*8+j,none⟩=some v:=by
 subst hn;have Mn:j<8:=by have:=(oS hj).1;simpa[pP]using this
 rw[jO];exact EO h ((O1 (f:=pP) (fun a=>Z) l k _ (aep hk) j Mn).trans hj) aa
theorem alW{l:List l9}{n:Nat}(hn:n<l.length)(e:Ev)(i:Nat):((l.flatMap pP).set (0+n*8+7) (lI i)).set (0+n*8+5) (Y e.res)=(l.set n (FC (lS l n) e i)).flatMap pP:=by have h1:=O3 (f:=pP) (s:=8) (fun _=>rfl) (a:=lS l n) (a':={lS l n with ret:=(i:Int)}) (j:=7) (v:=lI i) aa rfl<|aep hn;have h2:=O3 (f:=pP) (s:=8) (fun _=>rfl) (a:={lS l n with ret:=(i:Int)}) (a':=FC (lS l n) e i) (j:=5) (v:=Y e.res) aa rfl (l:=l.set n {lS l n with ret:=(i:Int)}) (k:=n) (by simp[hn]);rw[List.set_set]at h2;rw[h2,h1,kg]
theorem aln{e:Ev}{i:Nat}{s:pf}(h:s.busy e.proc=none):xP e i s=none:=by unfold xP;rw[h]
theorem alo{e:Ev}{i n:Nat}{s:pf}(h:s.busy e.proc=some n)(hf:¬FE (lS s.ops n) e):xP e i s=none:=by unfold xP;rw[h];exact lp hf
theorem alm{e:Ev}{i n:Nat}{s:pf}(h:s.busy e.proc=some n)(hf:FE (lS s.ops n) e):xP e i s=some ⟨if e.ty=2 then s.ops.set n (FC (lS s.ops n) e i)else s.ops,sv s.busy e.proc none,if e.ty=4 then sv s.lost e.proc (some i)else s.lost,if e.ty=3 then s.gone.set n true else s.gone⟩:=by unfold xP;rw[h];exact lq hf
theorem alr(e0 e1 e2 e3 e4 e5 e6:Int)(i:Nat)(sb b1 b2:Nat)(Ao:lO)(co:Nat)(Ag:lO)(cg:Nat)(s:pf)(w0:lE)(aBn:s.ops.length<=100000)(BM:s.gone.length=s.ops.length)(BH:∀n,s.busy e0=some n->n<s.ops.length)
  (hI:ly (DL<|tH sb Ao co b1 b2 Ag cg s) w0 w0 (tH sb Ao co b1 b2 Ag cg s)):
  Cq 67 #[lJ sb 0,.agg #[Y e0,Y e1,Y e2,Y e3,Y e4,Y e5,Y e6],lI i] w0 (wa 12 (xP ⟨e0,e1,e2,e3,e4,e5,e6⟩ i s) sb b1 b2 (DL<|tH sb Ao co b1 b2 Ag cg s) w0):=by
 generalize BP:DL (tH sb Ao co b1 b2 Ag cg s)=S at hI|-;replace hI:ly S w0 w0 [B sb 157 (Ih Ao s.ops.length co b1 b2 Ag s.gone.length cg),zf Ao co s.ops,Fb Ag cg s.gone,sP b1<|rz s.busy,sP b2<|rz s.lost]:=hI;clear BP;refine Vo func67 Z<|Wq<|Tg (.agg _) (#[_,_,_,_,_,_,_]) hI Z ?_;rintro b4 w- -hI;refine Vh Z<|Wn ?_;cases hb:s.busy e0 with
 |none=>have Hn:rz s.busy e0=none:=cU;refine Ws<|Yi hI fun Sx hY hZ hI=>?_;exact Vj 0 Z<|Vk 1 Z<|Vd 2 1 Z<|V9 3 (.map _) Z (lL hY fun h=>h.c1 Z)<|Vd 4 0 Z<|Ye 5 hY Z Z<|Wt 6 Z (lL hY fun hI=>(X8 Hn (zv:=Y 0) Z Dt sM ai Z Z hI.g4))<|U9 7 Z<|Tj 8 Z<|Tj 9 Z<|Um 10 Z<|Ue 11 Z<|Yz<|Ws<|Wq<|V3 Z<|Tm Z<|Yt Z<|Ws<|Wr<|T9 Z pd Z<|Vn Z<|Wn<|WR<|lV 6 Z<|wa.none (aln hb) hI
 |some n=>
 have Hn:rz s.busy e0=some (lI n):=cU;have hn:=BH n hb;obtain⟨bO,_,rfl, -, -, -, -, -, -⟩:=Ie hI.g2 aa;obtain⟨bG,_,rfl, -, -, -, -, -, -⟩:=Ie hI.g3 aa;refine Ws<|Yi hI fun Sx hY hZ hI=>?_;refine Vj 0 Z<|Vk 1 Z<|Vd 2 1 Z<|V9 3 (.map _) Z (lL hY fun h=>h.c1 Z)<|Vd 4 0 Z<|Ye 5 hY Z Z<|Wt 6 Z (lL hY fun hI=>(X9 Hn (zv:=Y 0) Z Dt sM ai Z Z hI.g4))<|U9 7 Z<|Tj 8 Z<|Tj 9 Z<|Um 10 Z<|Ue 11 Z<|Yz<|Ws<|Wq<|V3 Z<|Th Z<|Yf Z<|Wk<|Wq<|V8 Z<|Ve Z<|V6 0 Z<|V4 (.slice _ _ _) Z (hI.c1 Z)<|V0 Z<|Tu 8 Z pY Z<|Uf Z<|Wn ?_;have HM:¬FE (lS s.ops n) ⟨e0,e1,e2,e3,e4,e5,e6⟩->xP ⟨e0,e1,e2,e3,e4,e5,e6⟩ i s=none:=fun hf=>alo hb hf;have aBk:FE (lS s.ops n) ⟨e0,e1,e2,e3,e4,e5,e6⟩->xP ⟨e0,e1,e2,e3,e4,e5,e6⟩ i s=_:=fun hf=>alm hb hf;refine Wx (fun ρ w=>FE (lS s.ops n) ⟨e0,e1,e2,e3,e4,e5,e6⟩/\lA ρ [(0,lJ sb 0),(2,lI i),(4,lJ b4 0),(7,lI n),(9,lJ bO<|0+n*8)]/\ly S w0 w [B b4 66 #[Y e0,Y e1,Y e2,Y e3,Y e4,Y e5,Y e6],B sb 157<|Ih (some ⟨bO,0,none⟩) s.ops.length co b1 b2 (some ⟨bG,0,none⟩) s.gone.length cg,zf (some ⟨bO,0,none⟩) co s.ops,Fb (some ⟨bG,0,none⟩) cg s.gone,sP b1<|rz s.busy,sP b2<|rz s.lost]) ?_ ?_
 .by_cases f1:(lS s.ops n).key=e2;rotate_left
  .refine Ws<|Yi hI fun Sx hY hZ hI=>?_;exact Vj 0 Z<|Vk 1 Z<|Td 2 1 Z<|V9 3 (Y _) Z (lL hY fun hI=>yg hI.g2 Z hn Z)<|Vd 4 2 Z<|Ye 5 hY Z Z<|Ut 6 Z<|Te 7 Z<|Vl 8 Z Z<|Vl 9 Z Z<|Vl 10 Z Z<|Vl 11 Z Z<|Vl 12 Z Z<|Vl 13 Z Z<|Vl 14 Z Z<|U6 15 Z<|Te 16 Z<|Vl 17 Z Z<|Vl 18 Z Z<|Vl 19 Z Z<|Vl 20 Z Z<|Vl 21 Z Z<|Vl 22 Z Z<|Vl 23 Z Z<|U6 24 Z<|Te 25 Z<|Vl 26 Z Z<|Vl 27 Z Z<|Vl 28 Z Z<|Vl 29 Z Z<|Vl 30 Z Z<|Vl 31 Z Z<|Vl 32 Z Z<|U6 33 Z<|Yz<|Wc true Z<|Wq<|T9 Z pd Z<|Vn Z<|Wn<|WR<|lV 6 Z<|wa.none (HM fun hf=>f1 hf.1) hI
  by_cases f2:(lS s.ops n).kind=e3;rotate_left
  .refine Ws<|Yi hI fun Sx hY hZ hI=>?_;exact Vj 0 Z<|Vk 1 Z<|Td 2 1 Z<|V9 3 (Y _) Z (lL hY fun hI=>yg hI.g2 Z hn Z)<|Vd 4 2 Z<|Ye 5 hY Z Z<|U7 6 Z<|Te 7 Z<|Vj 8 Z<|Vk 9 Z<|Td 10 2 Z<|V9 11 (Y _) Z (lL hY fun hI=>yg hI.g2 Z hn Z)<|Vd 12 3 Z<|Ye 13 hY Z Z<|Ut 14 Z<|Ts 15 Z<|Te 16 Z<|Vl 17 Z Z<|Vl 18 Z Z<|Vl 19 Z Z<|Vl 20 Z Z<|Vl 21 Z Z<|Vl 22 Z Z<|Vl 23 Z Z<|U6 24 Z<|Te 25 Z<|Vl 26 Z Z<|Vl 27 Z Z<|Vl 28 Z Z<|Vl 29 Z Z<|Vl 30 Z Z<|Vl 31 Z Z<|Vl 32 Z Z<|U6 33 Z<|Yz<|Wc true Z<|Wq<|T9 Z pd Z<|Vn Z<|Wn<|WR<|lV 6 Z<|wa.none (HM fun hf=>f2 hf.2.1) hI
  by_cases f3:(lS s.ops n).a=e4;rotate_left
  .refine Ws<|Yi hI fun Sx hY hZ hI=>?_;exact Vj 0 Z<|Vk 1 Z<|Td 2 1 Z<|V9 3 (Y _) Z (lL hY fun hI=>yg hI.g2 Z hn Z)<|Vd 4 2 Z<|Ye 5 hY Z Z<|U7 6 Z<|Te 7 Z<|Vj 8 Z<|Vk 9 Z<|Td 10 2 Z<|V9 11 (Y _) Z (lL hY fun hI=>yg hI.g2 Z hn Z)<|Vd 12 3 Z<|Ye 13 hY Z Z<|U7 14 Z<|Ts 15 Z<|Te 16 Z<|Vj 17 Z<|Vk 18 Z<|Td 19 3 Z<|V9 20 (Y _) Z (lL hY fun hI=>yg hI.g2 Z hn Z)<|Vd 21 4 Z<|Ye 22 hY Z Z<|Ut 23 Z<|Ts 24 Z<|Te 25 Z<|Vl 26 Z Z<|Vl 27 Z Z<|Vl 28 Z Z<|Vl 29 Z Z<|Vl 30 Z Z<|Vl 31 Z Z<|Vl 32 Z Z<|U6 33 Z<|Yz<|Wc true Z<|Wq<|T9 Z pd Z<|Vn Z<|Wn<|WR<|lV 6 Z<|wa.none (HM fun hf=>f3 hf.2.2.1) hI
  by_cases f4:(lS s.ops n).b=e5;rotate_left
  .refine Ws<|Yi hI fun Sx hY hZ hI=>?_;exact Vj 0 Z<|Vk 1 Z<|Td 2 1 Z<|V9 3 (Y _) Z (lL hY fun hI=>yg hI.g2 Z hn Z)<|Vd 4 2 Z<|Ye 5 hY Z Z<|U7 6 Z<|Te 7 Z<|Vj 8 Z<|Vk 9 Z<|Td 10 2 Z<|V9 11 (Y _) Z (lL hY fun hI=>yg hI.g2 Z hn Z)<|Vd 12 3 Z<|Ye 13 hY Z Z<|U7 14 Z<|Ts 15 Z<|Te 16 Z<|Vj 17 Z<|Vk 18 Z<|Td 19 3 Z<|V9 20 (Y _) Z (lL hY fun hI=>yg hI.g2 Z hn Z)<|Vd 21 4 Z<|Ye 22 hY Z Z<|U7 23 Z<|Ts 24 Z<|Te 25 Z<|Vj 26 Z<|Vk 27 Z<|Td 28 4 Z<|V9 29 (Y _) Z (lL hY fun hI=>yg hI.g2 Z hn Z)<|Vd 30 5 Z<|Ye 31 hY Z Z<|Ut 32 Z<|Ts 33 Z<|Yz<|Wc true Z<|Wq<|T9 Z pd Z<|Vn Z<|Wn<|WR<|lV 6 Z<|wa.none (HM fun hf=>f4 hf.2.2.2) hI
  refine Ws<|Yi hI fun Sx hY hZ hI=>?_;exact Vj 0 Z<|Vk 1 Z<|Td 2 1 Z<|V9 3 (Y _) Z (lL hY fun hI=>yg hI.g2 Z hn Z)<|Vd 4 2 Z<|Ye 5 hY Z Z<|U7 6 Z<|Te 7 Z<|Vj 8 Z<|Vk 9 Z<|Td 10 2 Z<|V9 11 (Y _) Z (lL hY fun hI=>yg hI.g2 Z hn Z)<|Vd 12 3 Z<|Ye 13 hY Z Z<|U7 14 Z<|Ts 15 Z<|Te 16 Z<|Vj 17 Z<|Vk 18 Z<|Td 19 3 Z<|V9 20 (Y _) Z (lL hY fun hI=>yg hI.g2 Z hn Z)<|Vd 21 4 Z<|Ye 22 hY Z Z<|U7 23 Z<|Ts 24 Z<|Te 25 Z<|Vj 26 Z<|Vk 27 Z<|Td 28 4 Z<|V9 29 (Y _) Z (lL hY fun hI=>yg hI.g2 Z hn Z)<|Vd 30 5 Z<|Ye 31 hY Z Z<|U7 32 Z<|Ts 33 Z<|Yz<|Wc false Z<|Wk ⟨⟨f1,f2,f3,f4⟩,ug,hI⟩
 clear hI;rintro ρ w ⟨wA,hH,hI⟩;obtain⟨σ,rfl⟩:=hH.open;have aBk:=aBk wA;have Dc:(if e1=2 then s.ops.set n (FC (lS s.ops n) ⟨e0,e1,e2,e3,e4,e5,e6⟩ i)else s.ops).length=s.ops.length:=by split<;>simp
 have Bx:(if e1=3 then s.gone.set n true else s.gone).length=s.gone.length:=by split<;>simp
 refine Wx (fun ρ w=>lA ρ [(0,lJ sb 0),(4,lJ b4 0)]/\ly S w0 w [B b4 66 #[Y e0,Y e1,Y e2,Y e3,Y e4,Y e5,Y e6],B sb 157<|Ih (some ⟨bO,0,none⟩) s.ops.length co b1 b2 (some ⟨bG,0,none⟩) s.gone.length cg,lz 0 162 8 (some ⟨bO,0,none⟩) s.ops.length co<|(if e1=2 then s.ops.set n (FC (lS s.ops n) ⟨e0,e1,e2,e3,e4,e5,e6⟩ i)else s.ops).flatMap pP,lz 0 4 1 (some ⟨bG,0,none⟩) s.gone.length cg<|(if e1=3 then s.gone.set n true else s.gone).map Value.bool,sP b1<|rz s.busy,sP b2<|rz<|if e1=4 then sv s.lost e0 (some i)else s.lost]) ?_ ?_
 .refine Wq<|V6 1 Z<|Yc hI Z Z<|Wn<|Wb ?_;by_cases t2:e1=2
  .refine Wq<|Vz Z<|V5 Z<|Yt Z<|Wd ai<|Wi (T:=[10]) hI.d2.drew ?_;intro Sx hY hZ;have hI:=hI.drew;refine Vj 0 Z<|Vj 1 Z<|Vw 2 Z<|Vd 3 6 Z<|Ye 4 hY Z Z<|Vk 5 Z<|Td 6 7 Z<|Vr 7 Z<|Ot 2 Z (u:=lI i) (j:=0+n*8+7) hI Z Z Z Z Z Z ai Z (by rw[aeF];omega) ?_;intro w hI;simp only[gH,gI]at hI;refine Wn ⟨hZ _ hI.d2,(Vk 8 Z<|Td 9 5 Z<|qn ai ?_)⟩;clear hZ hY;refine Tc 10 Z<|Ot 2 Z (u:=Y e6) (j:=0+n*8+5) hI Z Z Z Z Z Z ai Z (by rw[ja,aeF];omega) ?_;intro w hI;simp only[gH,gI]at hI;refine Wn<|qm ai ?_;rw[alW hn ⟨e0,e1,e2,e3,e4,e5,e6⟩ i]at hI;rw[lq t2,lp aa,lp aa];exact⟨yD,hI⟩
  rw[lp t2];refine Wq<|Vv Z<|V5 Z<|Yf Z ?_;by_cases t3:e1=3
  .rw[lq t3,lp aa];refine Wq<|Vz Z<|V5 Z<|Yt Z<|Wr<|V8 Z<|Ve Z<|V6 3 Z<|V4 (.slice _ _ _) Z (hI.c1 Z)<|V0 Z<|Tx Z oZ Z<|Ot 3 Z (u:=.bool true) (j:=n) hI Z Z Z Z Z Z ai Z aF ?_;intro w hI;simp only[gH,gI]at hI;refine Wn ⟨yD,?_⟩;rw[jY];exact hI
  rw[lp t3];refine Wq<|Vv Z<|V5 Z<|Yf Z ?_;by_cases t4:e1=4
  .rw[lq t4];refine Wq<|Vz Z<|V5 Z<|Yt Z<|Yj [7] hI fun Sx hY hZ hI=>?_;refine Vj 0 Z<|Vk 1 Z<|Vd 2 2 Z<|V9 3 (.map _) Z (lL hY fun h=>h.c1 Z)<|Vd 4 0 Z<|Ye 5 hY Z Z<|Vw 6 Z<|qn ai ?_;clear hZ hY;refine Tc 7 Z<|ZV (v:=lI i) 5 Z hI Z Z Z Dt sM Z Z Z ?_;intro w hI;simp only[gH,gI]at hI;rw[ad7]at hI;exact Wn<|qm ai ⟨yD,hI⟩
  rw[lp t4];exact Wq<|Vv Z<|V5 Z<|Yf Z<|Wk ⟨yD,hI⟩
 clear hI;rintro ρ w ⟨hH,hI⟩;obtain⟨σ,rfl⟩:=hH.open;refine Ws<|Yj [6] hI fun Sx hY hZ hI=>?_;refine Vj 0 Z<|Vk 1 Z<|Vd 2 1 Z<|V9 3 (.map _) Z (lL hY fun h=>h.c1 Z)<|Vd 4 0 Z<|Ye 5 hY Z Z<|qn ai ?_;clear hZ hY;refine Tc 6 Z<|aiF 4 Z hI Z Z Z Dt sM Z Z ?_;intro w hI;simp only[gH,gI]at hI;rw[arC]at hI;refine Wn<|qm ai<|Wq<|Vh Z<|Wn<|WR<|lV 6 Z<|wa.some (Ao':=some ⟨bO,0,none⟩) (co':=co) (Ag':=some ⟨bG,0,none⟩) (cg':=cg) aBk ?_;unfold tH zf Fb;simp only[Dc,Bx];exact hI.d0
def AV(w:lE)(D:lF)(v:lH)(l:List Ev):Prop:=Rd w D 7 v l.length (l.flatMap nu)
def FD(l:List Ev)(k:Nat):Ev:=l.getD k ⟨0,0,0,0,0,0,0⟩
theorem abk{l:List Ev}{k:Nat}(hk:k<l.length):l[k]?=some (FD l k):=by unfold FD;rw[eu,nM hk];rfl
theorem AV.pure{w w':lE}{D:lF}{v:lH}{l:List Ev}(h:AV w D v l)(hp:Pure w w'):AV w' D v l:=Rd.pure h hp
theorem AV.at{w:lE}{D:lF}{A:lO}{n c:Nat}{l:List Ev}(h:AV w D (.slice A n c) l){k:Nat}(hk:k<l.length):∃b o,A=some ⟨b,o,none⟩/\∀(j:Nat) (u:lH),(nu (FD l k))[j]?=some u->w.cell? ⟨b,o+k*7+j,none⟩=some u:=by
 obtain⟨A1,c1,hv,sn,qb,aBn,nU⟩:=h;injection hv with e1 e2 e3;subst e1 e3;have⟨b,o,qo,_,oz⟩:=nU aa;refine⟨b,o,qo,fun j u hj=>?_⟩;have Mn:j<7:=by have:=(oS hj).1;simpa[nu]using this
 rw[jO];refine oz _ u ?_;rw[O1 (f:=nu) (fun a=>rfl) l k _ (abk hk) j Mn];exact hj
theorem AV.len{w:lE}{D:lF}{A:lO}{n c:Nat}{l:List Ev}(h:AV w D (.slice A n c) l):n=l.length/\n<=c/\c<=9223372036854775807:=by have⟨A',c',he,h1,h2⟩:=Rd.form h;injection he with _ e2 e3;subst e2 e3;exact⟨Z,h1,h2⟩
def CF(e:Ev):Int:=if xd e=true then(if e.ty=1 then 6 else 12)else G5 e
def LI:List Ev->Nat->pf->Int
 |[],_,_=>0|e::r,i,s=>match yl e i s with
  |none=>CF e|some s'=>LI r (i+1) s'
def G6(l:List Ev):Int:=if l.length<=120 then LI l 0 BZ else 4
def Fe(r:Option (List l9))(z:Int)(w0:lE)(en:Ending)(w':lE):Prop:=match r with
 |none=>∃x,en=.returned (.tuple #[.slice none 0 0,x])/\ly NF w0 w' [uT x z]|some out=>∃A' c',en=.returned (.tuple #[.slice A' out.length c',.nilIface])/\ly NF w0 w' [zf A' c' out]
theorem Fe.no{r:Option (List l9)}{z:Int}{w0 w':lE}{x:lH}(h:r=none)(hI:ly NF w0 w' [uT x z]):Fe r z w0 (.returned (.tuple #[.slice none 0 0,x])) w':=by subst h;exact⟨x,rfl,hI⟩
theorem Fe.yes{r:Option (List l9)}{z:Int}{out:List l9}{w0 w':lE}{A':lO}{c':Nat}(h:r=some out)(hI:ly NF w0 w' [zf A' c' out]):Fe r z w0 (.returned (.tuple #[.slice A' out.length c',.nilIface])) w':=by subst h;exact⟨A',c',rfl,hI⟩
theorem uU.iface{w:lE}{e:lH}{n:Int}(h:uU w e n):∃t v,e=.iface t v:=by rcases h with rfl|⟨b,o,rfl,_⟩<;>exact⟨_,_,rfl⟩
theorem af5{w:lE}{e b n c k:Nat}{xs:mb}{u:lH}(h:w.ownsRow 0 e 1 (me b 0 n c) n xs)(hk:xs[k]?=some u):w.cell? ⟨b,k,none⟩=some u:=by
 have hn:0<n:=by have h1:=(oS hk).1;have h2:xs.length=n*1:=h.1;omega
 have:=EO h hk hn
 rwa [kg]at this
theorem ag8{e:Ev}{i:Nat}{s s':pf}(h:yl e i s=some s'):s'.ops.length<=s.ops.length+1:=by
 unfold yl at h;split at h;rotate_left
 .cases h
 split at h
 .unfold Bh at h;split at h
  .cases h
  injection h with h;subst h;simp
 unfold xP at h;split at h
 .cases h
 split at h
 .injection h with h;subst h;simp only;split<;>simp
 cases h
theorem alF(A:lO)(n c:Nat)(l:List Ev)(D:lF)(w0:lE)(h:AV w0 D (.slice A n c) l)(hg:Zy w0):Cq 24 #[.slice A n c] w0 (Fe (wv l) (G6 l) w0):=by
 have⟨hn,oT,rJ⟩:=h.len;subst hn;have hI:=ly.start (fun _=>False) w0;refine Vo func24 Z<|Wq<|Vm Z<|Vh Z<|Wn ?_;by_cases I9:l.length<=120;rotate_left
 .refine Ws<|Wq<|Vf Z<|Vp Z sN Z<|Ty Z<|Yt Z<|Wq<|T9 Z pd Z<|Vm Z<|Vn Z<|Wn<|WR ?_;have he4:G6 l=4:=by unfold G6;exact lp I9
  rw[he4];exact nD 2 3 Z<|Fe.no (by unfold wv;exact lp I9)<|hI.err 4
 have mj:wv l=(yY (l.drop 0) 0 BZ).map vK:=by unfold wv;exact lq I9
 have CN:G6 l=LI (l.drop 0) 0 BZ:=by unfold G6;exact lq I9
 refine Ws<|Wq<|Vf Z<|Vp Z sN Z<|Ti Z<|Yf Z<|Wk<|Ws<|Wr<|ZX hI Z Z Z Z ?_;rintro sC w hI;apply ZX hI Z Z Z Z;rintro tz w hI;refine Tf [(1,.map _),(2,.map _)] [_,_,_,_] Z [.slice none 0 0,.map none,.map none,.slice none 0 0] [1,2] Z (fun _=>ai)<|Tg (.agg _) (#[_,_,_,_]) hI rfl ?_;rintro uY w- -hI;refine Uf Z<|Wn ?_;replace hI:ly NF w0 w (tH uY none 0 sC tz none 0 BZ):=by have h1:=(hI.vR).fresh (e:=Fb none 0 []) (Pure.refl w) (lz.nil w 0 4 1) (fun k hk=>by cases hk);have h2:=(h1.pQ).fresh (e:=zf none 0 []) (Pure.refl w) (lz.nil w 0 162 8) (fun k hk=>by cases hk);exact h2.pQ
 refine Wx (fun ρ w=>∃(s:pf) (Ao:lO) (co:Nat) (Ag:lO) (cg:Nat),wv l=some (vK s)/\yq l l.length s/\s.ops.length<=l.length/\lA ρ [(4,lJ uY 0)]/\ly NF w0 w (tH uY Ao co sC tz Ag cg s)) ?_ ?_
 .refine Wq<|Vf Z<|Vp Z sN Z<|V0 Z<|Wn<|Wb ?_;refine Wl (fun mu ρ w=>∃(k:Nat) (s:pf) (Ao:lO) (co:Nat) (Ag:lO) (cg:Nat),mu=l.length-k/\k<=l.length/\(wv l=(yY (l.drop k) k s).map vK/\G6 l=LI (l.drop k) k s)/\yq l k s/\s.ops.length<=k/\lA ρ [(21,lI k),(20,lI l.length),(19,.slice A l.length c),(4,lJ uY 0)]/\ly NF w0 w (tH uY Ao co sC tz Ag cg s)) l.length
   ⟨0,BZ,none,0,none,0,rfl,aa,⟨mj,CN⟩,agp l,ku _,⟨rfl,rfl,rfl,rfl,trivial⟩,hI⟩ ?_
  clear hI mj CN;rintro mu ρ w ⟨k,s,Ao,co,Ag,cg,rfl,hk,⟨mj,CN⟩,mH,hsl,hH,hI⟩;obtain⟨σ,rfl⟩:=hH.open;by_cases ow:k<l.length;rotate_left
  .obtain rfl:k=l.length:=aa;rw[fp (ku _)]at mj;exact Wq<|Vq Z<|Yg Z<|WE ⟨s,Ao,co,Ag,cg,mj,mH,hsl,zu,hI⟩
  obtain⟨bA,oA,rfl,qN⟩:=(h.pure hI.pu).at ow;have FV:=abk ow;have Mi:l.drop k=FD l k::l.drop (k+1):=by rw[eF ow];congr 1;have:=FV;rw[nM ow]at this;injection this
  rw[Mi,yY]at mj;rw[Mi,LI]at CN;have uM:=fun s' (hs:yl (FD l k) k s=some s')=>agq mH FV hs;have BH:=fun n (hb:s.busy (FD l k).proc=some n)=>(mH.busy _ n hb).1;have BM:=mH.Bx;generalize oX:FD l k=pk at qN mj CN uM BH;obtain⟨e0,e1,e2,e3,e4,e5,e6⟩:=pk;refine Wq<|Vt Z<|Yu Z<|Wk<|Ws<|Wb<|Wq<|V0 Z<|Tu 7 Z sN Z<|Ur 7 Z (by rfl) qN<|T6 (.agg za) (za) hI Z ?_;rintro b6 w- -hI;refine Vb Z<|Ta 7 (#[_,_,_,_,_,_,_]) (.agg _) hI Z ?_;intro w hI;apply Wn;simp only[nu]at hI;refine Wx (fun ρ w=>∃v7,lA ρ [(7,v7),(21,lI k),(20,lI l.length),(19,me bA oA l.length c),(4,lJ uY 0),(5,lI k),(6,lJ b6 0)]/\ly NF w0 w (B b6 66 #[Y e0,Y e1,Y e2,Y e3,Y e4,Y e5,Y e6]::tH uY Ao co sC tz Ag cg s)/\((xd ⟨e0,e1,e2,e3,e4,e5,e6⟩=true/\v7=.nilIface)\/(xd ⟨e0,e1,e2,e3,e4,e5,e6⟩=false/\v7=.iface 36 (Y<|G5 ⟨e0,e1,e2,e3,e4,e5,e6⟩)))) ?_ ?_
  .refine Wr<|U1 7 Z hI.g0<|V7 [.agg _] Z func65 Z<|(ajI ⟨e0,e1,e2,e3,e4,e5,e6⟩ _).mono ?_;rintro e w1 ⟨hp,hr⟩;obtain⟨v7,rfl⟩:∃v,e=.returned v:=by rcases hr with⟨_,rfl⟩|⟨_,rfl⟩<;>exact⟨_,rfl⟩
   apply rV;have hI:=hI.pure hp;refine Tt Z<|Wn ⟨v7,O6,hI,?_⟩;rcases hr with⟨q1,q2⟩|⟨q1,q2⟩
   .injection q2 with q2;exact .inl ⟨q1,q2⟩
   injection q2 with q2;exact .inr ⟨q1,q2⟩
  clear hI;rintro ρ w ⟨v7,hH,hI,hv⟩;obtain⟨σ,rfl⟩:=hH.open;refine Wx (fun ρ w=>∃v7,lA ρ [(7,v7),(21,lI k),(20,lI l.length),(19,me bA oA l.length c),(4,lJ uY 0),(5,lI k)]/\((yl ⟨e0,e1,e2,e3,e4,e5,e6⟩ k s=none/\v7=.iface 36 (Y<|CF ⟨e0,e1,e2,e3,e4,e5,e6⟩)/\ly NF w0 w [])\/(∃s',yl ⟨e0,e1,e2,e3,e4,e5,e6⟩ k s=some s'/\v7=.nilIface/\∃Ao co Ag cg,ly NF w0 w<|tH uY Ao co sC tz Ag cg s'))) ?_ ?_
  .apply Wb;rcases hv with⟨hv,rfl⟩|⟨hv,rfl⟩
   rotate_left
   .exact Wq<|Vs Z<|Tp Z mY Z<|V5 Z<|Yt Z<|Wk ⟨_,xe,.inl ⟨by unfold yl;rw[hv];rfl,by unfold CF;rw[hv];rfl,hI.nn⟩⟩
   refine Wq<|Tb Z<|Tn Z mY Z<|V5 Z<|Yf Z ?_;replace hI:ly NF w0 w (tH uY Ao co sC tz Ag cg s++[B b6 66 #[Y e0,Y e1,Y e2,Y e3,Y e4,Y e5,Y e6]]):=hI.perm<|fJ (l₁:=[_]);by_cases t1:e1=1
   .have MN:yl ⟨e0,e1,e2,e3,e4,e5,e6⟩ k s=Bh ⟨e0,e1,e2,e3,e4,e5,e6⟩ k s:=by unfold yl;rw[lq hv];exact lq t1
    have mR:CF ⟨e0,e1,e2,e3,e4,e5,e6⟩=6:=by unfold CF;rw[lq hv];exact lq t1
    refine Wq<|V6 1 Z<|V4 (Y _) Z (hI.c5 Z)<|Vz Z<|V5 Z<|Yt Z<|Wr<|V8 Z<|U1 7 Z hI.g5<|V0 Z<|V7 [.pointer _,.agg _,Y _] Z func66 Z<|(ajm e0 e1 e2 e3 e4 e5 e6 k uY sC tz Ao co Ag cg s _ aa BM hI.from).mono ?_;rintro e w1 hP;rw[MN];unfold wa at hP;generalize Bh ⟨e0,e1,e2,e3,e4,e5,e6⟩ k s=r at hP|-;obtain⟨v,rfl,hQ⟩:∃v,e=.returned v/\((r=none/\v=.iface 36 (Y<|CF ⟨e0,e1,e2,e3,e4,e5,e6⟩)/\ly NF w0 w1 [])\/∃s',r=some s'/\v=.nilIface/\∃Ao co Ag cg,ly NF w0 w1<|tH uY Ao co sC tz Ag cg s'):=by
     cases r with
     |none=>obtain⟨q1,rfl⟩:=hP;exact⟨_,rfl,.inl ⟨rfl,by rw[mR],(hI.Gx q1).nn⟩⟩
     |some s'=>obtain⟨rfl,A1,c1,A2,c2,q1⟩:=hP;exact⟨_,rfl,.inr ⟨s',rfl,rfl,A1,c1,A2,c2,(hI.Gx q1).d5⟩⟩
    exact rV<|Tt Z<|Wn ⟨_,xe,hQ⟩
   have MN:yl ⟨e0,e1,e2,e3,e4,e5,e6⟩ k s=xP ⟨e0,e1,e2,e3,e4,e5,e6⟩ k s:=by unfold yl;rw[lq hv];exact lp t1
   have mR:CF ⟨e0,e1,e2,e3,e4,e5,e6⟩=12:=by unfold CF;rw[lq hv];exact lp t1
   refine Wq<|V6 1 Z<|V4 (Y _) Z (hI.c5 Z)<|Vv Z<|V5 Z<|Yf Z<|Wr<|V8 Z<|U1 7 Z hI.g5<|V0 Z<|V7 [.pointer _,.agg _,Y _] Z func67 Z<|(alr e0 e1 e2 e3 e4 e5 e6 k uY sC tz Ao co Ag cg s _ aa BM BH hI.from).mono ?_;rintro e w1 hP;rw[MN];unfold wa at hP;generalize xP ⟨e0,e1,e2,e3,e4,e5,e6⟩ k s=r at hP|-;obtain⟨v,rfl,hQ⟩:∃v,e=.returned v/\((r=none/\v=.iface 36 (Y<|CF ⟨e0,e1,e2,e3,e4,e5,e6⟩)/\ly NF w0 w1 [])\/∃s',r=some s'/\v=.nilIface/\∃Ao co Ag cg,ly NF w0 w1<|tH uY Ao co sC tz Ag cg s'):=by
    cases r with
    |none=>obtain⟨q1,rfl⟩:=hP;exact⟨_,rfl,.inl ⟨rfl,by rw[mR],(hI.Gx q1).nn⟩⟩
    |some s'=>obtain⟨rfl,A1,c1,A2,c2,q1⟩:=hP;exact⟨_,rfl,.inr ⟨s',rfl,rfl,A1,c1,A2,c2,(hI.Gx q1).d5⟩⟩
   exact rV<|Tt Z<|Wn ⟨_,xe,hQ⟩
  clear hI hv;rintro ρ w ⟨v7,hH,hP⟩;obtain⟨σ,rfl⟩:=hH.open;rcases hP with⟨hs,rfl,hI⟩|⟨s',hs,rfl,Ao',co',Ag',cg',hI⟩
  .refine Wq<|Vs Z<|Tp Z mY Z<|Yt Z<|Wq<|Vs Z<|V0 Z<|V7 [_,Y _] Z func68 Z<|(ai6 (CF ⟨e0,e1,e2,e3,e4,e5,e6⟩) k _<|hI.my hg).mono ?_;rintro e w1 ⟨x,rfl,hT⟩;apply rV;have hI:=hI.app1 hT;refine Vm Z<|Tt Z<|Wn<|WR ?_;rw[hs]at CN;rw[CN];exact nD 2 3 Z<|Fe.no (by rw[mj,hs];rfl) hI
  rw[hs]at mj CN;have vC:=uM s' hs;have Hv:s'.ops.length<=k+1:=by have:=ag8 hs;omega
  exact Wq<|Tb Z<|Tn Z mY Z<|Yf Z<|Wk<|Wr<|Vx Z<|V0 Z<|Wn ⟨l.length-(k+1),aa,k+1,s',Ao',co',Ag',cg',rfl,aa,⟨mj,CN⟩,vC,Hv,oy,hI⟩
 clear hI mj CN;rintro ρ w ⟨s,Ao,co,Ag,cg,mj,mH,hsl,hH,hI⟩;obtain⟨σ,rfl⟩:=hH.open;refine Wq<|Vm Z<|Wn<|Wx (fun ρ w=>∃(A8:lO) (c8:Nat),lA ρ [(8,.slice A8 (vK s).length c8)]/\ly NF w0 w [zf A8 c8 (vK s)]) ?_ ?_
 .replace hI:ly NF w0 w (zf none 0 ((sZ s 0).map<|lS s.ops)::tH uY Ao co sC tz Ag cg s):=hI.fresh (Pure.refl w) (lz.nil w 0 162 8) (fun k hk=>by cases hk);refine Wq<|V8 Z<|Ve Z<|V6 0 Z<|V4 (.slice _ _ _) Z (hI.c1 Z)<|Vp Z pY Z<|V0 Z<|Wn<|Wb ?_;refine Wl (fun mu ρ w=>∃(k:Nat) (A8:lO) (c8:Nat),mu=s.ops.length-k/\k<=s.ops.length/\lA ρ [(54,lI k),(53,lI s.ops.length),(52,.slice Ao s.ops.length co),(4,lJ uY 0),(8,.slice A8 ((sZ s k).map<|lS s.ops).length c8)]/\ly NF w0 w (zf A8 c8 ((sZ s k).map<|lS s.ops)::tH uY Ao co sC tz Ag cg s)) s.ops.length
   ⟨0,_,_,rfl,aa,⟨rfl,rfl,rfl,rfl,rfl,trivial⟩,hI⟩ ?_
  clear hI;rintro mu ρ w ⟨k,A8,c8,rfl,hk,hH,hI⟩;obtain⟨σ,rfl⟩:=hH.open;by_cases ow:k<s.ops.length;rotate_left
  .obtain rfl:k=s.ops.length:=aa;refine Wq<|Vq Z<|Yg Z<|WE ⟨A8,c8,zu,hI.d5.d4.d3.d2.d1⟩
  have azx:=mH.Bx;obtain⟨bO,_,rfl, -, -, -, -, -, -⟩:=Ie hI.g2 aa;obtain⟨bG,_,rfl, -, -, -, -, -, -⟩:=Ie hI.g3 aa;have hkc:((sZ s k).map<|lS s.ops).length<=120:=by have:(sZ s k).length<=(List.range k).length:=fH ..;simp at this|-;omega
  have PF:(s.gone.map Value.bool)[k]?=some (.bool<|sg s k):=by
   unfold sg;rw[gW,eu,nM<|show k<s.gone.length by omega]
   rfl
  have qN:∀(j:Nat) (u:lH),(pP<|lS s.ops k)[j]?=some u->w.cell? ⟨bO,0+k*8+j,none⟩=some u:=fun j u hj=>yg hI.g2 rfl ow hj;refine Wq<|Vt Z<|Yu Z<|Wk<|Ws<|Wb<|Wq<|V0 Z<|Tu 8 Z pY Z<|Ur 8 Z (by rfl) qN<|T6 (.agg vT) (vT) hI Z ?_;rintro pj w- -hI;refine Vb Z<|Ta 8 (#[_,_,_,_,_,_,_,_]) (.agg _) hI Z ?_;intro w hI;apply Wn;have Eg:=aqA s k;change sZ s (k+1)=sZ s k++(if sg s k then[]else[k])at Eg;cases yK:sg s k with
  |true=>
   rw[yK]at PF Eg;refine Wq<|V8 Z<|Ve Z<|V6 3 Z<|V4 (.slice _ _ _) Z (hI.c2 Z)<|V0 Z<|Tx Z oZ Z<|V4 (.bool _) Z (af5 hI.g4 PF)<|Th Z<|Yf Z<|Wk ?_;have hI:=hI.d0;refine Wr<|Vx Z<|V0 Z<|Wn ⟨s.ops.length-(k+1),aa,k+1,A8,c8,rfl,aa,?_,?_⟩
   .rw[Eg];simp only[lj,iU];exact⟨rfl,rfl,rfl,rfl,rfl,trivial⟩
   rw[Eg];simp only[lj,iU];exact hI
  |false=>
   rw[yK]at PF Eg;refine Wq<|V8 Z<|Ve Z<|V6 3 Z<|V4 (.slice _ _ _) Z (hI.c2 Z)<|V0 Z<|Tx Z oZ Z<|V4 (.bool _) Z (af5 hI.g4 PF)<|Tm Z<|Yt Z<|Wr<|Vf Z<|U1 8 Z hI.g0<|T7 [(0,.agg #[_,_,_,_,_,_,_,_])] [_,_,_,_,_,_,_,_] [Y 0,Y 0,Y 0,Y 0,Y 0,Y 0,Y 0,Y 0] [0] hI Z pY (fun _=>ai) ?_;rintro b69 w- -hI;apply GU (z:=.agg vT) (by_:=64) hI Z Z Z Z Z Z pY ai Z aa (by rfl) hI.qP (by rfl) aa aa cQ;rintro Zt c70 w ay2 azr hI;have hI:=hI.d0;refine Vm Z<|Wn ?_;replace hI:ly NF w0 w (lz 0 162 8 Zt (((sZ s k).map<|lS s.ops).length+1) c70 (((sZ s k).map<|lS s.ops).flatMap pP++pP (lS s.ops k))::tH uY (some ⟨bO,0,none⟩) co sC tz (some ⟨bG,0,none⟩) cg s):=hI.d0;have Eg:(sZ s<|k+1).map (lS s.ops)=(sZ s k).map (lS s.ops)++[lS s.ops k]:=by rw[Eg];simp
   refine Wr<|Vx Z<|V0 Z<|Wn ⟨s.ops.length-(k+1),aa,k+1,Zt,c70,rfl,aa,?_,?_⟩
   .rw[Eg,gD];exact⟨rfl,rfl,rfl,rfl,rfl,trivial⟩
   rw[Eg];unfold zf;rw[gD,gk,gU,iu,iU];exact hI
 clear hI;rintro ρ w ⟨A8,c8,hH,hI⟩;obtain⟨σ,rfl⟩:=hH.open;exact Wq<|Vf Z<|Vm Z<|Vh Z<|Wn<|WR<|nD 2 3 Z<|Fe.yes mj hI
section
variable{P:lY}{ρ:lB}{o:Oper}{w:lE}{x y:mN}{t t':lT}
theorem atM{a b:Nat}(ho:o.op=.binOp .quo t x y t')(hx:ev ρ x=.int .u64 (a:Int))(hy:ev ρ y=.int .u64 (b:Int))(hb:0<b)(ha:a<18446744073709551616):lQ P ρ o w (.int .u64 ((a/b:Nat):Int)):=by
 have h:=Rf (P:=P) (w:=w) ho hx hy aa;have hl:a/b<=a:=Nat.div_le_self a b;have e:(a:Int).tdiv (b:Int)=((a/b:Nat):Int):=by simp[Int.ofNat_tdiv]
 rwa [e,wrap_u64 aa]at h
theorem atE{a b:Nat}(ho:o.op=.binOp .mul t x y t')(hx:ev ρ x=.int .u64 (a:Int))(hy:ev ρ y=.int .u64 (b:Int))(ha:a*b<18446744073709551616):lQ P ρ o w (.int .u64 ((a*b:Nat):Int)):=by
 have h:=afv (P:=P) (w:=w) ho hx hy
 rwa [<-iT,wrap_u64 ha]at h
theorem at1{a b:Nat}(ho:o.op=.binOp .sub t x y t')(hx:ev ρ x=.int .u64 (a:Int))(hy:ev ρ y=.int .u64 (b:Int))(hb:b<=a)(ha:a<18446744073709551616):lQ P ρ o w (.int .u64 ((a-b:Nat):Int)):=by
 have h:=afK (P:=P) (w:=w) ho hx hy
 rwa [show(a:Int)-(b:Int)=((a-b:Nat):Int) by omega,wrap_u64 aa]at h
end
def yw(l:nN):List Value:=l.map fun b:Nat=>Value.int .u8 (b:Int)
theorem ajz(l:nN):(yw l).length=l.length:=by simp[yw]
theorem SK(l m:nN):yw (l++m)=yw l++yw m:=by simp[yw]
theorem ajA(l:nN):(yw l).all (·.oneCell'):=by
 rw[iq];intro v hv;obtain⟨b,_,rfl⟩:=jZ.1 hv
 rfl
def pA(base:Nat)(A:lO)(c:Nat)(l:nN):lN:=lz base 5 1 A l.length c (yw l)
theorem aa4:∀i,i<36->(⟨#[48,49,50,51,52,53,54,55,56,57,97,98,99,100,101,102,103,104,105,106,107,108,109,110,111,112,113,114,115,116,117,118,119,120,121,122]⟩:ByteArray)[i]?=some (UInt8.ofNat (wu i)):=aI
theorem aa5{i:Nat}(h:i<36):((UInt8.ofNat (wu i)).toNat:Int)=(wu i:Int):=by have:=(QL h).1.2.2;simp;omega
theorem atb(w0:lE):Cq 183 #[Y 36] w0 fun en w'=>en=.returned (.bool false)/\Pure w0 w':=by have hI:=ly.start (fun _=>False) w0;apply Vo func183 Z;refine Wq<|V5 Z<|Wn<|Wq<|V0 Z<|V0 Z ?_;refine Wv Z (by exact Kl rfl rfl rfl aa) ?_;refine Wv Z (afg (r:=fun p q=>p&&& q) Z Z Z Z) ?_;apply Wv Z (by exact EI rfl rfl rfl);refine V5 Z<|Wn ?_;exact WR<|lV 2 Z ⟨Z,hI.pu⟩
theorem aa8{cs:lW}{k:Nat}(hk:k<65)(mL:cs.size=65)(v:lH):(cs.setIfInBounds (0+(65-k-1)*1) v).toList.drop (65-(k+1))=v::cs.toList.drop (65-k):=by
 have e:0+(65-k-1)*1=65-(k+1):=aa;have hl:65-(k+1)<(cs.toList.set (65-(k+1)) v).length:=by simp[mL];omega
 rw[e,ei,eF hl,List.getElem_set_self,List.drop_set_of_lt aa,show 65-(k+1)+1=65-k by omega]
theorem alX(base:Nat)(A:lO)(c:Nat)(l:nN)(u:Nat)(w0:lE)(hR:(pA base A c l).ok w0)(hu:u<18446744073709551616)(hn:l.length<=1000000)(hb:base<=w0.heap.size):
  Cq 172 #[.slice A l.length c,.int .u64 (u:Int),Y 36,.bool false,.bool true] w0 fun en w'=>∃A' c',en=.returned (.tuple #[.slice A' (l++wq u).length c',.string ⟨#[]⟩])/\ly (pA base A c l).D w0 w' [pA base A' c' (l++wq u)]:=by
 have hI:=ly.J9 hR;refine Vo func172 Z<|Wq<|Vm Z<|Ud Z<|Wn<|Ws<|Wq<|V0 Z<|Vq Z<|V3 Z<|V0 Z<|Vv Z<|Va Z<|V3 Z<|V0 Z<|Ti Z<|Va Z<|Yf Z<|Wk<|Wq<|T6 (.agg ahZ) (ahZ) hI Z ?_;rintro Bf w- -hI;refine Wn<|Wq<|Vb Z<|Wn<|Ws<|Wq<|V3 Z<|Yf Z<|Wk<|Ws<|Ws<|Wr<|V0 Z<|V7 [Y _] Z func183 Z<|(atb _).mono<|pJ hI fun w1 hp hI=>Yf Z<|Wq<|V0 Z<|Wv Z (by exact EH rfl sM Cj rfl)<|Vb Z<|Wn ?_;obtain⟨cs,mL,hI⟩:∃cs:lW,cs.size=65/\ly (pA base A c l).D w0 w1 [B Bf 314 cs,pA base A c l]:=⟨_,by rfl,hI⟩
 refine Ws<|Wb ?_;refine Wl (fun mu ρ w=>∃(k u':Nat) (acc:nN) (cs:lW),mu=13-k/\k<=13/\acc.length=k/\wq u=Bl (13-k) u' acc/\u'<36 ^ (13-k+1)/\u'<18446744073709551616/\cs.size=65/\cs.toList.drop (65-k)=yw acc/\lA ρ [(13,Y ((65-k:Nat):Int)),(1,.int .u64 (u':Int)),(17,.int .u64 36),(12,lJ Bf 0),(0,.slice A l.length c),(3,.bool false),(4,.bool true),(11,.string ⟨#[]⟩)]/\ly (pA base A c l).D w0 w [B Bf 314 cs,pA base A c l]) 13
  ⟨0,u,[],cs,rfl,aa,rfl,rfl,gK hu aw,hu,mL,by rw[fo (by simp[mL])];rfl,⟨rfl,rfl,rfl,rfl,rfl,rfl,rfl,rfl,trivial⟩,hI⟩ ?_
 rintro mu ρ w ⟨k,u',acc,cs,rfl,hk,Ps,acs,C4,JA,mL,Mi,hH,hI⟩;obtain⟨σ,rfl⟩:=hH.open;by_cases h36:36<=u'
 .have azB:k<13:=by
   rcases j6 k 13 with h|h
   .exact h
   obtain rfl:k=13:=aa;simp at C4;omega
  have hq:u'/36*36<=u':=Nat.div_mul_le_self u' 36;have hr:u'-u'/36*36=u'%36:=aa;have azU:u'%36<36:=kL _ aa;refine Ws<|Wq<|V0 Z<|V0 Z<|Tw Z<|Yt Z<|Wk<|Wb<|Wq<|V0 Z<|Wv Z (Ib (b:=1) Z Z Z aa aa)<|Vb Z<|Wn<|Wq<|V0 Z<|V0 Z<|Wv Z (atM (b:=36) Z Z Z aa aa)<|Vb Z<|Wn<|Wq<|V0 Z<|V0 Z<|V0 Z<|V0 Z<|Wv Z (atE (b:=36) Z Z Z aa)<|Wv Z (at1 Z Z Z aa aa)<|Wv Z (afm Z nS Z Z (aa4 _ aa)<|aa5 aa)<|Wv Z (EJ (sz:=1) Z underlying314 ai Z Z Z aa)<|xI (u:=.int .u8 (wu (u'-u'/36*36):Int)) (j:=0+(65-k-1)*1) hI Z Z Z Z Z Z ai Z (by simp[Nat.blt,mL]) Z ?_;intro w hI;refine Wn<|Wr<|V0 Z<|Vb Z<|Wn ?_;rw[hr]at hI;refine⟨13-(k+1),aa,k+1,u'/36,wu (u'%36)::acc,_,rfl,aa,by simp[Ps],?_,?_,aa,by simp[mL],?_,⟨by show Value.int .i64 ((65-k-1:Nat):Int)=Y ((65-(k+1):Nat):Int);rw[Nat.sub_sub],rfl,rfl,rfl,rfl,rfl,rfl,rfl,trivial⟩,hI⟩
  .rw[acs,show 13-k=(13-(k+1))+1 by omega,Bl,lp aa]
  .rw[Nat.div_lt_iff_lt_mul aa,<-Nat.pow_succ]
   rwa [show(13-(k+1)+1).succ=13-k+1 by omega]
  rw[aa8 aa mL,Mi];rfl
 refine Ws<|Wq<|V0 Z<|V0 Z<|Ua Z<|Yf Z<|WE<|Wq<|V0 Z<|Wv Z (Ib (b:=1) Z Z Z aa aa)<|Vb Z<|Wn<|Wr<|V0 Z<|V0 Z<|Wv Z (afm Z nS Z Z (aa4 _ aa)<|aa5 aa)<|Wv Z (EJ (sz:=1) Z underlying314 ai Z Z Z aa)<|xI (u:=.int .u8 (wu u':Int)) (j:=0+(65-k-1)*1) hI Z Z Z Z Z Z ai Z (by simp[Nat.blt,mL]) Z ?_;intro w hI;apply Wn;have rU:wq u=wu u'::acc:=by
  rw[acs];cases Ja:13-k with
  |zero=>rw[Bl,Nat.mod_eq_of_lt aa]|succ f=>rw[Bl,lq aa]
 have Pz:=aa8 (k:=k) aa mL<|.int .u8 (wu u':Int);rw[Mi]at Pz;have Pz:(cs.setIfInBounds (0+(65-k-1)*1)<|.int .u8 (wu u':Int)).toList.drop (65-(k+1))=yw (wq u):=by rw[Pz,rU];rfl
 have mR:(cs.setIfInBounds (0+(65-k-1)*1)<|.int .u8 (wu u':Int)).size=65:=by simp[mL]
 have aBn:(wq u).length=k+1:=by rw[rU];simp[Ps]
 replace hI:∃cs':lW,cs'.size=65/\cs'.toList.drop (65-(k+1))=yw (wq u)/\ly (pA base A c l).D w0 w [B Bf 314 cs',pA base A c l]:=⟨_,mR,Pz,hI⟩
 obtain⟨cs',adg,Mh,hI⟩:=hI;refine Ws<|Wq<|V3 Z<|Yf Z<|Wk<|Ws<|Wq<|V3 Z<|Yt Z<|Ws<|Wr<|Vf Z<|V0 Z<|Wv Z (atU (i:=65-k-1) Z underlying314 ai Z Z aa) ?_;refine ZT (z:=.int .u8 0) (by_:=1) (aBp:=yw<|wq u) hI Z Z Z Z Z Z zT ai Z aa (by rw[ajz];omega) (fun q v hq=>?_) (ajA _) aa aa dw ?_
 .rw[<-Mh,gB]at hq;rw[kg,show 65-k-1=65-(k+1) by omega];exact hI.c0 (by simpa using hq)
 rintro A' c' w oT rJ hI;refine Vm Z<|Wn<|WR ?_;have el:l.length+(65-(65-k-1))=(l++wq u).length:=by simp[aBn];omega
 rw[el,<-SK]at hI;refine nD 10 11 Z ⟨A',c',?_,hI.d0⟩;rw[<-el];rfl
theorem Z6(base:Nat)(A:lO)(c:Nat)(l:nN)(u:Nat)(w0:lE)(hR:(pA base A c l).ok w0)(hu:u<18446744073709551616)(hn:l.length<=1000000)(hb:base<=w0.heap.size):
  Cq 173 #[.slice A l.length c,.int .u64 (u:Int),Y 36] w0 fun en w'=>∃A' c',en=.returned (.slice A' (l++wq u).length c')/\ly (pA base A c l).D w0 w' [pA base A' c' (l++wq u)]:=by
 have hI:=ly.J9 hR;refine Vo func173 Z<|Wq<|Vm Z<|Wn<|Ws<|Wq<|V0 Z<|Vv Z<|Yf Z<|Wk<|Ws<|Wr<|Vf Z<|V0 Z<|V0 Z<|V7 [.slice _ _ _,.int .u64 _,Y _,.bool _,.bool _] Z func172 Z<|(alX base A c l u _ (hI.ok _ aq) hu hn hb).mono ?_;rintro e w1 ⟨A',c',rfl,hT⟩;apply rV;have hI:=hI.Dq hT;exact Vy Z<|Vi Z<|Vi Z<|Vm Z<|Wn<|Wq<|Vf Z<|Vm Z<|Wn<|WR<|lV 6 Z ⟨A',c',Z,hI⟩
section
variable{P:lY}{ρ:lB}{o:Oper}{w:lE}{x y:mN}{t t':lT}
theorem atF{n:Int}(ho:o.op=.unOp .neg t x)(hx:ev ρ x=.int .u64 (IntKind.u64.wrap n))(h0:n<0)(h1: -9223372036854775808<=n):lQ P ρ o w (.int .u64 (n.natAbs:Int)):=by
 have h:=atG (P:=P) (w:=w) ho hx;have e:IntKind.u64.wrap (0-IntKind.u64.wrap n)=(n.natAbs:Int):=by simp[IntKind.wrap,IntKind.signed,IntKind.bits];omega
 rwa [e]at h
end
theorem aiW(base:Nat)(A:lO)(c:Nat)(l:nN)(n:Int)(w0:lE)(hR:(pA base A c l).ok w0)(hn:wK n)(hl:l.length<=999999)(hb:base<=w0.heap.size):
  Cq 162 #[.slice A l.length c,Y n,Y 36] w0 fun en w'=>∃A' c',en=.returned (.slice A' (l++xx n).length c')/\ly (pA base A c l).D w0 w' [pA base A' c' (l++xx n)]:=by
 have hI:=ly.J9 hR;unfold wK at hn;refine Vo func162 Z<|Wq<|Vm Z<|Wn ?_;by_cases My:n<0
 .refine Wq<|V0 Z<|Wv Z (EH Z underlying2 Cj Z)<|Vb Z<|Wn<|Ws<|Wq<|V0 Z<|Vt Z<|Yt Z<|Wq<|Vf Z<|T7 [(0,.int .u8 _)] [_] [.int .u8 0] [0] hI Z zT (fun _=>ai) ?_;rintro CB w- -hI;refine Tz 1 (.int .u8 0) hI Z zT Z (by rfl) hI.qP (by rfl) (by(have:=hI.ni.size;omega)) ?_;rintro zb xM w ayT UT hI;have hI:=hI.d0;refine Vm Z<|Wn ?_;replace hI:ly (pA base A c l).D w0 w [pA base zb xM (l++[45])]:=by
   have e:pA base zb xM (l++[45])=lz base 5 1 zb (l.length+1) xM (yw l++[.int .u8 45]):=by
    unfold pA;rw[SK,gD]
    rfl
   rw[e];exact hI
  refine Wr<|V0 Z<|Wv Z (atF (n:=n) Z Z My aa)<|Vb Z<|Wn ?_;have e:l++xx n=(l++[45])++wq n.natAbs:=by unfold xx;rw[lq My];simp
  rw[e];refine Wq<|Vf Z<|V0 Z<|V0 Z<|V7 [.slice _ _ _,.int .u64 _,Y _] Z func173 Z<|kI (by have h:=Z6 base zb xM (l++[45]) n.natAbs _ (hI.ok _ aq) aa aF dw;rw[gD]at h;exact h) ?_;rintro e w1 ⟨A',c',rfl,hT⟩;apply rV;have hI:=hI.Dq hT;exact Vm Z<|Wn<|WR<|lV 6 Z ⟨A',c',Z,hI⟩
 obtain⟨m,rfl⟩:∃m:Nat,n=(m:Int):=⟨n.toNat,aa⟩
 refine Wq<|V0 Z<|Wv Z (by exact att rfl underlying2 Cj rfl aa)<|Vb Z<|Wn<|Ws<|Wq<|V0 Z<|Vq Z<|Yf Z<|Wk ?_;have e:l++xx (m:Int)=l++wq m:=by unfold xx;rw[lp My];simp
 rw[e];refine Wq<|Vf Z<|V0 Z<|V0 Z<|V7 [.slice _ _ _,.int .u64 _,Y _] Z func173 Z<|(Z6 base A c l m _ (hI.ok _ aq) aa aa dw).mono ?_;rintro e w1 ⟨A',c',rfl,hT⟩;apply rV;have hI:=hI.Dq hT;exact Vm Z<|Wn<|WR<|lV 6 Z ⟨A',c',Z,hI⟩
theorem aiX(base:Nat)(A:lO)(c:Nat)(l:nN)(n:Int)(w0:lE)(hR:(pA base A c l).ok w0)(hn:wK n)(hl:l.length<=999999)(hb:base<=w0.heap.size):
  Cq 148 #[.slice A l.length c,Y n,Y 36] w0 fun en w'=>∃A' c',en=.returned (.slice A' (l++xx n).length c')/\ly (pA base A c l).D w0 w' [pA base A' c' (l++xx n)]:=by
 have hI:=ly.J9 hR;refine Vo func148 Z<|Wq<|Vm Z<|Wn<|Wq<|Vf Z<|V0 Z<|V0 Z<|V7 [.slice _ _ _,Y _,Y _] Z func162 Z<|(aiW base A c l n _ (hI.ok _ aq) hn hl hb).mono ?_;rintro e w1 ⟨A',c',rfl,hT⟩;apply rV;have hI:=hI.Dq hT;exact Vm Z<|Wn<|WR<|lV 6 Z ⟨A',c',Z,hI⟩
theorem aa6:∀(f u:Nat) (acc:nN),(Bl f u acc).length<=acc.length+f+1
 |0,u,acc=>by simp[Bl]
 |f+1,u,acc=>by
  rw[Bl];split
  .simp
  have:=aa6 f (u/36)<|wu (u%36)::acc;simp at this|-;omega
theorem aqt(n:Int):(xx n).length<=15:=by
 have h:∀u,(wq u).length<=14:=fun u=>aa6 13 u [];have:=h n.natAbs;unfold xx;split
 .simp;omega
 omega
def Gv(L:Loc)(sts:sB):List Value:=(List.range 8).map fun k=>Value.slice (L k).1 (sts k).length (L k).2
theorem ag6{L:Loc}{sts:sB}{k:Nat}(hk:k<8):(Gv L sts).toArray[k]?=some (.slice (L k).1 (sts k).length (L k).2):=by
 unfold Gv;rw[fG,gW,gm hk]
 rfl
def rG(dn:pw)(j:Nat):List Nat:=(List.range j).map fun i=>OD (dn i)
theorem OE(dn:pw)(j:Nat):rG dn (j+1)=rG dn j++[OD (dn j)]:=by simp[rG,jf]
def tY(l:mq)(q:Nat):List Nat:=(l.take q).flatMap fun n=>32::xx n
theorem aba{l:mq}{q:Nat}(hq:q<l.length):tY l (q+1)=tY l q++[32]++xx l[q]:=by
 unfold tY;rw[dT hq,gk,gR];simp only[gU,iu,iU]
 rfl
theorem TC(l:mq):tY l l.length++[124]=I0 l:=by unfold tY I0;rw[List.take_length]
theorem TE(sts:sB)(k:Nat):tZ sts (List.range (k+1))=tZ sts (List.range k)++I0 (sts k):=by simp[tZ,jf]
theorem TD(l:mq):∀q,(tY l q).length<=16*q:=by
 intro q
 induction q with
 |zero=>simp[tY]|succ q ih=>
  rcases j6 q l.length with h|h
  .rw[aba h];have:=aqt l[q];simp;omega
  have:tY l (q+1)=tY l q:=by unfold tY;rw[fq h,fq aa]
  rw[this];omega
theorem ali(l:mq):(I0 l).length<=16*l.length+1:=by rw[<-TC];have:=TD l l.length;simp;omega
theorem alk{sts:sB}{m:Nat}(h:∀k,(sts k).length<=m):∀k,(tZ sts (List.range k)).length<=k*(16*m+1):=by
 intro k
 induction k with
 |zero=>simp[tZ]|succ k ih=>rw[TE,gD,kr,kx];have h1:=ali<|sts k;have h2:=h k;omega
theorem pA.snoc{base c:Nat}{A:lO}{l:nN}{b:Nat}:pA base A c (l++[b])=lz base 5 1 A (l.length+1) c (yw l++[.int .u8 (b:Int)]):=by
 unfold pA;rw[SK,gD]
 rfl
theorem atD{P:lY}{ρ:lB}{oo:Oper}{w:lE}{x y:mN}{t t':lT}{a b:Nat}(ho:oo.op=.binOp .mul t x y t')(hx:ev ρ x=lI a)(hy:ev ρ y=lI b)(h:a*b<=9223372036854775807):lQ P ρ oo w (Y ((a*b:Nat):Int)):=by
 have hn:(0:Int)<=(a:Int)*(b:Int):=by rw[<-iT];omega
 have hm:(a:Int)*(b:Int)<=9223372036854775807:=by rw[<-iT];omega
 have:=atC (P:=P) (w:=w) ho hx hy ⟨aa,hm⟩
 rwa [<-iT]at this
theorem au6(sb:Nat)(A:lO)(c n db:Nat)(dn:pw)(L:Loc)(sts:sB)(w0:lE)(h1:w0.cell? ⟨sb,1,none⟩=some (.slice A n c))(h4:w0.cell? ⟨sb,4,none⟩=some (me db 0 n n))(hd:mV w0 db 4 (qS n dn))
  (h6:∀(j:Nat) (u:lH),(Gv L sts)[j]?=some u->w0.cell? ⟨sb,6+j,none⟩=some u) (mo:∀k,k<8->Rd w0 (fun _=>True) 1 (.slice (L k).1 (sts k).length (L k).2) (sts k).length (mW<|sts k)) (hn:n<=100) (hi:∀k,∀x∈sts k,wK x) (aBn:∀k,(sts k).length<=100):
  Cq 134 #[lJ sb 0] w0 fun en w'=>en=.returned (.string<|tM<|zF n dn sts)/\Pure w0 w':=by
 have hI:=ly.start (fun _=>False) w0;refine Vo func134 Z<|Wq<|Ud Z<|Wn<|Wq<|V8 Z<|Ve Z<|V6 1 Z<|V4 (.slice _ _ _) Z (hI.my h1)<|Vp Z pY Z<|Wv Z (atD (a:=2) (b:=n) Z Z Z aa)<|aiG (zv:=.int .u8 0) (by_:=1) (base:=0) hI Z Z Z Z Z Z zT ai aa aa (kz _) ?_;rintro tz w _ _ hI;refine Vm Z<|Wn ?_;replace hI:ly NF w0 w [pA 0 (some ⟨tz,0,none⟩) (2*n) (rG dn 0)]:=hI;refine Wx (fun ρ w=>∃(A3:lO) (c3:Nat),lA ρ [(3,.slice A3 (rG dn n).length c3),(0,lJ sb 0)]/\ly NF w0 w [pA 0 A3 c3 (rG dn n)]) ?_ ?_
 .refine Wq<|V8 Z<|Ve Z<|V6 4 Z<|V4 (.slice _ _ _) Z (hI.my h4)<|Vp Z oZ Z<|V0 Z<|Wn<|Wb ?_;refine Wl (fun mu ρ w=>∃(k:Nat) (A3:lO) (c3:Nat),mu=n-k/\k<=n/\lA ρ [(22,lI k),(21,lI n),(20,me db 0 n n),(3,.slice A3 (rG dn k).length c3),(0,lJ sb 0)]/\ly NF w0 w [pA 0 A3 c3 (rG dn k)]) n
   ⟨0,_,_,rfl,aa,⟨rfl,rfl,rfl,rfl,rfl,trivial⟩,hI⟩ ?_
  clear hI;rintro mu ρ w ⟨k,A3,c3,rfl,hk,hH,hI⟩;obtain⟨σ,rfl⟩:=hH.open;have BH:(rG dn k).length=k:=by simp[rG]
  by_cases nC:k<n;rotate_left
  .obtain rfl:k=n:=aa;exact Wq<|Vq Z<|Yg Z<|WE ⟨A3,c3,yD,hI⟩
  have vA:=(hd.cell k).trans<|OF (n:=n) dn nC;cases BK:dn k with
  |true=>
   rw[BK]at vA;refine Wq<|Vt Z<|Yu Z<|Wk<|Ws<|Wb<|Wq<|Tx Z oZ Z<|V4 (.bool _) Z (hI.my vA)<|V5 Z<|Wn<|Wq<|V3 Z<|Yt Z<|Wr<|Vf Z<|T7 [(0,.int .u8 _)] [_] [.int .u8 0] [0] hI Z zT (fun _=>ai) ?_;rintro uZ w- -hI;apply Tz 1 (.int .u8 0) hI Z zT Z (by rfl) hI.qP (by rfl) (kz _);rintro Zp c29 w ayW azl hI;have hI:=hI.d0;refine Vm Z<|Wn ?_;replace hI:ly NF w0 w [pA 0 Zp c29 (rG dn<|k+1)]:=by rw[OE,BK,pA.snoc];exact hI
   exact Wr<|Vx Z<|V0 Z<|Wn ⟨n-(k+1),aa,k+1,Zp,c29,rfl,aa,⟨rfl,rfl,rfl,by rw[OE,gD];rfl,rfl,trivial⟩,hI⟩
  |false=>
   rw[BK]at vA;refine Wq<|Vt Z<|Yu Z<|Wk<|Ws<|Wb<|Wq<|Tx Z oZ Z<|V4 (.bool _) Z (hI.my vA)<|V5 Z<|Wn<|Wq<|V3 Z<|Yf Z<|Wr<|Vf Z<|T7 [(0,.int .u8 _)] [_] [.int .u8 0] [0] hI Z zT (fun _=>ai) ?_;rintro uE w- -hI;apply Tz 1 (.int .u8 0) hI Z zT Z (by rfl) hI.qP (by rfl) (kz _);rintro Zq c32 w ayX azm hI;have hI:=hI.d0;refine Vm Z<|Wn ?_;replace hI:ly NF w0 w [pA 0 Zq c32 (rG dn<|k+1)]:=by rw[OE,BK,pA.snoc];exact hI
   exact Wr<|Vx Z<|V0 Z<|Wn ⟨n-(k+1),aa,k+1,Zq,c32,rfl,aa,⟨rfl,rfl,rfl,by rw[OE,gD];rfl,rfl,trivial⟩,hI⟩
 clear hI;rintro ρ w ⟨A3,c3,hH,hI⟩;obtain⟨σ,rfl⟩:=hH.open;have BH:(rG dn n).length=n:=by simp[rG]
 refine Wx (fun ρ w=>∃(A3:lO) (c3:Nat),lA ρ [(3,.slice A3 (zF n dn sts).length c3)]/\ly NF w0 w [pA 0 A3 c3 (zF n dn sts)]) ?_ ?_
 .refine Wq<|V8 Z<|Ve Z<|V6 6 Z<|Ur 8 Z (by rfl) (fun k u hk=>hI.my<|h6 k u hk)<|V0 Z<|Wn<|Wb ?_;refine Wl (fun mu ρ w=>∃(k:Nat) (A3:lO) (c3:Nat),mu=8-k/\k<=8/\lA ρ [(38,lI k),(37,.agg (Gv L sts).toArray),(3,.slice A3 (rG dn n++tZ sts (List.range k)).length c3)]/\ly NF w0 w [pA 0 A3 c3 (rG dn n++tZ sts (List.range k))]) 8
   ⟨0,A3,c3,rfl,aa,⟨rfl,rfl,by simp[tZ];rfl,trivial⟩,by simp only[tZ,List.range_zero,iu,iU];exact hI⟩ ?_
  clear hI;rintro mu ρ w ⟨k,A3,c3,rfl,hk,hH,hI⟩;obtain⟨σ,rfl⟩:=hH.open;by_cases rY:k<8;rotate_left
  .obtain rfl:k=8:=aa;exact Wq<|Vq Z<|Yg Z<|WE ⟨A3,c3,zu,hI⟩
  refine Wq<|Vt Z<|Yu Z<|Wk<|Ws<|Wb<|Ws<|Wr<|Wv Z (atv Z underlying233 ai ai Z Z aa<|ag6 rY)<|Vm Z<|Wn ?_;have Ek:=mo k rY;have xY:=alk aBn k;have Eh:=aBn k;have azC:k*(16*100+1)<=8*(16*100+1):=fX _ hk;generalize (L k).1=Ak at Ek|-;generalize (L k).2=ck at Ek|-;refine Wx (fun ρ w=>∃(A3:lO) (c3:Nat),lA ρ [(38,lI k),(37,.agg (Gv L sts).toArray),(3,.slice A3 (rG dn n++tZ sts (List.range k)++tY (sts k) (sts k).length).length c3)]/\ly NF w0 w [pA 0 A3 c3 (rG dn n++tZ sts (List.range k)++tY (sts k) (sts k).length)]) ?_ ?_
  .refine Wq<|Vf Z<|Vp Z nz Z<|V0 Z<|Wn<|Wb ?_;refine Wl (fun mu ρ w=>∃(q:Nat) (A3:lO) (c3:Nat),mu=(sts k).length-q/\q<=(sts k).length/\lA ρ [(43,lI q),(42,Y ((sts k).length:Int)),(41,.slice Ak (sts k).length ck),(38,lI k),(37,.agg (Gv L sts).toArray),(3,.slice A3 (rG dn n++tZ sts (List.range k)++tY (sts k) q).length c3)]/\ly NF w0 w [pA 0 A3 c3 (rG dn n++tZ sts (List.range k)++tY (sts k) q)]) (sts k).length
    ⟨0,A3,c3,rfl,aa,⟨rfl,rfl,rfl,rfl,rfl,by simp[tY];rfl,trivial⟩,by simp only[tY,jA,iu,iU];exact hI⟩ ?_
   clear hI;rintro mu ρ w ⟨q,A3,c3,rfl,hq,hH,hI⟩;obtain⟨σ,rfl⟩:=hH.open;by_cases Ju:q<(sts k).length;rotate_left
   .obtain rfl:q=(sts k).length:=aa;exact Wq<|Vq Z<|Yg Z<|WE ⟨A3,c3,sf,hI⟩
   have pE:(mW<|sts k)[q]?=some (Y<|(sts k)[q]'Ju):=by simp[mW,Ju]
   obtain⟨ob,oo,rfl,_,_,nU⟩:=Ek.get pE aa;have PI:=hi k _<|iw Ju;have azS:=TD (sts k) q;have ade:=aba Ju;generalize (sts k)[q]'Ju=z at nU PI ade;have WX:(rG dn n++tZ sts (List.range k)++tY (sts k) q).length<=20000:=by rw[gD,gD];omega
   generalize hX:rG dn n++tZ sts (List.range k)++tY (sts k) q=X at hI WX;refine Wq<|Vt Z<|Yu Z<|Wk<|Ws<|Wb<|Wq<|Uq Z nz Z<|V4 (Y _) Z (hI.my nU)<|Vb Z<|Wn<|Wr<|Vf Z<|T7 [(0,.int .u8 _)] [_] [.int .u8 0] [0] hI Z zT (fun _=>ai) ?_;rintro b48 w- -hI;apply Tz 1 (.int .u8 0) hI Z zT Z (by rfl) hI.qP (by rfl) (kz _);rintro Zr c49 w ayY azn hI;have hI:=hI.d0;refine V0 Z<|V7 [.slice _ _ _,Y _,Y _] Z func148 Z ?_;replace hI:ly NF w0 w [pA 0 Zr c49 (X++[32])]:=by rw[pA.snoc];exact hI
   refine kI (by have h:=aiX 0 Zr c49 (X++[32]) z _ (hI.ok _ aq) PI aF<|kz _;rw[gD]at h;exact h) ?_;rintro e w1 ⟨A',c',rfl,hT⟩;apply rV;have hI:=hI.Dq hT;refine Vm Z<|Wn<|Wr<|Vx Z<|V0 Z<|Wn ?_;have eX:rG dn n++tZ sts (List.range k)++tY (sts k) (q+1)=X++[32]++xx z:=by rw[ade,<-hX];simp
   exact⟨(sts k).length-(q+1),aa,q+1,A',c',rfl,aa,⟨rfl,rfl,rfl,rfl,rfl,by rw[eX];rfl,trivial⟩,by rw[eX];exact hI⟩
  clear hI;rintro ρ w ⟨A3,c3,hH,hI⟩;obtain⟨σ,rfl⟩:=hH.open;have azR:=TD (sts k) (sts k).length;have WX:(rG dn n++tZ sts (List.range k)++tY (sts k) (sts k).length).length<=20000:=by rw[gD,gD];omega
  have eX:rG dn n++tZ sts (List.range k)++tY (sts k) (sts k).length++[124]=rG dn n++tZ sts (List.range<|k+1):=by rw[TE,<-TC];simp
  generalize hX:rG dn n++tZ sts (List.range k)++tY (sts k) (sts k).length=X at hI WX eX;refine Wr<|Vf Z<|T7 [(0,.int .u8 _)] [_] [.int .u8 0] [0] hI Z zT (fun _=>ai) ?_;rintro b54 w- -hI;apply Tz 1 (.int .u8 0) hI Z zT Z (by rfl) hI.qP (by rfl) (kz _);rintro Zs c55 w ayZ azo hI;have hI:=hI.d0;refine Vm Z<|Wn ?_;replace hI:ly NF w0 w [pA 0 Zs c55 (rG dn n++tZ sts (List.range<|k+1))]:=by rw[<-eX,pA.snoc];exact hI
  exact Wr<|Vx Z<|V0 Z<|Wn ⟨8-(k+1),aa,k+1,Zs,c55,rfl,aa,⟨rfl,rfl,by rw[<-eX,gD];rfl,trivial⟩,hI⟩
 clear hI;rintro ρ w ⟨A3,c3,hH,hI⟩;obtain⟨σ,rfl⟩:=hH.open;have uq:0<(zF n dn sts).length:=by unfold zF;rw[gD,TE sts 7,gD,<-TC];simp;omega
 exact Wq<|Vf Z<|Wv Z (atr Z zT underlying5 nS Z hI.g0 (adN n dn sts) uq)<|Ud Z<|Wn<|WR<|lV 2 Z ⟨Z,hI.pu⟩
def tK(o:Int)(A:lO)(n c lP f db eb:Nat)(L:Loc)(sts:sB)(A':lO)(m c':Nat):Array Value:=
 #[.int .i64 o,.slice A n c,.int .i64 (lP:Int),.func (.func f) #[] #[],.slice (some ⟨db,0,none⟩) n n,.slice A' m c',
  .slice (L 0).1 (sts 0).length (L 0).2,.slice (L 1).1 (sts 1).length (L 1).2,.slice (L 2).1 (sts 2).length (L 2).2,.slice (L 3).1 (sts 3).length (L 3).2,
  .slice (L 4).1 (sts 4).length (L 4).2,.slice (L 5).1 (sts 5).length (L 5).2,.slice (L 6).1 (sts 6).length (L 6).2,.slice (L 7).1 (sts 7).length (L 7).2,.map (some eb)]
theorem lt8{k:Nat}(h:k<8):k=0\/k=1\/k=2\/k=3\/k=4\/k=5\/k=6\/k=7:=aa
section
variable{o:Int}{A:lO}{n c lP f db eb:Nat}{L:Loc}{sts:sB}{A':lO}{m c':Nat}
theorem ag4{k:Nat}(hk:k<8):(tK o A n c lP f db eb L sts A' m c')[6+k]?=some (.slice (L k).1 (sts k).length (L k).2):=by rcases lt8 hk with rfl|rfl|rfl|rfl|rfl|rfl|rfl|rfl<;>rfl
theorem awy{k:Nat}{u:lH}(hu:(Gv L sts)[k]?=some u):(tK o A n c lP f db eb L sts A' m c')[6+k]?=some u:=by
 have hk:k<8:=by have:=(oS hu).1;simpa[Gv]using this
 rw[ag4 hk];have:=ag6 (L:=L) (sts:=sts) hk;simp only[fG]at this;rw[this]at hu;exact hu
theorem Y3{k:Nat}(hk:k<8)(A1:lO)(c1:Nat)(st:mq):(tK o A n c lP f db eb L sts A' m c').setIfInBounds (6+k) (.slice A1 st.length c1)=tK o A n c lP f db eb (tO L k A1 c1) (qX sts k st) A' m c':=by rcases lt8 hk with rfl|rfl|rfl|rfl|rfl|rfl|rfl|rfl<;>rfl
end
theorem axi(L:Loc)(k:Nat)(A1:lO)(c1:Nat):tO (tO L k A1 c1) k (L k).1 (L k).2=L:=by
 funext j;unfold tO;by_cases h:j=k
 .subst h;simp
 simp[h]
theorem awD(sts:sB)(k:Nat)(st:mq):qX (qX sts k st) k (sts k)=sts:=by
 funext j;unfold qX;by_cases h:j=k
 .subst h;simp
 simp[h]
theorem ak2{dn:pw}{i:Nat}(h:dn i=false):rH (rH dn i true) i false=dn:=by
 funext j;unfold rH;by_cases hj:j=i
 .subst hj;simp[h]
 simp[hj]
def ux(sb:Nat)(o:Int)(A:lO)(n c lP f db eb:Nat)(L:Loc)(s:qM)(A':lO)(c':Nat):List lN:=[B sb 235 (tK o A n c lP f db eb L s.sts A' s.ord.length c'),B db 4<|qS n s.dn,mM A' c' s.ord,tx eb s.mG]
section
variable{l0 l H:List lN}{w0 w:lE}{S:lF}{size n:Nat}{v:lH}{xs:mb}
theorem Rd.now(hI:ly (DL l0) w0 w H)(h:Rd w0 (fun b=>¬DL l0 b) size v n xs)(hs:0<size):Rd w (fun b=>¬DL H b) size v n xs:=by
 obtain⟨A,c,hv,h1,h2,h3,h4⟩:=h;refine⟨A,c,hv,h1,h2,h3,fun hn=>?_⟩;have⟨b,o,e,hb,nU⟩:=h4 hn;have aBn:0<xs.length:=by rw[h3];exact Nat.mul_pos hn hs
 have lX:=fc w0 _<|nU 0 _<|nM aBn;refine⟨b,o,e,?_,fun j u hu=>hI.old (nU j u hu) hb⟩;rintro⟨x,hx,Qc⟩;rcases hI.own x hx b Qc with h5|h5
 .exact hb h5
 have lX:b<w0.heap.size:=lX;omega
theorem DL.mono(h:∀e∈l,e∈H){b:Nat}(hb:¬DL H b):¬DL l b:=fun⟨e,he,hk⟩=>hb ⟨e,h e he,hk⟩
theorem mM.rd{A:lO}{c:Nat}{st:mq}(hI:ly S w0 w (mM A c st::l)):Rd w (fun b=>¬DL l b) 1 (.slice A st.length c) st.length (mW st):=by have hg:w.ownsRow 0 3 1 (.slice A st.length c) st.length (mW st):=hI.g0;refine Rd.wP hg fun k hk _=>?_;rintro⟨e,he,VP⟩;rw[EF]at hk;exact(gG.1 hI.apart).1 e he k hk VP
theorem Xk(hI:ly (DL l0) w0 w H)(hk:wW w0)(h0:¬DL l0 2):wW w/\¬DL H 2:=by
 refine⟨fun i hi=>hI.old (hk i hi) h0,?_⟩;rintro⟨x,hx,Qc⟩;have lX:2<w0.heap.size:=fc w0 _<|hk 0 aa;rcases hI.own x hx _ Qc with h5|h5
 .exact h0 h5
 omega
def Bc(w:lE)(l:List lN)(L:Loc)(sts:sB):Prop:=∀k,k<8->Rd w (fun b=>¬DL l b) 1 (.slice (L k).1 (sts k).length (L k).2) (sts k).length (mW (sts k))
theorem Bc.now{L:Loc}{sts:sB}(h:Bc w0 l0 L sts)(hI:ly (DL l0) w0 w H):Bc w H L sts:=fun k hk=>Rd.now hI (h k hk) aw
theorem Bc.mono{L:Loc}{sts:sB}(h:Bc w H L sts)(hs:∀e∈l,e∈H):Bc w l L sts:=fun k hk=>(h k hk).mono fun _ hb=>DL.mono hs hb
theorem Bc.upd{L:Loc}{sts:sB}{k:Nat}{A:lO}{c:Nat}{st:mq}(h:Bc w l L sts)(hs:Rd w (fun b=>¬DL l b) 1 (.slice A st.length c) st.length (mW st)):Bc w l (tO L k A c) (qX sts k st):=by
 intro j hj;by_cases qE:j=k
 .subst qE;have e1:tO L j A c j=(A,c):=by simp[tO]
  have e2:qX sts j st j=st:=by simp[qX]
  rw[e1,e2];exact hs
 have e1:tO L k A c j=L j:=by simp[tO,qE]
 have e2:qX sts k st j=sts j:=by simp[qX,qE]
 rw[e1,e2];exact h j hj
end
section
variable{P:lY}{ρ:lB}{oo:Oper}{w:lE}{x y:mN}{t kt et b:Nat}{ks:List (List Nat)}{a:nN}
theorem atz(h:a∈ks)(ho:oo.op=.lookup t x y true)(ht:P.underlying t=some (.map kt et))(hk:P.underlying kt=some .string)(hz:(P.info? et).bind (·.zero)=some (.agg #[]))(hx:ev ρ x=.map (some b))(hy:ev ρ y=.string (tM a))(ha:∀c∈a,c<256)(hM:Fq w b ks):lQ P ρ oo w (.tuple #[.agg #[],.bool true]):=by
 have:=afo (P:=P) ho ht hk hz hx hy ha hM
 rwa [jB h]at this
theorem aty(h:a∉ks)(ho:oo.op=.lookup t x y true)(ht:P.underlying t=some (.map kt et))(hk:P.underlying kt=some .string)(hz:(P.info? et).bind (·.zero)=some (.agg #[]))(hx:ev ρ x=.map (some b))(hy:ev ρ y=.string (tM a))(ha:∀c∈a,c<256)(hM:Fq w b ks):lQ P ρ oo w (.tuple #[.agg #[],.bool false]):=by
 have:=afo (P:=P) ho ht hk hz hx hy ha hM
 rwa [jo h]at this
end
theorem awx{o:Int}{A:lO}{n c lP f db eb:Nat}{L:Loc}{sts:sB}{A':lO}{m c':Nat}{k:Nat}(hk:k<8):(tK o A n c lP f db eb L sts A' m c')[6+k*1]?=some (.slice (L k).1 (sts k).length (L k).2):=by rw[kv];exact ag4 hk
theorem aar{n:Nat}(f:pw)(u:Nat)(b:Bool):(qS n f).setIfInBounds u (.bool b)=qS n (rH f u b):=ajp f u b
def zV(o:Int)(sb db eb f:Nat)(A:lO)(c:Nat)(l:List l9)(ab:l9->l9->Bool)(lP:Nat)(fu:Nat)(s:qM)(L:Loc)(l0:List lN)(w0:lE)(en:Ending)(w':lE):Prop:=∃L' wU w8,en=.returned (.int .i64 (qg o l ab lP fu s).1)/\ly (DL l0) w0 w' (ux sb o A l.length c lP f db eb L' (qg o l ab lP fu s).2 wU w8)/\((qg o l ab lP fu s).1=2->L'=L)
theorem zV.same{o:Int}{sb db eb f:Nat}{A:lO}{c:Nat}{l:List l9}{ab:l9->l9->Bool}{lP:Nat}{fu:Nat}{s:qM}{L:Loc}{l0:List lN}{w0 w':lE}{z:Int}{A':lO}{c':Nat}(h:qg o l ab lP fu s=(z,s))(hI:ly (DL l0) w0 w' (ux sb o A l.length c lP f db eb L s A' c')):zV o sb db eb f A c l ab lP fu s L l0 w0 (.returned (Y z)) w':=by unfold zV;rw[h];exact⟨L,A',c',Z,hI,fun _=>Z⟩
theorem zV.mk{o:Int}{sb db eb f:Nat}{A:lO}{c:Nat}{l:List l9}{ab:l9->l9->Bool}{lP:Nat}{fu:Nat}{s s':qM}{L L':Loc}{l0:List lN}{w0 w':lE}{z:Int}{A':lO}{c':Nat}(h:qg o l ab lP fu s=(z,s'))(hI:ly (DL l0) w0 w' (ux sb o A l.length c lP f db eb L' s' A' c'))(hL:z=2->L'=L):zV o sb db eb f A c l ab lP fu s L l0 w0 (.returned (Y z)) w':=by unfold zV;rw[h];exact⟨L',A',c',Z,hI,hL⟩
theorem at2{n k:Nat}(h:k<n):(List.range n).drop k=k::(List.range n).drop (k+1):=by rw[eF (by simpa using h)];simp
theorem Z1{l:List l9}{dn:pw}:Sq l dn↔DR l dn:=by
 unfold Sq DR;simp only[iq,jy,iP,gP,fe];refine⟨fun h i hi=>?_,fun h i hi hr=>?_⟩
 .by_cases h0:0<=(lS l i).ret
  .exact .inr<|h i hi h0
  exact .inl h0
 rcases h i hi with h1|h1
 .exact ll hr h1
 exact h1
theorem aej{l:List l9}{ab:l9->l9->Bool}{dn:pw}{i:Nat}:Xz l ab dn i↔C9 l ab dn i:=by
 unfold Xz C9;simp only[iq,jy,ij,iP,gP,kM];refine⟨fun h=>⟨h.1,fun k hk=>?_⟩,fun h=>⟨h.1,fun k hk Ef hd=>?_⟩⟩
 .by_cases Ef:k=i
  .exact .inl<|.inl Ef
  cases hd:dn k with
  |true=>exact .inl<|.inr rfl|false=>exact .inr<|h.2 k hk Ef hd
 rcases h.2 k hk with(h1|h1)|h1
 .exact ll h1 Ef
 .rw[hd]at h1;cases h1
 exact h1
theorem OG{b:Bool}{p:Prop}{c:Bool}(h:b=true↔p)(h2:p↔c=true):b=c:=by have h:=h.trans h2;cases b<;>cases c<;>simp at h|-
theorem alu(o:Int)(sb db eb f:Nat)(A:lO)(c:Nat)(l:List l9)(ab:l9->l9->Bool)(lP:Nat)(hA:KU l)(hf:N7 f ab)(FK:l.length<=40)(CK:lP<=1000000):
  ∀(fu:Nat) (s:qM) (L:Loc) (A':lO) (c':Nat) (w0:lE),EZ l.length s.dn<fu->KZ o l.length s.dn s.sts->s.ord.length+EZ l.length s.dn<=40->s.mG.length<=lP->
   ly (DL<|ux sb o A l.length c lP f db eb L s A' c') w0 w0 (ux sb o A l.length c lP f db eb L s A' c')->
   tU w0 (fun b=>¬DL (ux sb o A l.length c lP f db eb L s A' c') b) (.slice A l.length c) l->wW w0->¬DL (ux sb o A l.length c lP f db eb L s A' c') 2->Bc w0 (ux sb o A l.length c lP f db eb L s A' c') L s.sts->
   Cq 107 #[lJ sb 0] w0 (zV o sb db eb f A c l ab lP fu s L (ux sb o A l.length c lP f db eb L s A' c') w0):=by
 intro fu
 induction fu with
 |zero=>intro s L A' c' w0 h;omega
 |succ fu ih=>
 intro s L A' c' w0 hu hG PY aoc hI ME nC PL mo;obtain⟨dn,sts,ord,mG⟩:=s;have FN:=hI;generalize BP:ux sb o A l.length c lP f db eb L ⟨dn,sts,ord,mG⟩ A' c'=l0 at ME PL mo|-;replace hI:ly (DL l0) w0 w0 [B sb 235 (tK o A l.length c lP f db eb L sts A' ord.length c'),B db 4<|qS l.length dn,mM A' c' ord,tx eb mG]:=by rw[BP]at hI;rw[<-BP]at hI|-;exact hI
 have J3:∀{w:lE} {H:List lN},ly (DL l0) w0 w H->tU w (fun b=>¬DL H b) (.slice A l.length c) l:=fun hI=>Rd.now hI ME aw;have nkn:∀{w:lE} {H:List lN},ly (DL l0) w0 w H->wW w:=fun hI=>(Xk hI nC PL).1;have PI:=hG.i64;have hol:ord.length<=40:=by simp only at PY;omega
 have aBn:∀k,(sts k).length<=41:=fun k=>by have h1:=hG.len k;have h2:=S0 l.length dn;simp only at h1;omega
 refine Vo func107 Z<|Wq<|Vb Z<|Wn ?_;cases nG:DR l dn with
 |true=>refine Ws<|Wq<|V8 Z<|V7 [.pointer _] Z func133 Z<|(agm sb A c l db dn _ _ (J3 hI) (hI.c0 Z) (hI.c0 Z) hI.g1 aa).mono ?_;rintro e w1 ⟨⟨b,rfl,hb⟩,hp⟩;obtain rfl:b=true:=(OG hb Z1).trans nG;apply rV;have hI:=hI.pure hp;exact Yt Z<|Wq<|Vb Z<|Wn<|WR<|lV 2 Z<|zV.same (abb nG) hI
 |false=>
 refine Ws<|Wq<|V8 Z<|V7 [.pointer _] Z func133 Z<|(agm sb A c l db dn _ _ (J3 hI) (hI.c0 Z) (hI.c0 Z) hI.g1 aa).mono ?_;rintro e w1 ⟨⟨b,rfl,hb⟩,hp⟩;obtain rfl:b=false:=(OG hb Z1).trans nG;apply rV;have hI:=hI.pure hp;refine Yf Z<|Wk<|Wq<|V8 Z<|V7 [.pointer _] Z func134 Z<|(au6 sb A c l.length db dn L sts _ (hI.c0 Z) (hI.c0 Z) hI.g1 (fun j u hu=>((hI.g0:mV _ _ _ _).cell _).trans<|awy hu) (fun k hk=>(mo.now hI k hk).mono fun _ _=>trivial) aa PI (fun k=>by have:=aBn k;omega)).mono<|pJ hI fun w2 hp hI=>Ud rfl<|Wn ?_;have VS:=adN l.length dn sts;generalize wD:zF l.length dn sts=ky at*;by_cases xk:ky∈mG
 .refine Ws<|Wq<|V8 Z<|Ve Z<|V6 14 Z<|V4 (.map _) Z (hI.c0 Z)<|Vu Z<|Wv Z (atz (a:=ky) xk Z GG nS ai Z Z VS hI.g3)<|Vy Z<|Vi Z<|Vi Z<|T6 (.agg #[]) #[] hI Z ?_;rintro b4 w- -hI;refine Ta 0 #[] (.agg _) hI Z ?_;intro w hI;exact V5 Z<|Wn<|Wq<|V3 Z<|Yt Z<|Wq<|Vb Z<|Wn<|WR<|lV 2 Z<|zV.same (abd nG<|by rw[wD];exact xk) hI.d0
 refine Ws<|Wq<|V8 Z<|Ve Z<|V6 14 Z<|V4 (.map _) Z (hI.c0 Z)<|Vu Z<|Wv Z (aty (a:=ky) xk Z GG nS ai Z Z VS hI.g3)<|Vy Z<|Vi Z<|Vi Z<|T6 (.agg #[]) #[] hI Z ?_;rintro b4 w- -hI;refine Ta 0 #[] (.agg _) hI Z ?_;intro w hI;refine V5 Z<|Wn ?_;have hI:=hI.d0;refine Wq<|V3 Z<|Yf Z<|Wk ?_;by_cases acB:mG.length=lP
 .refine Ws<|Ws<|Yi hI fun Sx hY hZ hI=>?_;exact Vj 0 Z<|Vk 1 Z<|Vd 2 14 Z<|V9 3 (.map _) Z (lL hY fun h=>h.c0 Z)<|Wt 4 Z (lL hY fun hI=>(NB Z GG Z hI.g3))<|Vj 5 Z<|Vk 6 Z<|Vd 7 2 Z<|Ye 8 hY Z Z<|Wt 9 Z (lL hY fun hI=>(by exact Q4 rfl rfl rfl aa))<|Yz<|Wc true Z<|Wq<|Vb Z<|Wn<|WR<|lV 2 Z<|zV.same (abe nG (by rw[wD];exact xk) acB) hI
 refine Ws<|Ws<|Yi hI fun Sx hY hZ hI=>?_;refine Vj 0 Z<|Vk 1 Z<|Vd 2 14 Z<|V9 3 (.map _) Z (lL hY fun h=>h.c0 Z)<|Wt 4 Z (lL hY fun hI=>(NB Z GG Z hI.g3))<|Vj 5 Z<|Vk 6 Z<|Vd 7 2 Z<|Ye 8 hY Z Z<|Wt 9 Z (lL hY fun hI=>(by exact Q3 rfl rfl rfl aa))<|Yz<|Wc false Z<|Wk<|Wq<|V8 Z<|Ve Z<|V6 14 Z<|V4 (.map _) Z (hI.c0 Z)<|Vu Z<|Tf [] [] Z [] [] Z (fun _=>ai)<|aiI 3 rfl hI rfl rfl rfl GG nS rfl rfl rfl VS xk ?_;intro w hI;replace hI:ly (DL l0) w0 w [B sb 235 (tK o A l.length c lP f db eb L sts A' ord.length c'),B db 4<|qS l.length dn,mM A' c' ord,tx eb<|mG++[ky]]:=hI;apply Wn;have aBk:qg o l ab lP (fu+1) ⟨dn,sts,ord,mG⟩=sK o l ab (qg o l ab lP fu) ((List.range l.length).drop 0) ⟨dn,sts,ord,mG++[ky]⟩:=by
  rw[abc nG (by rw[wD];exact xk) acB];unfold QY;rw[wD]
  rfl
 have acw:(mG++[ky]).length<=lP:=by simp;simp only at aoc;omega
 refine Ws<|Wq<|V8 Z<|Ve Z<|V6 1 Z<|V4 (.slice _ _ _) Z (hI.c0 Z)<|Vp Z pY Z<|V0 Z<|Wn<|Wb ?_;refine Wl (fun mu ρ w=>∃(k:Nat) (en:List (List Nat)),mu=l.length-k/\k<=l.length/\en.length<=lP/\qg o l ab lP (fu+1) ⟨dn,sts,ord,mG⟩=sK o l ab (qg o l ab lP fu) ((List.range l.length).drop k) ⟨dn,sts,ord,en⟩/\(∃A' c',lA ρ [(48,lI k),(47,lI l.length),(46,.slice A l.length c),(0,lJ sb 0)]/\ly (DL l0) w0 w [B sb 235 (tK o A l.length c lP f db eb L sts A' ord.length c'),B db 4<|qS l.length dn,mM A' c' ord,tx eb en])) l.length
  ⟨0,_,rfl,aa,acw,aBk,_,_,⟨rfl,rfl,rfl,rfl,trivial⟩,hI⟩ ?_
 clear hI acw aBk BP;rintro mu ρ w ⟨k,en,rfl,hk,Ml,aBk,A',c',hH,hI⟩;obtain⟨σ,rfl⟩:=hH.open;by_cases ow:k<l.length;rotate_left
 .obtain rfl:k=l.length:=aa;rw[fp aq]at aBk;exact Wq<|Vq Z<|Yg Z<|WE<|Wq<|Vb Z<|Wn<|WR<|lV 2 Z<|zV.mk aBk hI<|fun _=>Z
 rw[at2 ow]at aBk;obtain⟨bA,oA,rfl,qN⟩:=(J3 hI).at ow;have rY:ya l k<8:=hA.ya ow;have hk0:=(hA.key k ow).1;have PN:(lS l k).key=((ya l k:Nat):Int):=by unfold ya;omega
 have Jo:By o l sts k=match qY o (sts<|ya l k) (lS l k).kind (lS l k).a (lS l k).b with
  |none=>none|some (st',r)=>if(lS l k).ret≠ -1/\r≠(lS l k).res then none else some st':=rfl
 generalize hkN:ya l k=kN at rY PN Jo;generalize oX:lS l k=pk at qN PN Jo;obtain⟨p0,p1,p2,p3,p4,p5,p6,p7⟩:=pk;simp only at PN Jo;subst PN;refine Wq<|Vt Z<|Yu Z<|Wk<|Ws<|Wb<|Wq<|V0 Z<|Tu 8 Z pY Z<|Ur 8 Z (by rfl) qN<|T6 (.agg vT) (vT) hI Z ?_;rintro b7 w- -hI;refine Vb Z<|Ta 8 (#[_,_,_,_,_,_,_,_]) (.agg _) hI Z ?_;intro w hI;apply Wn;simp only[pP]at hI;cases py:C9 l ab dn k with
 |false=>rw[aqZ py]at aBk;refine Ws<|Wq<|V8 Z<|V0 Z<|V7 [.pointer _,Y _] Z func135 Z<|(agz sb _ c l db f ab dn k _ _ (J3 hI) (hI.c1 Z) (hI.c1 Z) (hI.c1 Z) hI.g2 aa ow hf).mono ?_;rintro e w3 ⟨⟨b,rfl,hb⟩,hp⟩;obtain rfl:b=false:=(OG hb aej).trans py;apply rV;have hI:=hI.pure hp;refine Tm Z<|Yt Z<|WE ?_;have hI:=hI.d0;exact Wr<|Vx Z<|V0 Z<|Wn ⟨l.length-(k+1),aa,k+1,en,rfl,aa,Ml,aBk,A',c',oy,hI⟩
 |true=>
 refine Ws<|Wq<|V8 Z<|V0 Z<|V7 [.pointer _,Y _] Z func135 Z<|(agz sb _ c l db f ab dn k _ _ (J3 hI) (hI.c1 Z) (hI.c1 Z) (hI.c1 Z) hI.g2 aa ow hf).mono ?_;rintro e w3 ⟨⟨b,rfl,hb⟩,hp⟩;obtain rfl:b=true:=(OG hb aej).trans py;apply rV;have hI:=hI.pure hp;refine Th Z<|Yf Z<|Wk<|Ws<|Yi hI fun Sx hY hZ hI=>?_;refine Vj 0 Z<|Vd 1 1 Z<|Ye 2 hY Z Z<|Vk 3 Z<|Vd 4 6 Z<|Wt 5 Z (lL hY fun hI=>(EJ (sz:=1) (i:=kN) Z underlying233 ai Z Z Z rY))<|V9 6 (.slice _ _ _) Z (lL hY fun hI=>((hI.g1:mV _ _ _ _).cell _).trans<|awx rY)<|Wt 7 Z (lL hY fun hI=>(by exact Gm rfl rfl))<|Yz ?_;have Ee:dn k=false:=ar6 py;cases uM:qY o (sts kN) p2 p3 p4 with
 |none=>
  have vB:By o l sts k=none:=by rw[Jo,uM]
  rw[adZ py vB]at aBk;refine Ws<|Yi hI fun Sx hY hZ hI=>?_;refine Vj 0 Z<|Vk 1 Z<|Vd 2 0 Z<|V9 3 (Y _) Z (lL hY fun h=>h.c1 Z)<|T8 4 Z<|Vd 5 2 Z<|Ye 6 hY Z Z<|Vd 7 3 Z<|Ye 8 hY Z Z<|Vd 9 4 Z<|Ye 10 hY Z Z<|Vr 11 Z<|V7 [Y _,.slice _ _ _,Y _,Y _,Y _] Z func136 Z<|(ag9 o _ _ (sts kN) p2 p3 p4 _ _ (mo.now hI kN rY) (hG.ok kN) (by have:=aBn kN;omega)<|nkn hI).mono ?_;rintro e w3 hP;unfold uX at hP;rw[uM]at hP;obtain⟨rfl,hp⟩:=hP;apply rV;have hI:=hI.pure hp;refine Wn ⟨hZ _ hI,(U9 12 Z<|Tj 13 Z<|Tj 14 Z<|Tj 15 Z<|Wt 16 Z (lL hY fun hI=>(by exact Gm rfl rfl))<|Um 17 Z<|Ue 18 Z<|Yz<|Ws<|Wq<|V3 Z<|Tm Z<|V3 Z<|V2 Z<|V2 Z<|V2 Z<|V2 Z<|V2 Z<|V2 Z<|V2 Z<|V2 Z<|V2 Z<|Vg Z<|Yt Z<|WE ?_)⟩;have hI:=hI.d0;exact Wr<|Vx Z<|V0 Z<|Wn ⟨l.length-(k+1),aa,k+1,en,rfl,aa,Ml,aBk,A',c',oy,hI⟩
 |some q=>
 obtain⟨st',r⟩:=q;refine Ws<|Yi hI fun Sx hY hZ hI=>?_;refine Vj 0 Z<|Vk 1 Z<|Vd 2 0 Z<|V9 3 (Y _) Z (lL hY fun h=>h.c1 Z)<|T8 4 Z<|Vd 5 2 Z<|Ye 6 hY Z Z<|Vd 7 3 Z<|Ye 8 hY Z Z<|Vd 9 4 Z<|Ye 10 hY Z Z<|Vr 11 Z<|V7 [Y _,.slice _ _ _,Y _,Y _,Y _] Z func136 Z<|(ag9 o _ _ (sts kN) p2 p3 p4 _ _ (mo.now hI kN rY) (hG.ok kN) (by have:=aBn kN;omega)<|nkn hI).mono ?_;rintro e w3 hP;unfold uX at hP;rw[uM]at hP;obtain⟨A1,c1,rfl,hT⟩:=hP;apply rV;have hI:=hI.app1 hT;refine Wn ⟨hZ _ hI.d0,(U9 12 Z<|Tj 13 Z<|Tj 14 Z<|Tj 15 Z<|Wt 16 Z (lL hY fun hI=>(by exact Gm rfl rfl))<|Um 17 Z<|Ue 18 Z<|Yz ?_)⟩;by_cases uu:p7≠ -1/\r≠p5
 .have vB:By o l sts k=none:=by rw[Jo,uM];exact lq uu
  rw[adZ py vB]at aBk;obtain⟨wI,ua⟩:=uu;refine Ws<|Wq<|V3 Z<|Th Z<|V3 Z<|V6 7 Z<|Yd hI Z Z<|Ug Z<|V3 Z<|V0 Z<|V6 5 Z<|Yd hI Z Z<|Ug Z<|Vg Z<|Va Z<|Yt Z<|WE ?_;have hI:=hI.d0.d0;exact Wr<|Vx Z<|V0 Z<|Wn ⟨l.length-(k+1),aa,k+1,en,rfl,aa,Ml,aBk,A',c',oy,hI⟩
 have yK:By o l sts k=some st':=by rw[Jo,uM];exact lp uu
 refine Wx (fun ρ w=>lA ρ [(48,lI k),(47,lI l.length),(46,me bA oA l.length c),(0,lJ sb 0),(6,lI k),(7,lJ b7 0),(8,.slice (L kN).1 (sts kN).length (L kN).2),(9,.slice A1 st'.length c1)]/\ly (DL l0) w0 w [mM A1 c1 st',B b7 162 #[Y p0,lI kN,Y p2,Y p3,Y p4,Y p5,Y p6,Y p7],B sb 235<|tK o (some ⟨bA,oA,none⟩) l.length c lP f db eb L sts A' ord.length c',B db 4<|qS l.length dn,mM A' c' ord,tx eb en]) ?_ ?_
 .by_cases h7:p7= -1
  .exact Wq<|V3 Z<|Th Z<|V3 Z<|V6 7 Z<|Yd hI Z Z<|U3 Z<|V3 Z<|V2 Z<|V2 Z<|V2 Z<|V2 Z<|Va Z<|Va Z<|Yf Z<|Wk ⟨yE,hI⟩
  have h5:r=p5:=by
   rcases jV (r=p5)with h|h
   .exact h
   exact ll ⟨h7,h⟩ uu
  exact Wq<|V3 Z<|Th Z<|V3 Z<|V6 7 Z<|Yd hI Z Z<|Ug Z<|V3 Z<|V0 Z<|V6 5 Z<|Yd hI Z Z<|U3 Z<|Vg Z<|Va Z<|Yf Z<|Wk ⟨yE,hI⟩
 clear hI;rintro ρ w ⟨hH,hI⟩;obtain⟨σ,rfl⟩:=hH.open;refine Wx (fun ρ w=>lA ρ [(48,lI k),(47,lI l.length),(46,me bA oA l.length c),(0,lJ sb 0),(6,lI k),(7,lJ b7 0),(8,.slice (L kN).1 (sts kN).length (L kN).2)]/\ly (DL l0) w0 w [mM A1 c1 st',B b7 162 #[Y p0,lI kN,Y p2,Y p3,Y p4,Y p5,Y p6,Y p7],B sb 235<|tK o (some ⟨bA,oA,none⟩) l.length c lP f db eb (tO L kN A1 c1) (qX sts kN st') A' ord.length c',B db 4<|qS l.length<|rH dn k true,mM A' c' ord,tx eb en]) ?_ ?_
 .refine Wd ai<|Wi (T:=[14]) hI.d3.drew ?_;intro Sx hY hZ;have hI:=hI.drew;refine Vj 0 Z<|Vk 1 Z<|Vd 2 4 Z<|V9 3 (.slice _ _ _) Z (lL hY fun h=>h.c2 Z)<|Vw 4 Z<|Vj 5 Z<|Vd 6 1 Z<|V9 7 (Y _) Z (lL hY fun h=>h.c1 Z)<|T8 8 Z<|Uc 9 Z oZ Z<|Vk 11 Z<|Vd 12 6 Z<|Vr 10 Z<|sQ 3 Z (u:=.bool true) (j:=k) hI Z Z Z Z Z Z ai Z (by simp[Nat.blt,qS];omega) Z ?_;intro w hI;simp only[gH,gI]at hI;rw[aar]at hI;refine Wn ⟨hZ _ hI.d3,(Wt 13 Z (lL hY fun hI=>(EJ (sz:=1) (i:=kN) Z underlying233 ai Z Z Z rY))<|qn ai ?_)⟩;clear hZ hY;refine Tc 14 Z<|sQ 2 Z (u:=.slice A1 st'.length c1) (j:=6+kN*1) hI Z Z Z Z Z Z ai Z du Z ?_;intro w hI;simp only[gH,gI]at hI;rw[kv,Y3 rY]at hI;exact Wn<|qm ai ⟨O6,hI⟩
 clear hI;rintro ρ w ⟨hH,hI⟩;obtain⟨σ,rfl⟩:=hH.open;refine Wq<|V8 Z<|V8 Z<|Ve Z<|V6 5 Z<|V4 (.slice _ _ _) Z (hI.c2 Z)<|V0 Z<|T7 [(0,Y _)] [_] [Y 0] [0] hI Z nz (fun _=>ai) ?_;rintro ayw w- -hI;apply aiz (z:=Y 0) (by_:=8) hI Z Z Z Z Z Z nz ai Z aa (by rfl) hI.qP (by rfl) aa aa cQ;rintro Dv DU w ayS azi hI;have hI:=hI.d0;refine Ve Z<|V6 5 Z<|La (u:=.slice _ _ _) hI Z Z Z Z Z Z ai Z Z Z ?_;intro w hI;apply Wn;replace hI:ly (DL l0) w0 w [mM A1 c1 st',B b7 162 #[Y p0,lI kN,Y p2,Y p3,Y p4,Y p5,Y p6,Y p7],B sb 235<|tK o (some ⟨bA,oA,none⟩) l.length c lP f db eb (tO L kN A1 c1) (qX sts kN st') Dv (ord.length+1) DU,B db 4<|qS l.length<|rH dn k true,lz 0 3 1 Dv (ord.length+1) DU<|mW ord++[lI k],tx eb en]:=hI;replace hI:ly (DL l0) w0 w [mM A1 c1 st',B b7 162 #[Y p0,lI kN,Y p2,Y p3,Y p4,Y p5,Y p6,Y p7],B sb 235<|tK o (some ⟨bA,oA,none⟩) l.length c lP f db eb (tO L kN A1 c1) (qX sts kN st') Dv (ord++[(k:Int)]).length DU,B db 4<|qS l.length<|rH dn k true,mM Dv DU<|ord++[(k:Int)],tx eb en]:=by unfold mM;rw[adA,gD,fI];exact hI
 have C4:=axe ow Ee;have Pg:=hG.step hA ow Ee yK;rw[hkN]at Pg;have nZ:Cc l ⟨dn,sts,ord,en⟩ k st'=⟨rH dn k true,qX sts kN st',ord++[(k:Int)],en⟩:=by unfold Cc;rw[hkN]
 have WN:=mM.rd hI;have⟨sG,nO⟩:=Xk hI nC PL;have Aw:=J3 hI;have apC:=(mo.now hI)
 have AA:∀e∈ux sb o (some ⟨bA,oA,none⟩) l.length c lP f db eb (tO L kN A1 c1) ⟨rH dn k true,qX sts kN st',ord++[(k:Int)],en⟩ Dv DU,e∈[mM A1 c1 st',B b7 162 #[Y p0,lI kN,Y p2,Y p3,Y p4,Y p5,Y p6,Y p7],B sb 235<|tK o (some ⟨bA,oA,none⟩) l.length c lP f db eb (tO L kN A1 c1) (qX sts kN st') Dv (ord++[(k:Int)]).length DU,B db 4<|qS l.length<|rH dn k true,mM Dv DU<|ord++[(k:Int)],tx eb en]:=fun e he=>fT _<|fT _ he;replace hI:ly (DL l0) w0 w (ux sb o (some ⟨bA,oA,none⟩) l.length c lP f db eb (tO L kN A1 c1) ⟨rH dn k true,qX sts kN st',ord++[(k:Int)],en⟩ Dv DU++[mM A1 c1 st',B b7 162 #[Y p0,lI kN,Y p2,Y p3,Y p4,Y p5,Y p6,Y p7]]):=hI.perm<|fJ (l₁:=[_,_]);have yJ:=ih ⟨rH dn k true,qX sts kN st',ord++[(k:Int)],en⟩ (tO L kN A1 c1) Dv DU w (by simp only;simp only at hu;omega) Pg (by simp only[gD,fI];simp only at PY;omega) Ml hI.from (Rd.mono Aw fun _ hb=>DL.mono AA hb) sG (DL.mono AA nO)<|(apC.mono AA).upd<|WN.mono fun _ hb=>DL.mono (fun e he=>fT _ he) hb;by_cases FT:(qg o l ab lP fu ⟨rH dn k true,qX sts kN st',ord++[(k:Int)],en⟩).1=2;rotate_left
 .rw[aqX py yK (by rw[nZ];exact FT),nZ]at aBk;refine Ws<|Wq<|V8 Z<|V7 [.pointer _] Z func107 Z<|yJ.mono ?_;generalize hR:qg o l ab lP fu ⟨rH dn k true,qX sts kN st',ord++[(k:Int)],en⟩=R at FT aBk;rintro e w4 ⟨L',A2,c2,rfl,hT,Pk⟩;rw[hR]at hT Pk|-;obtain⟨z,s'⟩:=R;simp only at FT hT Pk;apply rV;have hI:=hI.Gx hT;exact Vb Z<|Wn<|Wq<|V0 Z<|Ug Z<|Yt Z<|Wq<|V0 Z<|Vb Z<|Wn<|WR<|lV 2 Z<|zV.mk aBk hI.d4.d4<|fun e=>ll e FT
 rw[aqY py yK (by rw[nZ];exact FT),nZ]at aBk;have heq:=alw FT;have acv:(qg o l ab lP fu ⟨rH dn k true,qX sts kN st',ord++[(k:Int)],en⟩).2.mG.length<=lP:=abf fu _ Ml;refine Ws<|Wq<|V8 Z<|V7 [.pointer _] Z func107 Z<|yJ.mono ?_;rintro e w4 ⟨L',A2,c2,rfl,hT,Pk⟩;obtain rfl:=Pk FT;rw[heq]at hT;rw[FT];apply rV;have hI:=hI.Gx hT;refine Vb Z<|Wn ?_;clear yJ heq ih;generalize (qg o l ab lP fu ⟨rH dn k true,qX sts kN st',ord++[(k:Int)],en⟩).2.mG=G4 at hI acv aBk;replace hI:ly (DL l0) w0 w4 [B sb 235 (tK o (some ⟨bA,oA,none⟩) l.length c lP f db eb (tO L kN A1 c1) (qX sts kN st') A2 (ord++[(k:Int)]).length c2),B db 4<|qS l.length<|rH dn k true,mM A2 c2<|ord++[(k:Int)],tx eb G4,mM A1 c1 st',B b7 162 #[Y p0,lI kN,Y p2,Y p3,Y p4,Y p5,Y p6,Y p7]]:=hI;refine Wq<|V0 Z<|U3 Z<|Yf Z<|Wk<|Wx (fun ρ w=>lA ρ [(48,lI k),(47,lI l.length),(46,me bA oA l.length c),(0,lJ sb 0)]/\ly (DL l0) w0 w [B sb 235 (tK o (some ⟨bA,oA,none⟩) l.length c lP f db eb L sts A2 (ord++[(k:Int)]).length c2),B db 4<|qS l.length dn,mM A2 c2<|ord++[(k:Int)],tx eb G4,mM A1 c1 st',B b7 162 #[Y p0,lI kN,Y p2,Y p3,Y p4,Y p5,Y p6,Y p7]]) ?_ ?_
 .refine Wd ai<|Wi (T:=[14]) hI.d1.drew ?_;intro Sx hY hZ;have hI:=hI.drew;refine Vj 0 Z<|Vk 1 Z<|Vd 2 4 Z<|V9 3 (.slice _ _ _) Z (lL hY fun h=>h.c0 Z)<|Vw 4 Z<|Vj 5 Z<|Vd 6 1 Z<|V9 7 (Y _) Z (lL hY fun h=>h.c4 Z)<|T8 8 Z<|Uc 9 Z oZ Z<|Vk 11 Z<|Vd 12 6 Z<|Vr 10 Z<|sQ 1 Z (u:=.bool false) (j:=k) hI Z Z Z Z Z Z ai Z (by simp[Nat.blt,qS];omega) Z ?_;intro w hI;simp only[gH,gI]at hI;rw[aar,ak2 Ee]at hI;refine Wn ⟨hZ _ hI.d1,(Wt 13 Z (lL hY fun hI=>(EJ (sz:=1) (i:=kN) Z underlying233 ai Z Z Z rY))<|qn ai ?_)⟩;clear hZ hY;refine Tc 14 Z<|sQ 0 Z (u:=.slice (L kN).1 (sts kN).length (L kN).2) (j:=6+kN*1) hI Z Z Z Z Z Z ai Z du Z ?_;intro w hI;simp only[gH,gI]at hI;rw[kv,Y3 rY,axi,awD]at hI;exact Wn<|qm ai ⟨oy,hI⟩
 clear hI;rintro ρ w ⟨hH,hI⟩;obtain⟨σ,rfl⟩:=hH.open;have Jw:w.ownsRow 0 3 1 (.slice A2 (ord++[(k:Int)]).length c2) (ord++[(k:Int)]).length (mW<|ord++[(k:Int)]):=hI.g2;have Mp:(ord++[(k:Int)]).length=ord.length+1:=aq;obtain⟨g,og,rfl⟩:=Ri Jw aa aa;have acf:(ord++[(k:Int)]).length<=c2/\c2<=9223372036854775807:=by
  rcases NG Jw with⟨hA,_⟩|⟨_,_,_,_,h1,h2,_⟩
  .cases hA
  exact⟨h1,h2⟩
 refine Yj [14] hI fun Sx hY hZ hI=>?_;refine Vj 0 Z<|Vj 1 Z<|Vk 2 Z<|Vd 3 5 Z<|V9 4 (.slice _ _ _) Z (lL hY fun h=>h.c0 Z)<|Vj 5 Z<|Vk 6 Z<|Vd 7 5 Z<|V9 8 (.slice _ _ _) Z (lL hY fun h=>h.c0 Z)<|Uj 9 Z nz Z<|Wt 10 Z (lL hY fun hI=>(Ib (b:=1) Z Z Z aa aa))<|Wt 11 Z (lL hY fun hI=>(Rg (sz:=1) (i:=(ord++[(k:Int)]).length-1) Z nz ai Z Z aa))<|Vk 12 Z<|Vd 13 5 Z<|qn ai ?_;clear hZ hY;refine Tc 14 Z<|xI (u:=.slice _ _ _) hI Z Z Z Z Z Z ai Z Z Z ?_;intro w hI;refine Wn<|qm ai ?_;replace hI:ly (DL l0) w0 w [B sb 235 (tK o (some ⟨bA,oA,none⟩) l.length c lP f db eb L sts (some ⟨g,og,none⟩) ((ord++[(k:Int)]).length-1) c2),B db 4<|qS l.length dn,mM (some ⟨g,og,none⟩) c2<|ord++[(k:Int)],tx eb G4,mM A1 c1 st',B b7 162 #[Y p0,lI kN,Y p2,Y p3,Y p4,Y p5,Y p6,Y p7]]:=hI;replace hI:=(hI.u2 (e':=mM (some ⟨g,og,none⟩) c2<|(ord++[(k:Int)]).take<|(ord++[(k:Int)]).length-1) (mC.refl _ _) (ZN (hI.ok _ aq) _ aa)<|fun k hk=>.inl hk).d4.d4;rw[Mp,Nat.add_sub_cancel,List.take_left]at hI;exact Wr<|Vx Z<|V0 Z<|Wn ⟨l.length-(k+1),aa,k+1,G4,rfl,aa,acv,aBk,_,_,oy,hI⟩
def KX(g j:Nat)(v:lH):lN:=⟨fun k=>k=g,fun w=>w.cell? ⟨g,j,none⟩=some v⟩
theorem KX.ok{w:lE}{g j:Nat}{v:lH}(h:w.cell? ⟨g,j,none⟩=some v):(KX g j v).ok w:=by
 refine lN.C8 h (fun k hk=>?_)<|fun S w1 w2 hc hS h1=>?_
 .have:k=g:=hk;subst this;exact fc w _ h
 exact(fY<|hc.block g (fc w1 _ h1)<|hS g Z).trans h1
section
variable{S:lF}{w0 w:lE}{H:List lN}
theorem ly.ajH{g t j:Nat}{cs:lW}{v:lH}(h:ly S w0 w (B g t cs::H))(hc:cs[j]?=some v):ly S w0 w [KX g j v]:=⟨h.ni,fun e he=>by rw[gF.1 he];exact KX.ok<|h.c0 hc,fun e he k hk=>by rw[gF.1 he]at hk;exact h.own (B g t cs) aq k hk,eZ ..⟩
theorem ly.wN{o:Int}{A:lO}{n c lP f db eb sb:Nat}{L:Loc}{sts:sB}{A':lO}{m c':Nat}(h:ly S w0 w (B sb 235 (tK o A n c lP f db eb L sts A' m c')::H)):ly S w0 w [KX sb 14 (.map (some eb))]:=h.ajH rfl
theorem ly.aiS(h:ly NF w0 w H){size n:Nat}{v:lH}{xs:mb}{D:lF}(hr:Rd w0 D size v n xs)(hs:0<size):Rd w (fun b=>¬DL H b) size v n xs:=by
 have h':ly (DL []) w0 w H:=⟨h.ni.mono<|fun _ _ hk=>hk.elim,h.ok,fun e he k hk=>(h.own e he k hk).imp (fun hh=>hh.elim) id,h.apart⟩
 exact Rd.now h' (hr.mono fun _ _=>fun⟨e,he,_⟩=>by cases he) hs
theorem ly.kn0(h:ly NF w0 w H)(hk:wW w0):wW w/\¬DL H 2:=by
 have h':ly (DL []) w0 w H:=⟨h.ni.mono<|fun _ _ hk=>hk.elim,h.ok,fun e he k hk=>(h.own e he k hk).imp (fun hh=>hh.elim) id,h.apart⟩
 exact Xk h' hk (fun⟨e,he,_⟩=>by cases he)
theorem np.rd{n i:Nat}{es:Nat->lN}{l:List lN}{A:lO}{c:Nat}{st:mq}(hI:ly S w0 w (np n es::l))(hi:i<n)(he:es i=mM A c st):Rd w (fun b=>¬DL l b) 1 (.slice A st.length c) st.length (mW st):=by have hg:(es i).Φ w:=hI.arx hi;rw[he]at hg;have hg:w.ownsRow 0 3 1 (.slice A st.length c) st.length (mW st):=hg;refine Rd.wP hg fun k hk _=>?_;rintro⟨e,xY,VP⟩;rw[EF]at hk;exact(gG.1 hI.apart).1 e xY k ⟨i,hi,by rw[he];exact hk⟩ VP
end
def KA(o:Int)(k:Nat):Nat->List Int:=fun j=>if j<k then qv o else[]
def Gf(L:Loc)(k:Nat):Loc:=fun j=>if j<k then L j else(none,0)
def Gk(r:Int×qM):List Int:=if r.1=1 then r.2.ord else[]
def Sf(o:Int)(l:List l9)(ab:l9->l9->Bool)(lP:Int)(w0:lE)(en:Ending)(w':lE):Prop:=
 (vt o l lP/\∃A' c',en=.returned (.tuple #[.agg #[.int .i64 (tu o l ab lP.toNat).1,.slice A' (Gk<|tu o l ab lP.toNat).length c',.int .i64 ((tu o l ab lP.toNat).2.mG.length:Int)],.nilIface])/\ly NF w0 w' [mM A' c' (Gk<|tu o l ab lP.toNat)])\/
 (¬vt o l lP/\(∃u,GO o l lP u/\en=.returned (.tuple #[.agg #[.int .i64 0,.slice none 0 0,.int .i64 0],.iface 36<|.int .i64 u]))/\Pure w0 w')
theorem awB(o:Int)(k:Nat):qX (KA o k) k (qv o)=KA o (k+1):=by
 funext j;unfold qX KA;by_cases h:j=k
 .subst h;simp
 rw[lp h];by_cases h2:j<k
 .rw[lq h2,lq aa]
 rw[lp h2,lp aa]
theorem aqU(L:Loc)(k:Nat)(A1:lO)(c1:Nat):tO (Gf L k) k A1 c1=Gf (tO L k A1 c1) (k+1):=by
 funext j;unfold tO Gf;by_cases h:j=k
 .subst h;simp
 rw[lp h];by_cases h2:j<k
 .rw[lq h2,lq aa];simp[h]
 rw[lp h2,lp aa]
theorem ahC(o:Int)(A:lO)(n c:Nat)(l:List l9)(lP:Int)(f:Nat)(ab:l9->l9->Bool)(D:lF)(w0:lE)(h:tU w0 D (.slice A n c) l)(hk:wW w0)(hf:N7 f ab):
  Cq 69 #[Y o,.slice A n c,Y lP,.func (.func f) #[] #[]] w0 (Sf o l ab lP w0):=by
 have⟨hn,oT,rJ⟩:=h.len;subst hn;have hI:=ly.start (fun _=>False) w0;refine Vo func69 Z<|Wq<|T6 (.agg #[Y 0,.slice none 0 0,Y 0]) (#[Y 0,.slice none 0 0,Y 0]) hI Z ?_;rintro b8 w- -hI;refine Vh Z<|Wn ?_;by_cases mH:vt o l lP;rotate_left
 .refine Ws<|Wq<|V0 Z<|Vf Z<|V0 Z<|V7 [Y _,.slice _ _ _,Y _] Z func105 Z<|(adU o A l.length c l lP D _ (h.pure hI.pu)<|hk.pure hI.pu).mono ?_;rintro e w1 ⟨hp,⟨h1,_⟩|⟨_,z,hz,rfl⟩⟩
  .exact ll h1 mH
  apply rV;have hI:=hI.pure hp;refine Vn Z<|Wn<|Wq<|Vs Z<|Tp Z mY Z<|Yt Z<|Wq<|Tf [] [_,_,_] Z [Y 0,.slice none 0 0,Y 0] [] Z (fun _=>ai)<|Vs rfl<|Ta 3 (#[_,_,_]) (.agg _) hI rfl ?_;intro w hI;exact Vn Z<|Wn<|WR<|Up 40 3 (.inr Z) Z hI.g0<|.inr ⟨mH,⟨z,hz,Z⟩,hI.pu⟩
 have hA:=aiZ mH;obtain⟨sj,yH⟩:0<=lP/\lP<=1000000:=⟨mH.2.2.1,mH.2.2.2.1⟩
 have FK:l.length<=40:=mH.2.2.2.2.1.1;obtain⟨bn,rfl⟩:∃bn:Nat,lP=(bn:Int):=⟨lP.toNat,aa⟩
 refine Ws<|Wq<|V0 Z<|Vf Z<|V0 Z<|V7 [Y _,.slice _ _ _,Y _] Z func105 Z<|(adU o A l.length c l _ D _ (h.pure hI.pu)<|hk.pure hI.pu).mono ?_;rintro e w1 ⟨hp,⟨_,rfl⟩|⟨h1,_⟩⟩;rotate_left
 .exact ll mH h1
 apply rV;have hI:=hI.pure hp;refine Vh Z<|Wn<|Wq<|Tb Z<|Tn Z mY Z<|Yf Z<|Wk<|Wq<|V0 Z<|Vf Z<|V0 Z<|Wv Z (by exact Rb rfl rfl)<|Vf Z<|Vp Z pY Z<|ZW (by_:=1) (z:=.bool false) hI Z Z Z Z Z Z oZ ai Z aa aa ?_;rintro uZ w- -hI;apply aiH hI Z Z Z Z;rintro vu w- -hI;refine Tf [(0,Y _),(1,.slice _ _ _),(2,Y _),(3,.func _ _ _),(4,.slice _ _ _),(7,.map _)] [_,_,_,_,_,_,_,_,_,_,_,_,_,_,_] Z [Y 0,.slice none 0 0,Y 0,.nilFunc,.slice none 0 0,.slice none 0 0,.slice none 0 0,.slice none 0 0,.slice none 0 0,.slice none 0 0,.slice none 0 0,.slice none 0 0,.slice none 0 0,.slice none 0 0,.map none] [0,1,2,3,4,14] Z (fun _=>ai)<|Tg (.agg _) (#[_,_,_,_,_,_,_,_,_,_,_,_,_,_,_]) hI rfl ?_;rintro uE w- -hI;refine Uf Z<|Wn ?_;have si:=hI;rw[ajq]at si;replace hI:ly NF w0 w [np 0 (fun j=>mM ((fun _=>(none,0):Loc) j).1 ((fun _=>(none,0):Loc) j).2<|qv o),B uE 235<|tK o A l.length c bn f uZ vu (Gf (fun _=>(none,0)) 0) (KA o 0) none 0 0,B uZ 4<|qS l.length<|fun _=>false,mM none 0 [],tx vu [],B b8 40 #[Y 0,.slice none 0 0,Y 0]]:=by have h1:=(si.vR).fresh (e:=mM none 0 []) (Pure.refl w) (lz.nil w 0 3 1) (fun k hk=>by cases hk);exact h1.pQ.vR.arz _
 clear si;refine Wx (fun ρ w=>∃L:Loc,lA ρ [(0,Y o),(11,lJ uE 0),(8,lJ b8 0)]/\ly NF w0 w [np 8 (fun j=>mM (L j).1 (L j).2<|qv o),B uE 235<|tK o A l.length c bn f uZ vu (Gf L 8) (KA o 8) none 0 0,B uZ 4<|qS l.length<|fun _=>false,mM none 0 [],tx vu [],B b8 40 #[Y 0,.slice none 0 0,Y 0]]) ?_ ?_
 .refine Wq<|V0 Z<|Wn<|Wb ?_;refine Wl (fun mu ρ w=>∃(k:Nat) (L:Loc),mu=8-k/\k<=8/\lA ρ [(32,lI k),(0,Y o),(11,lJ uE 0),(8,lJ b8 0)]/\ly NF w0 w [np k (fun j=>mM (L j).1 (L j).2<|qv o),B uE 235<|tK o A l.length c bn f uZ vu (Gf L k) (KA o k) none 0 0,B uZ 4<|qS l.length<|fun _=>false,mM none 0 [],tx vu [],B b8 40 #[Y 0,.slice none 0 0,Y 0]]) 8
   ⟨0,_,rfl,aa,⟨rfl,rfl,rfl,rfl,trivial⟩,hI⟩ ?_
  clear hI;rintro mu ρ w ⟨k,L,rfl,rY,hH,hI⟩;obtain⟨σ,rfl⟩:=hH.open;by_cases hk:k<8;rotate_left
  .obtain rfl:k=8:=aa;exact Wq<|Vq Z<|Yg Z<|WE ⟨L,sf,hI⟩
  refine Wq<|Vt Z<|Yu Z<|Wk<|Ws<|Wb<|Wq<|V0 Z<|Vb Z<|Wn<|Yj [7] hI fun Sx hY hZ hI=>?_;refine Vj 0 Z<|Vw 1 Z<|Vw 2 Z<|Vk 4 Z<|Vd 5 6 Z<|Vr 3 Z<|V7 [Y _] Z func106 Z<|(awH o _).mono ?_;rintro e w1 ⟨A1,c1,rfl,hT⟩;apply rV;have hI:=hI.app1 hT;refine Wn ⟨hZ _ hI.d0,(Wt 6 Z (lL hY fun hI=>(EJ (sz:=1) (i:=k) Z underlying233 ai Z Z Z hk))<|qn ai ?_)⟩;clear hZ hY;refine Tc 7 Z<|sQ 2 Z (u:=.slice A1 (qv o).length c1) (j:=6+k*1) hI Z Z Z Z Z Z ai Z du Z ?_;intro w hI;simp only[gH,gI]at hI;rw[kv,Y3 hk,awB,aqU]at hI;refine Wn<|qm ai ?_
  replace hI:=(hI.arA).Qx (es':=fun j=>mM (tO L k A1 c1 j).1 (tO L k A1 c1 j).2 (qv o)) (fun j hj=>by
   unfold tO;by_cases qE:j=k
   .rw[lq qE,lq qE]
   rw[lp qE,lp qE])
  exact Wr<|Vx Z<|V0 Z<|Wn ⟨8-(k+1),aa,k+1,_,rfl,aa,oy,hI⟩
 clear hI;rintro ρ w ⟨L,hH,hI⟩;obtain⟨σ,rfl⟩:=hH.open;generalize hL8:Gf L 8=L8 at hI;generalize W3:B b8 40 #[Y 0,.slice none 0 0,Y 0]=VB at hI;have aoJ:EZ l.length (vP o).dn=l.length:=axf l.length;have yJ:∀(W:lE) (H:List lN),ly NF w0 W (ux uE o A l.length c bn f uZ vu L8 (vP o) none 0++np 8 (fun j=>mM (L j).1 (L j).2<|qv o)::H)->Cq 107 #[lJ uE 0] W fun en w'=>∃L' wU w8,en=.returned (Y (tu o l ab bn).1)/\ly NF w0 w' (ux uE o A l.length c bn f uZ vu L' (tu o l ab bn).2 wU w8++np 8 (fun j=>mM (L j).1 (L j).2<|qv o)::H):=by
  intro W H hI;have hIm:=hI.perm<|List.perm_middle;have mo:Bc W (ux uE o A l.length c bn f uZ vu L8 (vP o) none 0) L8 (vP o).sts:=by
   intro j hj;have e1:L8 j=L j:=by rw[<-hL8];unfold Gf;rw[lq hj]
   have e2:(vP o).sts j=qv o:=by unfold vP;exact lq hj
   rw[e1,e2];exact(np.rd (st:=qv o) hIm hj Z).mono fun _ hb=>DL.mono (fun e he=>List.mem_append_left _ he) hb
  have⟨sG,nO⟩:=hI.kn0 hk;have Aw:=hI.aiS h aw;have AA:∀e∈ux uE o A l.length c bn f uZ vu L8 (vP o) none 0,e∈ux uE o A l.length c bn f uZ vu L8 (vP o) none 0++np 8 (fun j=>mM (L j).1 (L j).2<|qv o)::H:=fun e he=>List.mem_append_left _ he;refine(alu o uE uZ vu f A c l ab bn hA hf FK aa (l.length+1) (vP o) L8 none 0 W aa (ami o l.length) (by rw[aoJ];simp[vP];omega) (kz _) hI.from (Aw.mono fun _ hb=>DL.mono AA hb) sG (DL.mono AA nO) mo).mono ?_;rintro e w' ⟨L',wU,w8,rfl,hT,_⟩;exact⟨L',wU,w8,Z,hI.Gx hT⟩
 have ace:∀(W:lE) (e:lN),ly NF w0 W (e::(ux uE o A l.length c bn f uZ vu L8 (vP o) none 0++[np 8 (fun j=>mM (L j).1 (L j).2<|qv o),VB]))->Cq 107 #[lJ uE 0] W fun en w'=>∃L' wU w8,en=.returned (Y (tu o l ab bn).1)/\ly NF w0 w' (e::(ux uE o A l.length c bn f uZ vu L' (tu o l ab bn).2 wU w8++[np 8 (fun j=>mM (L j).1 (L j).2<|qv o),VB])):=by
  intro W e hI;have pm:∀l:List lN,(e::(l++[np 8 (fun j=>mM (L j).1 (L j).2<|qv o),VB])).Perm (l++np 8 (fun j=>mM (L j).1 (L j).2<|qv o)::[VB,e]):=fun l=>by
   have h1:(e::(l++[np 8 (fun j=>mM (L j).1 (L j).2<|qv o),VB])).Perm ((l++[np 8 (fun j=>mM (L j).1 (L j).2<|qv o),VB])++[e]):=(List.perm_append_singleton _ _).symm
   rwa [gR]at h1
  refine(yJ W [VB,e]<|hI.perm<|pm _).mono ?_;rintro en w' ⟨L',wU,w8,rfl,hT⟩;exact⟨L',wU,w8,Z,hT.perm (pm _).symm⟩
 replace hI:ly NF w0 w (ux uE o A l.length c bn f uZ vu L8 (vP o) none 0++np 8 (fun j=>mM (L j).1 (L j).2<|qv o)::[VB]):=hI.perm (List.perm_middle (l₁:=[_,_,_,_])).symm;refine Wx (fun ρ w=>∃(CB:Nat) (L':Loc) (wU:lO) (w8:Nat),lA ρ [(11,lJ uE 0),(8,lJ b8 0),(13,lJ CB 0)]/\ly NF w0 w (B CB 40 #[Y (tu o l ab bn).1,.slice none 0 0,Y ((tu o l ab bn).2.mG.length:Int)]::(ux uE o A l.length c bn f uZ vu L' (tu o l ab bn).2 wU w8++[np 8 (fun j=>mM (L j).1 (L j).2<|qv o),VB]))) ?_ ?_
 .refine Wd ai<|Wi (T:=[9]) hI.wN.drew ?_;intro Sx hY hZ;have hI:=hI.drew;refine Vj 0 (hS_:=hZ _ hI.wN) Z<|Vj 2 (hS_:=hZ _ hI.wN) Z<|Vk 3 (hS_:=hZ _ hI.wN) Z<|Vd 4 14 (hS_:=hZ _ hI.wN) Z<|V9 5 (.map _) (hS_:=hZ _ hI.wN) Z (lL hY fun h=>h.g0)<|DN 1 8 Z Z ai Z Z ?_ ?_
  .refine V7 [.pointer _] Z func107 Z<|(yJ _ [VB] hI).mono ?_;rintro e w1 ⟨L',wU,w8,rfl,hT⟩;apply rV;clear hI;have hI:=hT;refine Wn ⟨hZ _ hI.wN,(DN 6 8 Z Z ai Z Z ?_ ?_)⟩
   .refine Wv Z (NB Z GG Z<|by exact hI.g3)<|Wn ⟨hZ _ hI.wN,(Ub 7 [(0,Y _),(2,Y _)] [_,_,_] (hS_:=hZ _ hI.wN) Z [Y 0,.slice none 0 0,Y 0] [0,2] Z (fun _ _=>fun _=>ai)<|Vr 8 rfl<|T6 (.agg #[Y 0,.slice none 0 0,Y 0]) (#[Y 0,.slice none 0 0,Y 0]) hI rfl ?_)⟩;rintro CB w- -hI;refine Wn ⟨hZ _ hI.d0.wN,(qn ai ?_)⟩;clear hZ hY;refine Tc 9 Z<|Ta 3 (#[_,_,_]) (.agg _) hI Z ?_;intro w hI;exact Wn<|qm ai ⟨_,_,_,_,sf,hI⟩
   apply T6 (.agg #[Y 0,.slice none 0 0,Y 0]) (#[Y 0,.slice none 0 0,Y 0]) hI Z;rintro CB w- -hI;refine Wn ⟨hZ _ hI.d0.wN,(Vr 6 Z<|Wv Z (NB Z GG Z<|by exact hI.g4)<|Wn ⟨hZ _ hI.d0.wN,(Ub 7 [(0,Y _),(2,Y _)] [_,_,_] (hS_:=hZ _ hI.d0.wN) Z [Y 0,.slice none 0 0,Y 0] [0,2] Z (fun _ _=>fun _=>ai)<|qn ai ?_)⟩)⟩;clear hZ hY;refine Tc 9 Z<|Ta 3 (#[_,_,_]) (.agg _) hI Z ?_;intro w hI;exact Wn<|qm ai ⟨_,_,_,_,sf,hI⟩
  apply T6 (.agg #[Y 0,.slice none 0 0,Y 0]) (#[Y 0,.slice none 0 0,Y 0]) hI Z;rintro CB w- -hI;refine Wn ⟨hZ _ hI.d0.wN,(Vr 1 Z<|V7 [.pointer _] Z func107 Z<|(ace _ _ hI).mono ?_)⟩;rintro e w1 ⟨L',wU,w8,rfl,hT⟩;apply rV;clear hI;have hI:=hT;refine Wn ⟨hZ _ hI.d0.wN,(Vr 6 Z<|Wv Z (NB Z GG Z<|by exact hI.g4)<|Wn ⟨hZ _ hI.d0.wN,(Ub 7 [(0,Y _),(2,Y _)] [_,_,_] (hS_:=hZ _ hI.d0.wN) Z [Y 0,.slice none 0 0,Y 0] [0,2] Z (fun _ _=>fun _=>ai)<|qn ai ?_)⟩)⟩;clear hZ hY;refine Tc 9 Z<|Ta 3 (#[_,_,_]) (.agg _) hI Z ?_;intro w hI;exact Wn<|qm ai ⟨_,_,_,_,sf,hI⟩
 clear hI yJ ace;rintro ρ w ⟨CB,L',wU,w8,hH,hI⟩;obtain⟨σ,rfl⟩:=hH.open;subst W3;generalize hR:tu o l ab bn=R at hI;obtain⟨z,s'⟩:=R;simp only at hI;replace hI:ly NF w0 w [B CB 40 #[Y z,.slice none 0 0,lI s'.mG.length],B uE 235<|tK o A l.length c bn f uZ vu L' s'.sts wU s'.ord.length w8,B uZ 4<|qS l.length s'.dn,mM wU w8 s'.ord,tx vu s'.mG,np 8<|fun j=>mM (L j).1 (L j).2<|qv o,B b8 40 #[Y 0,.slice none 0 0,Y 0]]:=hI;have ur:∀(A3:lO) (c3:Nat) (W:lE),ly NF w0 W [mM A3 c3 (if z=1 then s'.ord else[])]->Sf o l ab ((bn:Nat):Int) w0 (.returned<|.tuple #[.agg #[Y z,.slice A3 (if z=1 then s'.ord else[]).length c3,lI s'.mG.length],.nilIface]) W:=by intro A3 c3 W hI;refine .inl ⟨mH,A3,c3,?_⟩;rw[gQ,hR];exact⟨Z,hI⟩
 by_cases hz:z=1
 .refine Ws<|Wq<|V6 0 Z<|Yc hI Z Z<|Vz Z<|Yt Z<|Wr<|V8 Z<|Ve Z<|V6 5 Z<|V4 (.slice _ _ _) Z (hI.c1 Z)<|V6 1 Z<|xI (u:=.slice _ _ _) hI Z Z Z Z Z Z ai Z Z Z ?_;intro w hI;refine Wn<|Wq<|U1 3 Z hI.g0<|ZY (u:=.agg _) (vs:= #[_,_,_]) (n:=3) hI Z Z Z Z Z Z ai Z Z Z ?_;intro w hI;refine Vh Z<|Wn<|WR<|Up 40 3 (.inr Z) Z hI.g6 ?_;rw[lq hz]at ur;exact ur _ _ _ hI.d6.d5.d4.d2.d1.d0
 refine Ws<|Wq<|V6 0 Z<|Yc hI Z Z<|Vv Z<|Yf Z<|Wk<|Wq<|U1 3 Z hI.g0<|ZY (u:=.agg _) (vs:= #[_,_,_]) (n:=3) hI Z Z Z Z Z Z ai Z Z Z ?_;intro w hI;refine Vh Z<|Wn<|WR<|Up 40 3 (.inr Z) Z hI.g6 ?_;rw[lp hz]at ur;have h1:ly NF w0 w []:=hI.d6.d5.d4.d3.d2.d1.d0;exact ur none 0 _ (h1.fresh (Pure.refl w) (lz.nil w 0 3 1)<|fun k hk=>by cases hk)
theorem aai:N7 70 sD:=⟨⟨_,func70,rfl,rfl⟩,ajl⟩
theorem ajL(o:Int)(A:lO)(n c:Nat)(l:List l9)(lP:Int)(D:lF)(w0:lE)(h:tU w0 D (.slice A n c) l)(hk:wW w0):
  Cq 25 #[Y o,.slice A n c,Y lP] w0 (Sf o l sD lP w0):=by
 have hI:=ly.start (fun _=>False) w0;refine Vo func25 Z<|Wq<|T6 (.agg #[Y 0,.slice none 0 0,Y 0]) (#[Y 0,.slice none 0 0,Y 0]) hI Z ?_;rintro b6 w- -hI;refine Vh Z<|Wn ?_;by_cases mH:vt o l lP
 .refine Wq<|V0 Z<|Vf Z<|V0 Z<|V7 [Y _,.slice _ _ _,Y _,.func _ _ _] Z func69 Z<|(ahC o A n c l lP _ sD D _ (h.pure hI.pu) (hk.pure hI.pu) aai).mono ?_;rintro e w1 (⟨_,A',c',rfl,hT⟩|⟨h1,_⟩);rotate_left
  .exact ll mH h1
  apply rV;have hI:=hI.app1 hT;refine Vi Z<|Vi Z<|DK (u:=.agg _) (vs:= #[_,_,_]) (n:=3) hI Z Z Z Z Z Z ai Z Z Z ?_;intro w hI;exact Vh Z<|Wn<|WR<|Up 40 3 (.inr Z) Z hI.g1<|.inl ⟨mH,A',c',Z,hI.d1⟩
 refine Wq<|V0 Z<|Vf Z<|V0 Z<|V7 [Y _,.slice _ _ _,Y _,.func _ _ _] Z func69 Z<|(ahC o A n c l lP _ sD D _ (h.pure hI.pu) (hk.pure hI.pu) aai).mono ?_;rintro e w1 (⟨h1,_⟩|⟨_,⟨z,hz,rfl⟩,hp⟩)
 .exact ll h1 mH
 apply rV;have hI:=hI.pure hp;refine Vi Z<|Vi Z<|Ta 3 (#[_,_,_]) (.agg _) hI Z ?_;intro w hI;exact Vn Z<|Wn<|WR<|Up 40 3 (.inr Z) Z hI.g0<|.inr ⟨mH,⟨z,hz,Z⟩,hI.pu⟩
end
end Go.Proofs.YtfjcghhjlmfggaaGreatDoor
