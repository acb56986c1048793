/- FarmMany: lemmas. -/
import Derived.Test.YtfjcghhjlmfggaaGreatDoorPA
import Derived.Lib.AtoiAll
import Derived.Lib.ItoaNum
import Derived.Test.YtfjcghhjlmfggaaGreatDoorShelf
import Derived.Lib.Split
import Derived.Lib.Join
import Derived.Lib.FieldsP
import Derived.Lib.IndexBytes
import Derived.Laws.RangeString
import Derived.Deep.Slices
import Derived.Deep.Fields
import Derived.ChangeSame
import Derived.Laws.Externs
import Derived.Stop.Asserts
set_option linter.defProp false
set_option linter.unusedSectionVars false
set_option linter.unusedVariables false
set_option linter.unusedSimpArgs false
set_option maxHeartbeats 2000000
namespace Go.Proofs.YtfjcghhjlmfggaaGreatDoor
theorem cJ{p:Prop}(h:p:=by simp only[Ge.sz];omega):p:=h
def jr:=@Go.DataW.trod_int
section
open Tryz
open Go
variable{a b:Int}{st':mq}{i n:Nat}{dn:pw}
inductive Ge where
 |rd (k:Int)|wr (k l t:Int)|qO (n:Nat) (g:Ge)|mix (gs:List Ge)|tN (gs:List Ge)
mutual
def Ge.sz:Ge->Nat
 |.rd _=>1|.wr _ _ _=>1|.qO _ g=>1+g.sz|.mix gs=>1+rP gs|.tN gs=>1+rP gs
def rP:List Ge->Nat
 |[]=>0|g::gs=>1+g.sz+rP gs
end
theorem ahg:∀(gs:List Ge) (i:Nat) (g g':Ge),gs[i]?=some g->rP (gs.set i g')+g.sz=rP gs+g'.sz
 |[],i,g,g',h=>by simp at h
 |a::gs,0,g,g',h=>by simp only[eU,ia]at h;subst h;simp only[gI,rP];omega
 |a::gs,i+1,g,g',h=>by simp only[eT]at h;have:=ahg gs i g g' h;simp only[gH,rP];omega
theorem RE:∀(gs:List Ge) (i:Nat) (g:Ge),gs[i]?=some g->rP (gs.eraseIdx i)+g.sz+1=rP gs
 |[],i,g,h=>by simp at h
 |a::gs,0,g,h=>by simp only[eU,ia]at h;subst h;simp only[eR,rP];omega
 |a::gs,i+1,g,h=>by simp only[eT]at h;have:=RE gs i g h;simp only[eQ,rP];omega
abbrev Ca:=Bool×Int×Int
def xL(nums:mq)(u:Nat)(n:Int):Int:=IntKind.u64.wrap (nums.getD u 0)%n
inductive Nx(nums:mq):Ge->Nat->Option Ca->Ge->Nat->Prop
 |rd {k u}:Nx nums (.rd k) u (some (false,k,0)) (.rd k) u|wr {k l t u}:Nx nums (.wr k l t) u (some (true,k,l+xL nums u (t-l+1))) (.wr k l t) (u+1)|Qo {g u}:Nx nums (.qO 0 g) u none (.qO 0 g) u|qO {g u r g' u' n}:Nx nums g u r g' u'->Nx nums (.qO (n+1) g) u r (.qO n g') u'|JQ {u}:Nx nums (.mix []) u none (.mix []) u|JS {gs g g' u u'} {c:Ca} {i:Nat}:gs[i]?=some g->(i:Int)=xL nums u gs.length->Nx nums g (u+1) (some c) g' u'->Nx nums (.mix gs) u (some c) (.mix<|gs.set i g') u'|JR {gs g g' u u' r yC y7} {i:Nat}:gs[i]?=some g->(i:Int)=xL nums u gs.length->Nx nums g (u+1) none g' u'->Nx nums (.mix<|gs.eraseIdx i) u' r yC y7->Nx nums (.mix gs) u r yC y7|Y8 {u}:Nx nums (.tN []) u none (.tN []) u|NU {gs g g' u u'} {c:Ca}:Nx nums g u (some c) g' u'->Nx nums (.tN<|g::gs) u (some c) (.tN<|g'::gs) u'|NT {gs g g' u u' r yC y7}:Nx nums g u none g' u'->Nx nums (.tN gs) u' r yC y7->Nx nums (.tN<|g::gs) u r yC y7
theorem Nx.qf{nums:mq}{g:Ge}{u:Nat}{r:Option Ca}{g1:Ge}{u1:Nat}(h:Nx nums g u r g1 u1):∀{r2 g2 u2},Nx nums g u r2 g2 u2->r=r2/\g1=g2/\u1=u2:=by
 induction h with
 |rd=>intro r2 g2 u2 h2;cases h2;exact⟨rfl,rfl,rfl⟩
 |wr=>intro r2 g2 u2 h2;cases h2;exact⟨rfl,rfl,rfl⟩
 |Qo=>intro r2 g2 u2 h2;cases h2;exact⟨rfl,rfl,rfl⟩
 |qO _ ih=>
  intro r2 g2 u2 h2;cases h2 with
  |qO h=>obtain⟨rfl,rfl,rfl⟩:=ih h;exact⟨rfl,rfl,rfl⟩
 |JQ=>
  intro r2 g2 u2 h2;cases h2 with
  |JQ=>exact⟨rfl,rfl,rfl⟩|JS h=>simp at h|JR h=>simp at h
 |JS h1 h2 _ ih=>
  intro r2 g2 u2 h;cases h with
  |JQ=>simp at h1|JS uG vv h'=>rw[<-h2,jJ]at vv;subst vv;rw[h1,ia]at uG;subst uG;obtain⟨h3,rfl,rfl⟩:=ih h';exact⟨h3,Z,Z⟩
  |JR uG vv h'=>rw[<-h2,jJ]at vv;subst vv;rw[h1,ia]at uG;subst uG;cases(ih h').1
 |JR h1 h2 _ _ ih HT=>
  intro r2 g2 u2 h;cases h with
  |JQ=>simp at h1|JS uG vv h'=>rw[<-h2,jJ]at vv;subst vv;rw[h1,ia]at uG;subst uG;cases(ih h').1
  |JR uG vv h' h''=>rw[<-h2,jJ]at vv;subst vv;rw[h1,ia]at uG;subst uG;obtain⟨_,_,rfl⟩:=ih h';exact HT h''
 |Y8=>intro r2 g2 u2 h2;cases h2;exact⟨rfl,rfl,rfl⟩
 |NU _ ih=>
  intro r2 g2 u2 h;cases h with
  |NU h=>obtain⟨h3,rfl,rfl⟩:=ih h;exact⟨h3,rfl,rfl⟩
  |NT h=>cases(ih h).1
 |NT _ _ ih HT=>
  intro r2 g2 u2 h;cases h with
  |NU h=>cases(ih h).1
  |NT h h'=>obtain⟨_,_,rfl⟩:=ih h;exact HT h'
theorem Nx.sz{nums:mq}{g:Ge}{u:Nat}{r:Option Ca}{g1:Ge}{u1:Nat}(h:Nx nums g u r g1 u1):u<=u1/\u1<=u+g.sz/\g1.sz<=g.sz:=by
 induction h with
 |rd=>simp only[Ge.sz];omega|wr=>simp only[Ge.sz];omega|Qo=>simp only[Ge.sz];omega|qO _ ih=>simp only[Ge.sz];omega|JQ=>simp only[Ge.sz];omega|@JS gs g g' u u' c i h1 h2 _ ih=>have:=ahg gs i g g' h1;have:=RE gs i g h1;simp only[Ge.sz];omega
 |@JR gs g g' u u' r yC y7 i h1 h2 _ _ ih HT=>have:=RE gs i g h1;simp only[Ge.sz]at HT|-;omega
 |Y8=>simp only[Ge.sz];omega|NU _ ih=>simp only[Ge.sz,rP];omega|NT _ _ ih HT=>simp only[Ge.sz,rP]at HT|-;omega
abbrev lC:=List UInt8
def KE:lC:=[114,101,97,100]
def KH:lC:=[119,114,105,116,101]
def KC:lC:=[108,105,109,105,116]
def KD:lC:=[109,105,120]
def KG:lC:=[116,104,101,110]
def Is:lC:=[40]
def RF:lC:=[41]
def Ir:lC:=[44]
def LN(t:lC)(least Xu:Int):Option Int:=match Lib.atoiAll t with
 |.ok n=>if Lib.itoa n=t/\least<=n/\n<=Xu then some n else none
 |_=>none
def rL(least Xu:Int):List lC->Option (Int×List lC)
 |[]=>none|t::s=>(LN t least Xu).map fun n=>(n,s)
def pS(p:List lC->Option (Ge×List lC)):Nat->List lC->Option (List Ge×List lC)
 |0,_=>none|n+1,s=>match p s with
  |none=>none|some (_,[])=>none|some (g,t::s')=>if t=RF then some ([g],s')else if t=Ir then(pS p n s').map fun r=>(g::r.1,r.2)else none
def pV(p:List lC->Option (Ge×List lC)):List lC->Option (List Ge×List lC)
 |[]=>none|t::s=>if t=Is then pS p s.length s else none
def pW(s:List lC):Option (Ge×List lC):=match rL 0 7 s with
 |none=>none|some (k,s)=>match rL (-1000000) 1000000 s with
  |none=>none|some (l,s)=>match rL l 1000000 s with
   |none=>none|some (t,s)=>some (.wr k l t,s)
def pG:Nat->List lC->Option (Ge×List lC)
 |0,_=>none|_+1,[]=>none|k+1,t::s=>
  if t=KE then(rL 0 7 s).map fun r=>(.rd r.1,r.2)
  else if t=KH then pW s
  else if t=KC then match rL 0 1000 s with
   |none=>none|some (n,s)=>(pG k s).map fun r=>(.qO n.toNat r.1,r.2)
  else if t=KD then(pV (pG k) s).map fun r=>(.mix r.1,r.2)
  else if t=KG then(pV (pG k) s).map fun r=>(.tN r.1,r.2)
  else none
def Ii(c:UInt8):Bool:=c==40||c==41||c==44
def uF(aBl:lC):List lC:=if aBl=[]then[]else[aBl]
def tg:lC->List UInt8->List lC
 |aBl,[]=>uF aBl|aBl,c::cs=>if Ii c then uF aBl++[c]::tg [] cs else if c=32 then uF aBl++tg [] cs else tg (aBl++[c]) cs
def uy(bs:ox):List lC:=tg [] bs
theorem TV(aBl:lC):∀t∈uF aBl,t≠[]:=by
 unfold uF;split
 .simp
 intro t ht;rw[gF]at ht;subst ht;assumption
theorem RG:∀(bs:ox) (aBl:lC),∀t∈tg aBl bs,t≠[]
 |[],aBl=>TV aBl|c::cs,aBl=>by
  unfold tg;split
  .intro t ht;rcases jc.1 ht with h|h
   .exact TV _ t h
   rcases jM.1 h with rfl|h
   .simp;try omega
   exact RG cs [] t h
  split
  .intro t ht;rcases jc.1 ht with h|h
   .exact TV _ t h
   exact RG cs [] t h
  exact RG cs _
theorem Y7:∀(bs:ox) (aBl:lC),(tg aBl bs).length<=bs.length+(uF aBl).length
 |[],aBl=>by simp[tg]
 |c::cs,aBl=>by
  have h0:=Y7 cs [];have h1:=Y7 cs<|aBl++[c];have e0:(uF []).length=0:=rfl;have e1:(uF<|aBl++[c]).length=1:=by simp[uF]
  have e2:(uF aBl).length<=1:=by unfold uF;split<;>simp
  have e3:(aBl++[c]).length=aBl.length+1:=aq;unfold tg;split
  .simp only[gD,ix];omega
  split
  .simp only[gD,ix];omega
  simp only[ix];by_cases hc:aBl=[]
  .subst hc;omega
  have:(uF aBl).length=1:=by simp[uF,hc]
  omega
theorem ahq(bs:ox):(uy bs).length<=bs.length:=Y7 bs []
theorem TW{aBl t:lC}(h:t∈uF aBl):t=aBl:=by
 unfold uF at h;split at h
 .cases h
 rwa [gF]at h
theorem RH:∀(bs:ox) (aBl:lC),∀t∈tg aBl bs,t.length<=aBl.length+bs.length
 |[],aBl,t,h=>by rw[TW h];simp
 |c::cs,aBl,t,h=>by
  unfold tg at h;simp only[ix];split at h
  .rcases jc.1 h with h|h
   .rw[TW h];omega
   rcases jM.1 h with rfl|h
   .simp;try omega
   have:=RH cs [] t h;simp only[iZ]at this;omega
  split at h
  .rcases jc.1 h with h|h
   .rw[TW h];omega
   have:=RH cs [] t h;simp only[iZ]at this;omega
  have:=RH cs _ t h;simp only[gD,fI]at this;omega
theorem aw9(bs:ox):∀t∈uy bs,t.length<=bs.length:=fun t h=>by have:=RH bs [] t h;simpa using this
def oL:List lC->lC
 |[]=>[]
 |t::_=>t
theorem asb(a b:Int)(l:List lC):rL a b l=(LN (oL l) a b).map fun n=>(n,l.tail):=by
 cases l with
 |nil=>rfl|cons t l=>rfl
theorem QJ{t:lC}{n:Int}:LN t a b=some n↔Lib.atoiAll t=.ok n/\Lib.itoa n=t/\a<=n/\n<=b:=by
 unfold LN;constructor
 .intro h;split at h
  .rename_i m hm;split at h
   .rename_i hh;cases h;exact⟨hm,hh⟩
   cases h
  cases h
 rintro⟨h1,h2⟩;rw[h1];simp only;rw[lq h2]
theorem Gi{s r:List lC}{n:Int}(h:rL a b s=some (n,r)):a<=n/\n<=b/\r.length+1=s.length/\∀x,rL a b (s++x)=some (n,r++x):=by
 cases s with
 |nil=>simp[rL]at h|cons t s=>
  simp only[rL,ft,jP]at h;obtain⟨m,hm,rfl,rfl⟩:=h;have hb:a<=m/\m<=b:=by
   unfold LN at hm;split at hm
   .split at hm
    .rename_i hh;cases hm;exact hh.2
    cases hm
   cases hm
  refine⟨hb.1,hb.2,aq,fun x=>?_⟩;simp[rL,hm]
def Sa(p:List lC->Option (Ge×List lC)):Prop:=∀s g r,p s=some (g,r)->g.sz+r.length<=s.length/\∀x,p (s++x)=some (g,r++x)
theorem awU(g:Ge):0<g.sz:=by cases g<;>simp only[Ge.sz]<;>omega
theorem XM{p:List lC->Option (Ge×List lC)}(hp:Sa p):∀{n m:Nat} {s:List lC} {l r},n<=m->pS p n s=some (l,r)->rP l+r.length<=s.length/\∀x,pS p m (s++x)=some (l,r++x)
 |0,_,_,_,_,_,h=>by simp[pS]at h
 |n+1,0,_,_,_,h,_=>aa|n+1,m+1,s,l,r,x8,h=>by
  simp only[pS]at h;cases hs:p s with
  |none=>rw[hs]at h;cases h
  |some q=>
   rw[hs]at h;obtain⟨g,s'⟩:=q;have⟨hl,hx⟩:=hp s g s' hs;cases s' with
   |nil=>cases h
   |cons t s'=>
    simp only at h;simp only[ix]at hl;by_cases h1:t=RF
    .rw[lq h1]at h;cases h;refine⟨by simp only[rP];omega,fun x=>?_⟩;simp only[pS,hx x,ir,lq h1]
    rw[lp h1]at h;by_cases h2:t=Ir
    .rw[lq h2,ft]at h;obtain⟨q,hq,he⟩:=h;cases he;have⟨hl2,xv⟩:=XM hp (m:=m) aa<|show pS p n s'=some (q.1,q.2)from hq;refine⟨by simp only[rP];omega,fun x=>?_⟩;simp only[pS,hx x,ir,lp h1,lq h2,xv x,jk]
    rw[lp h2]at h;cases h
theorem aeS{p:List lC->Option (Ge×List lC)}(hp:Sa p){s:List lC}{l r}(h:pV p s=some (l,r)):rP l+r.length+1<=s.length/\∀x,pV p (s++x)=some (l,r++x):=by
 cases s with
 |nil=>simp[pV]at h|cons t s=>
  simp only[pV]at h;by_cases h1:t=Is
  .rw[lq h1]at h;have h2:=XM hp (ku _) h;refine⟨by simp only[ix];omega,fun x=>?_⟩;have h3:=(XM hp (m:=(s++x).length) aq h).2 x;simp only[pV,ir,lq h1,h3]
  rw[lp h1]at h;cases h
theorem asV{s:List lC}{g:Ge}{r:List lC}(h:pW s=some (g,r)):(∃k l t,g=.wr k l t/\0<=k/\k<=7/\ -1000000<=l/\l<=t/\t<=1000000)/\g.sz+r.length<=s.length/\∀x,pW (s++x)=some (g,r++x):=by
 unfold pW at h|-;cases h1:rL 0 7 s with
 |none=>rw[h1]at h;cases h
 |some q1=>
  obtain⟨k,s1⟩:=q1;rw[h1]at h;simp only at h;cases h2:rL (-1000000) 1000000 s1 with
  |none=>rw[h2]at h;cases h
  |some q2=>
   obtain⟨l,s2⟩:=q2;rw[h2]at h;simp only at h;cases h3:rL l 1000000 s2 with
   |none=>rw[h3]at h;cases h
   |some q3=>obtain⟨t,s3⟩:=q3;rw[h3]at h;cases h;have⟨a1,b1,c1,d1⟩:=Gi h1;have⟨a2,b2,c2,d2⟩:=Gi h2;have⟨a3,b3,c3,d3⟩:=Gi h3;refine⟨⟨k,l,t,Z,a1,b1,a2,a3,b3⟩,cJ,fun x=>?_⟩;rw[d1 x];simp only;rw[d2 x];simp only;rw[d3 x]
theorem XL:∀(k:Nat),Sa (pG k)
 |0=>fun s g r h=>by simp[pG]at h
 |k+1=>fun s g r h=>by
  have ih:=XL k;cases s with
  |nil=>simp[pG]at h|cons t s=>
   simp only[pG,ir,ix]at h|-;by_cases h1:t=KE
   .simp only[lq h1]at h|-;rw[ft]at h;obtain⟨⟨n,s1⟩,hn,he⟩:=h;cases he;have⟨_,_,c1,d1⟩:=Gi hn;exact⟨cJ,fun x=>by rw[d1 x];rfl⟩
   simp only[lp h1]at h|-;by_cases h2:t=KH
   .simp only[lq h2]at h|-;have⟨_,b,c⟩:=asV h;exact⟨aa,c⟩
   simp only[lp h2]at h|-;by_cases h3:t=KC
   .simp only[lq h3]at h|-;cases hn:rL 0 1000 s with
    |none=>rw[hn]at h;cases h
    |some q=>obtain⟨n,s1⟩:=q;rw[hn]at h;simp only[ft]at h;obtain⟨⟨g1,s2⟩,hg,he⟩:=h;cases he;have⟨_,_,c1,d1⟩:=Gi hn;have⟨hl,hx⟩:=ih _ _ _ hg;refine⟨cJ,fun x=>?_⟩;rw[d1 x];simp only[hx x,jk]
   simp only[lp h3]at h|-;by_cases h4:t=KD
   .simp only[lq h4]at h|-;rw[ft]at h;obtain⟨⟨l,s1⟩,hv,he⟩:=h;cases he;have⟨hl,hx⟩:=aeS ih hv;exact⟨cJ,fun x=>by rw[hx x];rfl⟩
   simp only[lp h4]at h|-;by_cases h5:t=KG
   .simp only[lq h5]at h|-;rw[ft]at h;obtain⟨⟨l,s1⟩,hv,he⟩:=h;cases he;have⟨hl,hx⟩:=aeS ih hv;exact⟨cJ,fun x=>by rw[hx x];rfl⟩
   rw[lp h5]at h;cases h
def H6(bs:ox):Option Ge:=match pG 20 (uy bs)with
 |some (g,[])=>some g|_=>none
theorem asZ{bs:ox}{g:Ge}(h:H6 bs=some g):g.sz<=bs.length:=by
 unfold H6 at h;cases hx:pG 20 (uy bs)with
 |none=>rw[hx]at h;cases h
 |some q=>
  obtain⟨g1,r⟩:=q;rw[hx]at h;cases r with
  |cons=>cases h
  |nil=>cases h;have h1:=(XL 20 _ _ _ hx).1;have:=ahq bs;omega
def zG(o k:Int):Bool:=(o==1&&(k==1||k==2||k==3))||(o==2&&(k==4||k==5))||(o==3&&(k==6||k==7||k==8))||(o==4&&(k==9||k==10))||(o==5&&(k==9||k==10))||(o==6&&(k==11||k==12))
def AN(o:Int):Bool:=o==1||o==2||o==6
def qv(o:Int):List Int:=if AN o then[0]else[]
def Gj(b:Bool):Int:=if b then 1 else 0
def r9(l:mq)(a:Int):Nat:=(l.filter (· <a)).length
def Ga(l:mq)(a:Int):List Int:=l.take (r9 l a)++a::l.drop (r9 l a)
def FB(l:mq)(a:Int):List Int:=l.take (r9 l a)++l.drop (r9 l a+1)
def Cb(n k a b:Int):Int×Int:=if k=1 then(n,n)else if k=2 then(a,0)else if n=a then(b,1)else(n,0)
def tJ(l:mq)(k a:Int):List Int×Int:=if k=6/\a∉l then(Ga l a,1)else if k=7/\a∈l then(FB l a,1)else(l,Gj (decide (k=8/\a∈l)))
def th(o:Int)(l:mq)(k a:Int):List Int×Int:=if k=9 then(l++[a],0)else if l=[]then(l, -1)else if o=4 then(l.drop 1,l.getD 0 0)else(l.take (l.length-1),l.getD (l.length-1) 0)
def qY(o:Int)(st:mq)(k a b:Int):Option (List Int×Int):=
 if zG o k=false\/(AN o=true/\st.length≠1)then none else
 if o=1 then some ([(Cb (st.getD 0 0) k a b).1],(Cb (st.getD 0 0) k a b).2)else
 if o=2 then some ([if k=4 then IntKind.i64.wrap (st.getD 0 0+a)else st.getD 0 0],if k=4 then IntKind.i64.wrap (st.getD 0 0+a)else st.getD 0 0)else
 if o=3 then some (tJ st k a)else
 if o=6 then(if st.getD 0 0=Gj (k==12)then some ([Gj (k==11)],0)else none)else
 some (th o st k a)
def Nj(o:Int)(st:mq):Prop:=o=3->st.Pairwise (· < ·)
theorem aso(o:Int):Nj o (qv o):=by intro h;subst h;simp[qv,AN]
theorem ae0(l:mq)(a:Int):r9 l a<=l.length:=fH ..
theorem XS:∀(l:mq) (a:Int),l.Pairwise (· < ·)->(∀x∈l.take (r9 l a),x<a)/\(∀x∈l.drop (r9 l a),a<=x)
 |[],a,_=>aq|x::l,a,h=>by
  have hp:=gG.1 h;by_cases hx:x<a
  .have e:r9 (x::l) a=r9 l a+1:=by simp[r9,hx]
   have⟨h1,h2⟩:=XS l a hp.2;rw[e,gp,gi];refine⟨fun y hy=>?_,h2⟩;rcases jM.1 hy with rfl|hy
   .exact hx
   exact h1 y hy
  have e:r9 (x::l) a=0:=by
   unfold r9;rw[eY,List.filter_eq_nil_iff];intro y hy;rcases jM.1 hy with rfl|hy
   .simpa using hx
   have:=hp.1 y hy;simp;omega
  rw[e,jA,ju];refine⟨fun y hy=>by simp at hy,fun y hy=>?_⟩;rcases jM.1 hy with rfl|hy
  .omega
  have:=hp.1 y hy;omega
theorem aqo{l:mq}(h:l.Pairwise (· < ·))(hn:a∉l):(Ga l a).Pairwise (· < ·):=by
 have⟨h1,h2⟩:=XS l a h;unfold Ga;have hs:(l.take (r9 l a)++l.drop (r9 l a)).Pairwise (· < ·):=by rw[fL];exact h
 have⟨p1,p2,p3⟩:=fW.1 hs;refine fW.2 ⟨p1,gG.2 ⟨fun x hx=>?_,p2⟩,fun x hx y hy=>?_⟩
 .have e1:=h2 x hx;have e2:a≠x:=fun e=>hn<|e▸fU hx;omega
 rcases jM.1 hy with rfl|hy
 .exact h1 x hx
 exact p3 x hx y hy
theorem akW{l:mq}(h:l.Pairwise (· < ·)):(FB l a).Pairwise (· < ·):=by
 unfold FB;have:(l.take (r9 l a)++l.drop (r9 l a+1)).Sublist l:=by
  have e:l=l.take (r9 l a)++l.drop (r9 l a):=(fL ..).symm;have hs:(l.drop<|r9 l a+1).Sublist (l.drop<|r9 l a):=by rw[<-List.drop_drop];exact List.drop_sublist ..
  conv=>rhs;rw[e]
  exact(List.Sublist.refl _).append hs
 exact h.sublist this
theorem awK{o:Int}{st:mq}{k r:Int}(h:qY o st k a b=some (st',r))(hs:Nj o st):Nj o st':=by
 intro ho;subst ho;have mo:=hs rfl;unfold qY at h;simp[AN]at h;obtain⟨_,h⟩:=h;unfold tJ at h;split at h
 .rename_i hk;injection h with h1 _;subst h1;exact aqo mo hk.2
 split at h
 .injection h with h1 _;subst h1;exact akW mo
 injection h with h1 _;subst h1;exact mo
structure l9 where
 proc:Int
 key:Int
 kind:Int
 a:Int
 b:Int
 res:Int
 call:Int
 ret:Int
deriving DecidableEq
variable{l:List l9}
def pP(o:l9):List Value:=[.int .i64 o.proc,.int .i64 o.key,.int .i64 o.kind,.int .i64 o.a,.int .i64 o.b,.int .i64 o.res,.int .i64 o.call,.int .i64 o.ret]
def lS(l:List l9)(k:Nat):l9:=l.getD k ⟨0,0,0,0,0,0,0,0⟩
theorem awJ{o:Int}{st:mq}{k r:Int}(h:qY o st k a b=some (st',r)):st'.length<=st.length+1:=by
 unfold qY at h;split at h
 .cases h
 split at h
 .injection h with h;injection h with h1 _;subst h1;simp
 split at h
 .injection h with h;injection h with h1 _;subst h1;simp
 split at h
 .injection h with h;have h1:(tJ st k a).1=st':=by rw[h]
  subst h1;have:=ae0 st a;unfold tJ;split
  .simp[Ga];omega
  split
  .simp[FB];omega
  simp
 split at h
 .split at h
  .injection h with h;injection h with h1 _;subst h1;simp
  cases h
 injection h with h;have h1:(th o st k a).1=st':=by rw[h]
 subst h1;unfold th;split
 .simp
 split
 .simp
 split
 .simp;omega
 simp;omega
theorem awF(o:Int):(qv o).length<=1:=by unfold qv;split<;>simp
open Go.RowKit
def R5(v:lH):Prop:=∃u,v=.iface 36 (.int .i64 u)
end
section
open Tryz
variable{a b:Int}{st':mq}{l:List l9}{i n:Nat}{dn:pw}
def wu(d:Nat):Nat:=if d<10 then 48+d else 87+d
def Bl:Nat->Nat->List Nat->List Nat
 |0,u,acc=>wu (u%36)::acc|f+1,u,acc=>if u<36 then wu u::acc else Bl f (u/36) (wu (u%36)::acc)
def J7(c:Nat):Prop:=c≠32/\c≠124/\c<256
theorem QL{d:Nat}(h:d<36):J7 (wu d)/\wu d≠45:=by unfold J7 wu;split<;>omega
theorem aev:∀(f u:Nat) (acc:nN),(∀c∈acc,J7 c/\c≠45)->∀c∈Bl f u acc,J7 c/\c≠45
 |0,u,acc,h=>by
  intro c hc;rcases jM.1 hc with rfl|hc
  .exact QL<|kL _ aa
  exact h c hc
 |f+1,u,acc,h=>by
  rw[Bl];split
  .rename_i h1;intro c hc;rcases jM.1 hc with rfl|hc
   .exact QL h1
   exact h c hc
  refine aev f _ _ fun c hc=>?_;rcases jM.1 hc with rfl|hc
  .exact QL<|kL _ aa
  exact h c hc
def wq(u:Nat):List Nat:=Bl 13 u []
def xx(n:Int):List Nat:=if n<0 then 45::wq n.natAbs else wq n.natAbs
def wK(n:Int):Prop:= -9223372036854775808<=n/\n<=9223372036854775807
theorem aa3(u:Nat):∀c∈wq u,J7 c/\c≠45:=aev 13 u [] aq
theorem aqu(n:Int):∀c∈xx n,J7 c:=by
 intro c hc;unfold xx at hc;split at hc
 .rcases jM.1 hc with rfl|hc
  .exact⟨aw,aw,aw⟩
  exact(aa3 _ c hc).1
 exact(aa3 _ c hc).1
def I0(l:mq):List Nat:=l.flatMap (fun n=>32::xx n)++[124]
def tZ(sts:sB)(ks:nN):List Nat:=ks.flatMap fun k=>I0 (sts k)
def OD(b:Bool):Nat:=if b then 49 else 48
def zF(n:Nat)(dn:pw)(sts:sB):List Nat:=(List.range n).map (fun i=>OD (dn i))++tZ sts (List.range 8)
theorem alj(l:mq):∀c∈I0 l,c<256:=by
 intro c hc;rcases jc.1 hc with hc|hc
 .have⟨n,_,hc⟩:=iA.1 hc;rcases jM.1 hc with rfl|hc
  .decide
  exact(aqu n c hc).2.2
 have:c=124:=by simpa using hc
 omega
theorem adN(n:Nat)(dn:pw)(sts:sB):∀c∈zF n dn sts,c<256:=by
 intro c hc;rcases jc.1 hc with hc|hc
 .obtain⟨i,_,rfl⟩:=jZ.1 hc;unfold OD;split<;>decide
 have⟨k,_,hc⟩:=iA.1 hc;exact alj _ c hc
def tM(l:nN):ByteArray:=⟨(l.map UInt8.ofNat).toArray⟩
theorem awP{l l':nN}(h1:∀c∈l,c<256)(h2:∀c∈l',c<256)(h:tM l=tM l'):l=l':=by
 unfold tM at h;injection h with h;have h:=kY Array.toList h;simp only at h;have g:∀l:nN,(∀c∈l,c<256)->(l.map UInt8.ofNat).map UInt8.toNat=l:=by
  intro l hl;rw[List.map_map]
  conv=>rhs;rw[<-List.map_id l]
  refine List.map_congr_left fun c hc=>?_;simp[Function.comp];have:=hl c hc;omega
 rw[<-g l h1,<-g l' h2,h]
open Go.RowKit
def qS(n:Nat)(f:pw):Array Value:=((List.range n).map fun i=>Value.bool (f i)).toArray
theorem OF(f:pw)(hi:i<n):(qS n f)[i]?=some (.bool (f i)):=by simp[qS,hi]
theorem ajp(f:pw)(u:Nat)(b:Bool):(qS n f).setIfInBounds u (.bool b)=qS n (fun x=>if x=u then b else f x):=by
 apply kH;simp only[qS,ei];refine List.ext_getElem aq<|fun i h1 h2=>?_;simp only[List.getElem_set,List.getElem_map,List.getElem_range];by_cases h:u=i
 .subst h;simp
 rw[lp h,lp<|lg h]
end
section
open Tryz
variable{a b:Int}{st':mq}{l:List l9}{i n:Nat}{dn:pw}
structure qM where
 dn:pw
 sts:sB
 ord:mq
 mG:List (List Nat)
def rH(dn:pw)(i:Nat)(b:Bool):Nat->Bool:=fun x=>if x=i then b else dn x
def qX(sts:sB)(k:Nat)(st:mq):Nat->List Int:=fun j=>if j=k then st else sts j
def DR(l:List l9)(dn:pw):Bool:=(List.range l.length).all fun i=> !decide (0<=(lS l i).ret)||dn i
def C9(l:List l9)(ab:l9->l9->Bool)(dn:pw)(i:Nat):Bool:= !dn i&&(List.range l.length).all fun k=>k==i||dn k|| !ab (lS l k) (lS l i)
def ya(l:List l9)(i:Nat):Nat:=(lS l i).key.toNat
def By(o:Int)(l:List l9)(sts:sB)(i:Nat):Option (List Int):=match qY o (sts (ya l i)) (lS l i).kind (lS l i).a (lS l i).b with
 |none=>none|some (st',r)=>if(lS l i).ret≠ -1/\r≠(lS l i).res then none else some st'
def Cc(l:List l9)(s:qM)(i:Nat)(st':mq):qM:=⟨rH s.dn i true,qX s.sts (ya l i) st',s.ord++[(i:Int)],s.mG⟩
def sK(o:Int)(l:List l9)(ab:l9->l9->Bool)(rec:qM->Int×qM):List Nat->qM->Int×qM
 |[],s=>(2,s)
 |i::r,s=>match C9 l ab s.dn i with
  |false=>sK o l ab rec r s|true=>match By o l s.sts i with
   |none=>sK o l ab rec r s|some st'=>if(rec<|Cc l s i st').1=2 then sK o l ab rec r ⟨s.dn,s.sts,s.ord,(rec<|Cc l s i st').2.mG⟩else rec (Cc l s i st')
section
variable{o:Int}{l:List l9}{ab:l9->l9->Bool}{rec:qM->Int×qM}{i:Nat}{r:nN}{s:qM}{st':mq}
theorem aqZ(h:C9 l ab s.dn i=false):sK o l ab rec (i::r) s=sK o l ab rec r s:=by rw[sK,h]
theorem adZ(h:C9 l ab s.dn i)(hg:By o l s.sts i=none):sK o l ab rec (i::r) s=sK o l ab rec r s:=by rw[sK,h,hg]
theorem aqY(h:C9 l ab s.dn i)(hg:By o l s.sts i=some st')(h2:(rec (Cc l s i st')).1=2):sK o l ab rec (i::r) s=sK o l ab rec r ⟨s.dn,s.sts,s.ord,(rec (Cc l s i st')).2.mG⟩:=by rw[sK,h,hg];exact lq h2
theorem aqX(h:C9 l ab s.dn i)(hg:By o l s.sts i=some st')(h2:(rec (Cc l s i st')).1≠2):sK o l ab rec (i::r) s=rec (Cc l s i st'):=by rw[sK,h,hg];exact lp h2
end
def QY(l:List l9)(s:qM):qM:=⟨s.dn,s.sts,s.ord,s.mG++[zF l.length s.dn s.sts]⟩
def qg(o:Int)(l:List l9)(ab:l9->l9->Bool)(lP:Nat):Nat->qM->Int×qM
 |0,s=>(2,s)
 |f+1,s=>match DR l s.dn with
  |true=>(1,s)
  |false=>if zF l.length s.dn s.sts∈s.mG then(2,s)else if s.mG.length=lP then(3,s)else sK o l ab (qg o l ab lP f) (List.range l.length) (QY l s)
section
variable{o:Int}{l:List l9}{ab:l9->l9->Bool}{lP f:Nat}{s:qM}
theorem abb(h:DR l s.dn):qg o l ab lP (f+1) s=(1,s):=by rw[qg,h]
theorem abd(h:DR l s.dn=false)(hk:zF l.length s.dn s.sts∈s.mG):qg o l ab lP (f+1) s=(2,s):=by rw[qg,h];exact lq hk
theorem abe(h:DR l s.dn=false)(hk:zF l.length s.dn s.sts∉s.mG)(hb:s.mG.length=lP):qg o l ab lP (f+1) s=(3,s):=by rw[qg,h];exact(lp hk).trans (lq hb)
theorem abc(h:DR l s.dn=false)(hk:zF l.length s.dn s.sts∉s.mG)(hb:s.mG.length≠lP):qg o l ab lP (f+1) s=sK o l ab (qg o l ab lP f) (List.range l.length) (QY l s):=by rw[qg,h];exact(lp hk).trans (lp hb)
end
def vP(o:Int):qM:=⟨fun _=>false,fun k=>if k<8 then qv o else[],[],[]⟩
def tu(o:Int)(l:List l9)(ab:l9->l9->Bool)(lP:Nat):Int×qM:=qg o l ab lP (l.length+1) (vP o)
def Bi(n:Nat)(dn:pw):Nat:=(List.range n).countP dn
def EZ(n:Nat)(dn:pw):Nat:=(List.range n).countP fun i=> !dn i
theorem S0(n:Nat)(dn:pw):Bi n dn+EZ n dn=n:=by
 unfold Bi EZ
 induction n with
 |zero=>rfl|succ n ih=>rw[jf,gz,gz];cases h:dn n<;>simp[h]at ih|- <;>omega
theorem ajW{b:Bool}(h:n<=i):Bi n (rH dn i b)=Bi n dn:=by unfold Bi;refine List.countP_congr fun x hx=>?_;have:=jy.1 hx;unfold rH;rw[lp aa]
theorem SY:∀{n i:Nat} {dn:pw},i<n->dn i=false->Bi n (rH dn i true)=Bi n dn+1
 |0,_,_,h,_=>aa|n+1,i,dn,h,hd=>by
  unfold Bi;rw[jf,gz,gz];by_cases hi:i=n
  .subst hi;have:=ajW (n:=i) (i:=i) (dn:=dn) (b:=true)<|ku _;unfold Bi at this;rw[this];simp[rH,hd]
  have:=SY (n:=n) (i:=i) (dn:=dn) aa hd;unfold Bi at this;rw[this];have e:rH dn i true n=dn n:=by unfold rH;rw[lp (lg hi)]
  simp[e];omega
theorem axe(h:i<n)(hd:dn i=false):EZ n (rH dn i true)+1=EZ n dn:=by have h1:=S0 n dn;have h2:=S0 n<|rH dn i true;have h3:=SY h hd;omega
theorem ar6{ab:l9->l9->Bool}(h:C9 l ab dn i):dn i=false:=by unfold C9 at h;simp at h;exact h.1
section
variable{o:Int}{l:List l9}{ab:l9->l9->Bool}
theorem Qu{rec:qM->Int×qM}{B:Nat}(ML:∀s,s.mG.length<=B->(rec s).2.mG.length<=B):∀(r:nN) (s:qM),s.mG.length<=B->(sK o l ab rec r s).2.mG.length<=B
 |[],s,h=>h|i::r,s,h=>by
  unfold sK;split
  .exact Qu ML r s h
  split
  .exact Qu ML r s h
  split
  .exact Qu ML r _<|ML _ h
  exact ML _ h
theorem abf{lP:Nat}:∀(f:Nat) (s:qM),s.mG.length<=lP->(qg o l ab lP f s).2.mG.length<=lP
 |0,s,h=>h|f+1,s,h=>by
  unfold qg;split
  .exact h
  split
  .exact h
  split
  .exact h
  refine Qu (abf f) _ _ ?_;simp[QY];omega
theorem axf(n:Nat):EZ n (fun _=>false)=n:=by simp[EZ]
end
structure KU(l:List l9):Prop where
 key:∀i,i<l.length->0<=(lS l i).key/\(lS l i).key<8
 a:∀i,i<l.length->wK (lS l i).a
 b:∀i,i<l.length->wK (lS l i).b
 ret:∀i,i<l.length->(lS l i).ret= -1\/0<=(lS l i).ret
theorem KU.ya(h:KU l)(hi:i<l.length):ya l i<8:=by have:=h.key i hi;unfold Go.Proofs.YtfjcghhjlmfggaaGreatDoor.ya;omega
structure KZ(o:Int)(n:Nat)(dn:pw)(sts:sB):Prop where
 ak1:∀i,n<=i->dn i=false
 awC:∀k,8<=k->sts k=[]
 i64:∀k,∀x∈sts k,wK x
 ok:∀k,Nj o<|sts k
 len:∀k,(sts k).length<=Bi n dn+1
theorem axO(z:Int):wK (IntKind.i64.wrap z):=by unfold wK;simp[IntKind.wrap,IntKind.signed,IntKind.bits];split<;>omega
theorem awI{o:Int}{st:mq}{k r:Int}(h:qY o st k a b=some (st',r))(hs:∀x∈st,wK x)(ha:wK a)(hb:wK b):∀x∈st',wK x:=by
 have h0:wK (st.getD 0 0):=by
  cases st with
  |nil=>exact⟨aw,aw⟩|cons x st=>exact hs x aq
 have MD:∀b:Bool,wK (Gj b):=fun b=>by cases b<;>exact⟨aw,aw⟩
 unfold qY at h;split at h
 .cases h
 split at h
 .injection h with h;injection h with h1 _;subst h1;intro x hx;rw[gF.1 hx];unfold Cb;split
  .exact h0
  split
  .exact ha
  split
  .exact hb
  exact h0
 split at h
 .injection h with h;injection h with h1 _;subst h1;intro x hx;rw[gF.1 hx];split
  .exact axO _
  exact h0
 split at h
 .injection h with h;have h1:(tJ st k a).1=st':=by rw[h]
  subst h1;unfold tJ;intro x hx;split at hx
  .simp only[Ga,jc,jM]at hx;rcases hx with hx|rfl|hx
   .exact hs x<|fV hx
   .exact ha
   exact hs x<|fU hx
  split at hx
  .simp only[FB,jc]at hx;rcases hx with hx|hx
   .exact hs x<|fV hx
   exact hs x<|fU hx
  exact hs x hx
 split at h
 .split at h
  .injection h with h;injection h with h1 _;subst h1;intro x hx;rw[gF.1 hx];exact MD _
  cases h
 injection h with h;have h1:(th o st k a).1=st':=by rw[h]
 subst h1;unfold th;intro x hx;split at hx
 .rcases jc.1 hx with hx|hx
  .exact hs x hx
  rw[gF.1 hx];exact ha
 split at hx
 .exact hs x hx
 split at hx
 .exact hs x<|fU hx
 exact hs x<|fV hx
theorem amf{o:Int}{sts:sB}(h:By o l sts i=some st'):∃r,qY o (sts (ya l i)) (lS l i).kind (lS l i).a (lS l i).b=some (st',r)/\¬((lS l i).ret≠ -1/\r≠(lS l i).res):=by
 unfold By at h;split at h
 .cases h
 rename_i s' r hs;split at h
 .cases h
 rename_i hn;injection h with h;subst h;exact⟨r,hs,hn⟩
theorem KZ.step{o:Int}{sts:sB}(h:KZ o l.length dn sts)(hA:KU l)(hi:i<l.length)(hd:dn i=false)(hg:By o l sts i=some st'):KZ o l.length (rH dn i true) (qX sts (ya l i) st'):=by
 have⟨r,hs,_⟩:=amf hg;have hc:=SY hi hd;have hk:=hA.ya hi;refine⟨fun j hj=>?_,fun k nY=>?_,fun k=>?_,fun k=>?_,fun k=>?_⟩
 .unfold rH;rw[lp aa];exact h.ak1 j hj
 .unfold qX;rw[lp aa];exact h.awC k nY
 .unfold qX;split
  .exact awI hs (h.i64 _) (hA.a i hi)<|hA.b i hi
  exact h.i64 k
 .unfold qX;split
  .exact awK hs<|h.ok _
  exact h.ok k
 rw[hc];unfold qX;split
 .have:=awJ hs;have:=h.len<|ya l i;omega
 have:=h.len k;omega
theorem ami(o:Int)(n:Nat):KZ o n (vP o).dn (vP o).sts:=by
 refine⟨fun _ _=>Z,fun k hk=>lp aa,fun k x hx=>?_,fun k=>?_,fun k=>?_⟩
 .simp only[vP]at hx;split at hx
  .unfold qv at hx;split at hx
   .rw[gF.1 hx];exact⟨aw,aw⟩
   cases hx
  cases hx
 .simp only[vP];split
  .exact aso o
  intro _;exact .nil
 simp only[vP];split
 .have:=awF o;omega
 simp
section
variable(o:Int)(l:List l9)(ab:l9->l9->Bool)
end
section
variable{o:Int}{l:List l9}{ab:l9->l9->Bool}
end
open Go.RowKit
def sq(a:Int)(n:Nat):Nat:=((a%18446744073709551616)%n).toNat
theorem Nn(a:Int)(h:0<n):sq a n<n:=by unfold sq;have h1:=Int.emod_lt_of_pos (a%18446744073709551616) (show(0:Int)<n by omega);have h2:=iS (a%18446744073709551616) (show(n:Int)≠0 by omega);omega
theorem as3(a:Int)(h:0<n):(a%18446744073709551616)%n=(sq a n:Int):=by unfold sq;have h2:=iS (a%18446744073709551616) (show(n:Int)≠0 by omega);omega
theorem as4(a:Int)(n:Nat)(h:0<n)(hn:n<=9223372036854775807):wrap64 ((IntKind.u64.wrap a).tmod n)=sq a n:=by
 have h0:IntKind.u64.wrap a=a%18446744073709551616:=by simp[IntKind.wrap,IntKind.signed,IntKind.bits]
 have h1:=iS a (show(18446744073709551616:Int)≠0 by decide);have h3:=Nn a h;rw[h0,ej h1,as3 a h];exact IntWalk.wrap64_in _ ⟨aa,aa⟩
theorem aeU(a:Int)(n:Nat)(w:lE)(h:0<n)(hn:n<=9223372036854775807):
  Cq 4 #[.int .i64 a,.int .i64 n] w fun e w'=>e=.returned (.int .i64<|sq a n)/\w=w':=by
 go_enter func4,Tryz.ntmps4
 go_wp2
 go_ret
 refine⟨aup<|as4 a n h hn,Z⟩
def vX(w:lE):Prop:=∃m:Int,w.cell? ⟨1,0,none⟩=some (.int .i64 m)
theorem vX.of{w:lE}(h:w.ShapedOpen prog):vX w:=laysM146.s1_3 w h
theorem vX.pure{w w':lE}(h:vX w)(hp:Pure w w'):vX w':=by obtain⟨m,h⟩:=h;exact⟨m,((ly.start (fun _=>False) w).pure hp).my h⟩
end
section
open Tryz
open Go
variable{a b:Int}{st':mq}{l:List l9}{i n:Nat}{dn:pw}
theorem aeT{c:UInt8}(hc:48<=c.toNat/\c.toNat<=57):∀(l:ox) (a b:Nat),Lib.parseUint10 a l=.ok b->b<1844674407370955161->Lib.parseUint10 a (l++[c])=.ok (b*10+(c.toNat-48))
 |[],a,b,h,hb=>by cases h;simp only[je,Lib.parseUint10];rw[lq hc,lp aa,lp aa]
 |x::l,a,b,h,hb=>by
  simp only[ir,Lib.parseUint10]at h|-;split at h
  .rename_i hx;rw[lq hx];split at h
   .cases h
   rename_i h1;rw[lp h1];split at h
   .cases h
   rename_i h2;rw[lp h2];exact aeT hc l _ _ h hb
  cases h
theorem OP{d:Nat}(h:d<10):(UInt8.ofNat (48+d)).toNat=48+d:=by rw[UInt8.toNat_ofNat'];omega
theorem XO:∀(k u:Nat),u<k->u<10000000000000000000->u<1844674407370955161->Lib.parseUint10 0 (Lib.decDigits u)=.ok u
 |0,u,h,_,_=>aa|k+1,u,h,h1,h2=>by
  rw[Lib.decDigits];split
  .rename_i xf;simp only[Lib.parseUint10,OP xf];rw[lq aa,lp aa,lp aa];congr 1;omega
  rename_i xf;have hd:=OP (show u%10<10 by omega);rw[aeT (by rw[hd];omega) _ _ _ (XO k (u/10) aa aa aa) aa,hd];congr 1;omega
theorem aaX(u:Nat):Lib.decDigits u≠[]:=by rw[Lib.decDigits];split<;>simp
theorem aaW:∀(k u:Nat),u<k->∀c∈Lib.decDigits u,48<=c.toNat/\c.toNat<=57
 |0,u,h=>aa|k+1,u,h=>by
  intro c hc;rw[Lib.decDigits]at hc;split at hc
  .rename_i xf;rw[gF.1 hc,OP xf];omega
  rename_i xf;rcases jc.1 hc with hc|hc
  .exact aaW k (u/10) aa c hc
  rw[gF.1 hc,OP aa];omega
theorem ai9{n:Int}(h1: -1000000000000000000<=n)(h2:n<=1000000000000000000):Lib.atoiAll (Lib.itoa n)=.ok n:=by
 unfold Lib.itoa;split
 .rename_i hn;have hp:=XO (n.natAbs+1) n.natAbs aa aa aa;have mK:=aaX n.natAbs;simp only[Lib.atoiAll];have e:(45:UInt8).toNat=45:=rfl;rw[lq (Or.inr e)];unfold Lib.parseMag;rw[lp mK,hp];simp only[e,not_true,false_and,kZ,true_and];rw[lp aa]
  (rw[lq trivial];congr 1;omega)
 rename_i hn;have hp:=XO (n.toNat+1) n.toNat aa aa aa;have vA:=aaW (n.toNat+1) n.toNat aa;cases hd:Lib.decDigits n.toNat with
 |nil=>exact ll hd<|aaX _|cons c r=>
  rw[hd]at hp vA;have hc:=vA c aq;simp only[Lib.atoiAll];rw[lp aa];unfold Lib.parseMag;rw[lp aq,hp];have My:¬c.toNat=45:=aa;simp only[My,not_false_eq_true,true_and,false_and,kZ];rw[lp aa]
  (congr 1;omega)
theorem S5:∀(k u:Nat),u<10 ^ k->0<k->(Lib.decDigits u).length<=k
 |0,u,h,h0=>aa|k+1,u,h,_=>by
  rw[Lib.decDigits];split
  .simp
  rename_i xf;have hk:0<k:=by
   rcases gJ k with h0|h0
   .subst h0;simp at h;omega
   exact h0
  have:=S5 k (u/10) (by rw[Nat.pow_succ]at h;omega) hk;simp only[gD,fI];omega
theorem aqs{n:Int}(h1: -1000000<=n)(h2:n<=1000000):(Lib.itoa n).length<=8:=by
 unfold Lib.itoa;split
 .have:=S5 7 n.natAbs aa aa;simp only[ix];omega
 have:=S5 7 n.toNat aa aa;omega
open Go Go.ChangeShapes Go.WideShapes Go.Deep
theorem adY{α:Type}{P:Nat->α->Prop}:∀(n:Nat),(∀i,i<n->∃x,P i x)->∃l:List α,l.length=n/\∀(i:Nat) x,l[i]?=some x->P i x
 |0,_=>⟨[],rfl,fun i x h=>by simp at h⟩
 |n+1,h=>by
  have⟨l,hl,hp⟩:=adY n<|fun i hi=>h i aa;have⟨x,hx⟩:=h n aa;refine⟨l++[x],by simp[hl],fun i y hy=>?_⟩;rcases hU i n with lX|heq|hgt
  .rw[eH aa]at hy;exact hp i y hy
  .subst heq;rw[ey aa,hl,j8]at hy;simp at hy;rw[<-hy];exact hx
  have:=(oS hy).1;simp at this;omega
theorem abz{size:Nat}:∀(ys:List (List Value)),(∀y∈ys,y.length=size)->∀(k:Nat) (u:lH),ys.flatten[k]?=some u->0<size->∃i j y,k=i*size+j/\j<size/\ys[i]?=some y/\y[j]?=some u
 |[],_,k,u,h,_=>by simp at h
 |y::ys,hs,k,u,h,h0=>by
  have hy:=hs y aq;rw[List.flatten_cons]at h;rcases j6 k size with lX|oh
  .rw[eH aa]at h;exact⟨0,k,y,aa,lX,rfl,h⟩
  rw[ey aa,hy]at h;have⟨i,j,z,h1,h2,h3,h4⟩:=abz ys (fun z hz=>hs z<|by simp[hz]) (k-size) u h h0;exact⟨i+1,j,z,by rw[kr];omega,h2,h3,h4⟩
section
variable{H:Type}{enc:TypeId×Value->H}{P:lY}{w:lE}{base:Nat}{spare:pw}{held:Bool}
theorem XJ{t e:lT}{size aBo:Nat}{v:lH}{x:DataW H×List MemPlace}(ht:P.underlying t=some (.slice e))(hC:P.cellsOf e=size)(h0:0<size)(h:DataW.trod enc P w base spare held aBo t [v]=some x):
  ∃(A:lO) (n c:Nat) (ys:List (List Value)),v=.slice A n c/\n<=c/\c<=9223372036854775807/\ys.length=n/\Rd w (fun k=>k<w.heap.size) size (.slice A n c) n ys.flatten/\
   ∀y∈ys,y.length=size/\∃n' d,DataW.trod enc P w base spare held n' e y=some d:=by
 rcases open_slice ht h with⟨mL,_⟩|⟨a,len,cap,m,n,D,Pl,mL,hb,hl,hm,x6,hx,hi⟩
 .injection mL with mL _;subst mL;exact⟨none,0,0,[],Z,ku _,aa,rfl,Rd.nil w _ size,aq⟩
 injection mL with mL _;subst mL;have hlm:len<=m:=by rw[x6];split<;>omega
 have⟨ys,zD,hy⟩:=adY (P:=fun i y=>(∀j,j<size->w.cell? ((a.add (i*size)).add j)=y[j]?)/\y.length=size/\∃n' d,DataW.trod enc P w base spare held n' e y=some d) len (fun i lX=>by
  have⟨cs',h1,h2⟩:=hi i aa;rw[hC]at h1;have⟨_,h3,h4⟩:=World.cells?_some h1
  exact⟨cs',h4,h3,n,_,h2⟩)
 have nG:∀y∈ys,y.length=size/\∃n' d,DataW.trod enc P w base spare held n' e y=some d:=fun y PR=>by have⟨i,hi⟩:=fR PR;exact(hy i y hi).2
 refine⟨some a,len,cap,ys,Z,hl,by simpa[maxLen]using hm,zD,⟨_,_,rfl,hl,by simpa[maxLen]using hm,?_,fun hn=>?_⟩,nG⟩
 .have:∀(l:List (List Value)),(∀y∈l,y.length=size)->l.flatten.length=l.length*size:=by
   intro l
   induction l with
   |nil=>simp|cons y l ih=>intro hs;rw[List.flatten_cons,gD,hs y aq,ih (fun z hz=>hs z<|by simp[hz]),ix,kr];omega
  rw[this ys (fun y hm=>(nG y hm).1),zD]
 obtain⟨y0,BW⟩:∃y,ys[0]?=some y:=⟨_,nM aa⟩
 have⟨xU,BP,_⟩:=hy 0 y0 BW;have h1:=xU 0 h0;rw[nM aa]at h1;obtain⟨b,o,sp⟩:=a;have hs:sp=none:=by have:=agE h1;simpa[Addr.add]using this
 subst hs;refine⟨b,o,Z,?_,fun k u hk=>?_⟩
 .have:=fc w _ h1;simpa[Addr.add]using this
 obtain⟨i,j,y,rfl,hj,hyi,hyj⟩:=abz ys (fun y hm=>(nG y hm).1) k u hk h0;have h2:=(hy i y hyi).1 j hj;rw[hyj,jU,jU]at h2;rw[<-h2];congr 2;omega
theorem asx{e:lT}{fs:Array Field}{aBo:Nat}{y:mb}{x:DataW H×List MemPlace}(he:P.underlying e=some (.struct fs))(MD:oneCellFields P fs)(hC:P.cellsOf e=fs.size)(h:DataW.trod enc P w base spare held aBo e y=some x):
  y.length=fs.size/\∀(j:Nat) (f:Field),fs[j]?=some f->∃(v:lH) (n':Nat) (d:DataW H×List MemPlace),y[j]?=some v/\DataW.trod enc P w base spare held n' f.type [v]=some d:=by
 have⟨ys,n',PU,hy,aBn,zD,hf⟩:=DataW.trod_struct he h;rw[hC]at aBn;refine⟨aBn,fun j f hj=>?_⟩;have⟨ho,hk⟩:=hone_of MD j f hj;have BN:j<fs.size:=(eg.1 hj).1;have hv:y[j]?=some (y[j]'aa):=nM aa;have h1:=hf j f hj;rw[ho,hk]at h1;have ao9:(y.drop j).take 1=[y[j]'aa]:=by
  rw[eF aa]
  rfl
 rw[ao9]at h1;have HR:ys[j]?=some (ys[j]'aa):=nM aa;exact⟨_,n',_,hv,h1.trans HR⟩
theorem decode{α:Type}{f:α->List Value}{R:α->Prop}:∀(ys:List (List Value)),(∀y∈ys,∃a,y=f a/\R a)->∃l:List α,l.length=ys.length/\ys.flatten=l.flatMap f/\∀a∈l,R a
 |[],_=>⟨[],rfl,rfl,aq⟩
 |y::ys,h=>by
  obtain⟨a,rfl,ha⟩:=h y aq;have⟨l,h1,h2,h3⟩:=decode ys (fun z hz=>h z<|by simp[hz]);refine⟨a::l,by simp[h1],by simp[h2],fun b hb=>?_⟩;rcases jM.1 hb with rfl|hb
  .exact ha
  exact h3 b hb
theorem asy{t e:lT}{aBo:Nat}{v:lH}{x:DataW H×List MemPlace}(ht:P.underlying t=some (.slice e))(he:P.underlying e=some (.int .i64))(hC:P.cellsOf e=1)(h:DataW.trod enc P w base spare held aBo t [v]=some x):
  ∃(l:mq),pL w (fun k=>k<w.heap.size) v l/\∀z∈l, -9223372036854775808<=z/\z<=9223372036854775807:=by
 obtain⟨A,n,c,ys,rfl,_,_,zD,Ek,HR⟩:=XJ ht hC aa h
 have⟨l,hl,tE,hR⟩:=decode (f:=fun z:Int=>[Value.int .i64 z]) (R:=fun z=> -9223372036854775808<=z/\z<=9223372036854775807) ys (fun y hy=>by
  have⟨_,n',d,hd⟩:=HR y hy;obtain⟨z,rfl,_,hwf⟩:=jr he hd
  exact⟨z,Z,axx hwf⟩)
 refine⟨l,?_,hR⟩;unfold pL;rw[hl,zD];have:l.map (Value.int .i64)=ys.flatten:=by rw[tE];clear tE hl hR;induction l with|nil=>rfl|cons a l ih=>simp[ih]
 rw[this];exact Ek
end
end
end Go.Proofs.YtfjcghhjlmfggaaGreatDoor
namespace Go.Proofs.YtfjcghhjlmfggaaGreatDoor
theorem bT{p:Prop}(h:p:=by exact Q6 rfl mY rfl rfl):p:=h
theorem bE{p:Prop}(h:p:=by simpa using hn):p:=h
def gr:=@Go.run_callFunc_extern
section
open Tryz
open Go
variable{n:Int}{c i:Nat}{w:lE}
structure Ev where
 proc:Int
 ty:Int
 key:Int
 kind:Int
 a:Int
 b:Int
 res:Int
 deriving DecidableEq
variable{l:List Ev}
def nu(e:Ev):List Value:=[.int .i64 e.proc,.int .i64 e.ty,.int .i64 e.key,.int .i64 e.kind,.int .i64 e.a,.int .i64 e.b,.int .i64 e.res]
def qG(n lo hi:Int):Bool:=decide (lo<=n)&&decide (n<=hi)
def xD(proc key:Int)(l:mq):Bool:=(l.all fun n=>qG n (-1000000) 1000000)&&qG proc 0 7&&qG key 0 7
def xd(e:Ev):Bool:=xD e.proc e.key [e.a,e.b,e.res]&&qG e.ty 1 4&&qG e.kind 1 12&& !(!decide (e.res=0)&& !decide (e.ty=2))
structure qR where
 t:Nat
 c:Int
 v:Int
def qR.less(a b:qR):Prop:=a.t<b.t\/(a.t=b.t/\a.c<b.c)
instance (a b:qR):Decidable (a.less b):=inferInstanceAs (Decidable (_\/_))
structure wY where
 what:Nat
 mQ:Nat
 round:Nat
 key:Nat
 e:qR
structure ou where
 src:Nat
 dst:Nat
 m:wY
structure qy where
 busy:Bool
 gone:Bool
 mz:Ev
 wR:Bool
 round:Nat
 counted:List Bool
 mF:qR
structure l8 where
 n:Nat
 k:Nat
 ask:Nat
 tell:Nat
 back:Bool
 mG:Nat->Nat->qR
 cl:Nat->qy
 lU:List ou
 evs:List Ev
 sts:List qR
def Gb(s:l8)(c:Nat):Nat:=(s.cl c).mz.key.toNat
def mJ(s:l8)(c:Nat)(x:qy):l8:={s with cl:=fun i=>if i=c then x else s.cl i}
def vO(ms:List ou)(m:ou):List ou:=if ms.length<500 then ms++[m]else ms
def AM(s:l8)(c what:Nat)(e:qR)(j:Nat):ou:=⟨s.n+c,j,⟨what,c,(s.cl c).round+1,Gb s c,e⟩⟩
def wQ(s:l8)(c what:Nat)(e:qR)(j:Nat):List ou:=(List.range j).foldl (fun ms i=>vO ms (AM s c what e i)) s.lU
def tI(s:l8)(c what:Nat):qy:={s.cl c with round:=(s.cl c).round+1,wR:=decide (what=2),counted:=List.replicate s.n false}
def y5(s:l8)(c what:Nat)(e:qR):l8:={mJ s c (tI s c what)with lU:=wQ s c what e s.n}
def rN(s:l8)(e:Ev)(st:qR):l8:={s with evs:=s.evs++[e],sts:=s.sts++[st]}
def u6(c key:Nat)(write:Bool)(value:Int):Ev:=⟨c,1,key,if write then 2 else 1,if write then value else 0,0,0⟩
def wi(s:l8)(c key:Nat)(write:Bool)(value:Int):l8:=
 let s1:=rN s (u6 c key write value) ⟨0,0,0⟩
 y5 (mJ s1 c {s1.cl c with busy:=true,mz:=u6 c key write value,mF:=⟨0, -2,0⟩}) c 1 ⟨0,0,0⟩
def Ae(s:l8)(c:Nat):l8:=
 let s1:=rN s {(s.cl c).mz with ty:=4} ⟨0,0,0⟩
 mJ s1 c {s1.cl c with busy:=false,gone:=true}
def tB(x:qy):Ev:={x.mz with ty:=2,res:=if x.mz.kind=1 then x.mF.v else x.mz.res}
def yA(s:l8)(c:Nat):l8:=
 let s1:=rN s (tB<|s.cl c) ⟨(s.cl c).mF.t,(s.cl c).mF.c,0⟩
 mJ s1 c {s1.cl c with busy:=false}
def y6(s:l8)(j key:Nat)(e:qR):l8:={s with mG:=fun a b=>if a=j/\b=key then e else s.mG a b}
def vL(s:l8)(j:Nat)(m:wY):qR:=if m.what=2/\(s.mG j m.key).less m.e then m.e else s.mG j m.key
def Gh(s:l8)(j:Nat)(m:wY):l8:={y6 s j m.key (vL s j m)with lU:=vO s.lU ⟨j,s.n+m.mQ,{m with what:=3,e:=vL s j m}⟩}
def xN(l:List Bool):Nat:=l.countP id
def pN(x:qy)(j:Nat)(m:wY):qy:=
 let x1:={x with counted:=x.counted.set j true}
 if x.wR then x1 else if x.mF.less m.e then {x1 with mF:=m.e}else x1
def vJ(x:qy)(c:Nat):qy:=if x.mz.kind=2 then {x with mF:=⟨x.mF.t+1,c,x.mz.a⟩}else x
def xi(s:l8)(j:Nat)(m:wY):l8:=
 let x:=s.cl m.mQ
 if x.busy=false\/m.round≠x.round\/x.counted.getD j false=true then s else
 let x1:=pN x j m
 let s1:=mJ s m.mQ x1
 if x.wR then(if xN x1.counted=s.tell then yA s1 m.mQ else s1)
 else if xN x1.counted<s.ask then s1
 else
  let x2:=vJ x1 m.mQ
  let s2:=mJ s m.mQ x2
  if x.mz.kind=2\/s.back=true then y5 s2 m.mQ 2 x2.mF else yA s2 m.mQ
def tX(s:l8)(i:Nat)(m:ou):l8:=
 let s1:={s with lU:=s.lU.eraseIdx i}
 if m.dst<s.n then Gh s1 m.dst m.m else xi s1 m.src m.m
def qT(s:l8)(j:Nat):Nat:=(List.range j).countP fun c=>(s.cl c).busy
theorem SJ(s:l8)(j:Nat):qT s (j+1)=qT s j+if(s.cl j).busy then 1 else 0:=by unfold qT;rw[jf,gz,List.countP_cons,List.countP_nil];simp
theorem aau(s:l8)(j:Nat):qT s j<=j:=by unfold qT;exact j5 fD aq
theorem mem_push{ms:List ou}{m x:ou}(h:x∈vO ms m):x∈ms\/x=m:=by
 unfold vO at h;split at h
 .rcases jc.1 h with h|h
  .exact .inl h
  exact .inr<|gF.1 h
 exact .inl h
theorem Xr{s:l8}{c what:Nat}{e:qR}{x:ou}:∀{j:Nat},x∈wQ s c what e j->x∈s.lU\/∃i,i<j/\x=AM s c what e i
 |0,h=>.inl h|j+1,h=>by
  unfold wQ at h;rw[jf,gV]at h;rcases mem_push h with h|h
  .rcases Xr h with h|⟨i,hi,h⟩
   .exact .inl h
   exact .inr ⟨i,aa,h⟩
  exact .inr ⟨j,aa,h⟩
def Cg(n:Nat)(m:ou):Nat:=if m.dst<n then 2 else 1
def sw(n:Nat)(ms:List ou):Nat:=(ms.map (Cg n)).sum
def su(n:Nat)(x:qy):Nat:=if x.busy=true/\x.wR=false then 2*n+1 else 0
def vN(s:l8):Nat->Nat
 |0=>0|k+1=>vN s k+su s.n (s.cl k)
def oJ(s:l8):Nat:=sw s.n s.lU+vN s s.k
theorem Zh(n:Nat)(m:ou):1<=Cg n m/\Cg n m<=2:=by unfold Cg;split<;>omega
theorem axR(n:Nat):sw n []=0:=rfl
theorem NZ(n:Nat)(m:ou)(ms:List ou):sw n (m::ms)=Cg n m+sw n ms:=by simp[sw]
theorem axQ(n:Nat)(a b:List ou):sw n (a++b)=sw n a+sw n b:=by simp[sw]
theorem ahS(n:Nat):∀ms:List ou,sw n ms<=2*ms.length
 |[]=>ku _|m::ms=>by have h1:=ahS n ms;have h2:=Zh n m;rw[NZ,ix];omega
theorem ahT(n:Nat)(ms:List ou)(m:ou):sw n (vO ms m)<=sw n ms+Cg n m:=by
 unfold vO;split
 .rw[axQ,NZ,axR];omega
 omega
theorem ahU(s:l8)(c what:Nat)(e:qR)(n:Nat):∀j,sw n (wQ s c what e j)<=sw n s.lU+2*j
 |0=>ku _|j+1=>by
  have h1:=ahU s c what e n j;have h2:=ahT n (wQ s c what e j)<|AM s c what e j;have h3:=Zh n<|AM s c what e j;have h4:wQ s c what e (j+1)=vO (wQ s c what e j) (AM s c what e j):=by unfold wQ;rw[jf,gV];rfl
  rw[h4];omega
theorem ahR(n:Nat):∀(ms:List ou) (i:Nat) (m:ou),ms[i]?=some m->sw n (ms.eraseIdx i)+Cg n m=sw n ms
 |[],i,m,h=>by simp at h
 |a::ms,0,m,h=>by simp only[eU,ia]at h;subst h;rw[eR,NZ];omega
 |a::ms,i+1,m,h=>by simp only[eT]at h;have:=ahR n ms i m h;rw[eQ,NZ,NZ];omega
theorem Nq{s s':l8}(hn:s'.n=s.n):∀k,(∀c,c<k->su s.n (s'.cl c)=su s.n (s.cl c))->vN s' k=vN s k
 |0,_=>rfl|k+1,h=>by rw[vN,vN,Nq hn k<|fun c hc=>h c aa,hn,h k aa]
theorem ae2{s:l8}{c:Nat}{x:qy}:∀k,c<k->vN (mJ s c x) k+su s.n (s.cl c)=vN s k+su s.n x
 |0,h=>aa|k+1,h=>by
  rw[vN,vN];have hn:(mJ s c x).n=s.n:=rfl;by_cases hc:c=k
  .subst hc;have h1:vN (mJ s c x) c=vN s c:=Nq (s:=s) (s':=mJ s c x) rfl c fun i hi=>by
    show su s.n (if i=c then x else s.cl i)=_;rw[lp aa]
   have h2:(mJ s c x).cl c=x:=by show(if c=c then x else s.cl c)=x;rw[lq rfl]
   rw[h1,h2,hn];omega
  have h1:=ae2 (s:=s) (x:=x) k (by omega:c<k);have h2:(mJ s c x).cl k=s.cl k:=by show(if k=c then x else s.cl k)=_;rw[lp (fun h=>hc h.symm)]
  rw[h2,hn];omega
theorem Nc{s:l8}{x:qy}(hc:c<s.k):oJ (mJ s c x)+su s.n (s.cl c)=oJ s+su s.n x:=by have:=ae2 (s:=s) (x:=x) s.k hc;unfold oJ;show sw s.n s.lU+vN (mJ s c x) s.k+_=_;omega
theorem aee(s:l8)(e:Ev)(st:qR):oJ (rN s e st)=oJ s:=by unfold oJ;show sw s.n s.lU+vN (rN s e st) s.k=_;rw[Nq (s:=s) (s':=rN s e st) rfl s.k (fun _ _=>rfl)]
theorem Xv(s:l8)(ms:List ou):oJ {s with lU:=ms}+sw s.n s.lU=oJ s+sw s.n ms:=by unfold oJ;show sw s.n ms+vN {s with lU:=ms} s.k+_=_;rw[Nq (s:=s) (s':={s with lU:=ms}) rfl s.k (fun _ _=>rfl)];omega
theorem ae1(n:Nat)(x:qy):su n x<=2*n+1:=by unfold su;split<;>omega
theorem as9(n:Nat){x:qy}(h:x.busy=false):su n x=0:=by unfold su;rw[h];simp
theorem ata(n:Nat){x:qy}(h:x.wR):su n x=0:=by unfold su;rw[h];simp
theorem aef{s:l8}{what:Nat}{e:qR}(hc:c<s.k):oJ (y5 s c what e)+su s.n (s.cl c)<=oJ s+2*s.n+su s.n (tI s c what):=by have h1:=Nc (s:=s) (x:=tI s c what) hc;have h2:oJ (y5 s c what e)+sw s.n s.lU=oJ (mJ s c<|tI s c what)+sw s.n (wQ s c what e s.n):=Xv (mJ s c<|tI s c what)<|wQ s c what e s.n;have h3:=ahU s c what e s.n s.n;omega
theorem aed{s:l8}(hc:c<s.k):oJ (yA s c)<=oJ s:=by have h0:=aee s (tB<|s.cl c) ⟨(s.cl c).mF.t,(s.cl c).mF.c,0⟩;have h1:oJ (yA s c)+su s.n (s.cl c)=oJ (rN s (tB<|s.cl c) ⟨(s.cl c).mF.t,(s.cl c).mF.c,0⟩)+su s.n {s.cl c with busy:=false}:=Nc (s:=rN s (tB<|s.cl c) ⟨(s.cl c).mF.t,(s.cl c).mF.c,0⟩) (c:=c) (x:={s.cl c with busy:=false}) hc;have h2:su s.n {s.cl c with busy:=false}=0:=as9 _ rfl;omega
theorem arS{s:l8}{j:Nat}{m:wY}:oJ (Gh s j m)<=oJ s+1:=by
 have h1:oJ (Gh s j m)+sw s.n s.lU=oJ (y6 s j m.key<|vL s j m)+sw s.n (vO s.lU ⟨j,s.n+m.mQ,{m with what:=3,e:=vL s j m}⟩):=Xv (y6 s j m.key<|vL s j m)<|vO s.lU ⟨j,s.n+m.mQ,{m with what:=3,e:=vL s j m}⟩;have h2:=ahT s.n s.lU ⟨j,s.n+m.mQ,{m with what:=3,e:=vL s j m}⟩;have h3:Cg s.n ⟨j,s.n+m.mQ,{m with what:=3,e:=vL s j m}⟩=1:=by unfold Cg;rw[lp (by show ¬s.n+m.mQ<s.n;omega)]
 have h4:oJ (y6 s j m.key<|vL s j m)=oJ s:=by unfold oJ;show sw s.n s.lU+vN (y6 s j m.key<|vL s j m) s.k=_;rw[Nq (s:=s) (s':=y6 s j m.key<|vL s j m) rfl s.k (fun _ _=>rfl)]
 omega
theorem VF(n:Nat)(x:qy)(j:Nat)(m:wY):su n (pN x j m)=su n x:=by
 unfold pN;dsimp only;split
 .rfl
 split<;>rfl
theorem aei(n:Nat)(x:qy)(c:Nat):su n (vJ x c)=su n x:=by unfold vJ;split<;>rfl
theorem arO{s:l8}{j:Nat}{m:wY}(hc:m.mQ<s.k):oJ (xi s j m)<=oJ s:=by
 unfold xi;dsimp only;split
 .exact ku _
 rename_i rT;have anH:(s.cl m.mQ).busy:=by
  cases h:(s.cl m.mQ).busy
  .exact ll (.inl h) rT
  rfl
 have e1:=Nc (s:=s) (c:=m.mQ) (x:=pN (s.cl m.mQ) j m) hc;rw[VF]at e1;split
 .split
  .have h1:=aed (s:=mJ s m.mQ<|pN (s.cl m.mQ) j m) (c:=m.mQ) hc;omega
  omega
 rename_i apH;split
 .omega
 have e2:=Nc (s:=s) (c:=m.mQ) (x:=vJ (pN (s.cl m.mQ) j m) m.mQ) hc;rw[aei,VF]at e2;split
 .have h1:=aef (s:=mJ s m.mQ<|vJ (pN (s.cl m.mQ) j m) m.mQ) (c:=m.mQ) (what:=2) (e:=(vJ (pN (s.cl m.mQ) j m) m.mQ).mF) hc;have h2:(mJ s m.mQ<|vJ (pN (s.cl m.mQ) j m) m.mQ).cl m.mQ=vJ (pN (s.cl m.mQ) j m) m.mQ:=by
   show(if m.mQ=m.mQ then _ else _)=_;rw[lq rfl]
  have h3:(mJ s m.mQ<|vJ (pN (s.cl m.mQ) j m) m.mQ).n=s.n:=rfl;rw[h2,h3,aei,VF]at h1;have h4:su s.n (s.cl m.mQ)=2*s.n+1:=by unfold su;rw[lq ⟨anH,by simpa using apH⟩]
  have h5:su s.n (tI (mJ s m.mQ<|vJ (pN (s.cl m.mQ) j m) m.mQ) m.mQ 2)=0:=ata _ rfl;omega
 have h1:=aed (s:=mJ s m.mQ<|vJ (pN (s.cl m.mQ) j m) m.mQ) (c:=m.mQ) hc;omega
theorem arN{s:l8}{m:ou}(hm:s.lU[i]?=some m)(hc:m.m.mQ<s.k):oJ (tX s i m)<oJ s:=by
 have h1:=Xv s<|s.lU.eraseIdx i;have h2:=ahR s.n s.lU i m hm;have h4:=Zh s.n m;unfold tX;dsimp only;split
 .rename_i hd;have h3:=arS (s:={s with lU:=s.lU.eraseIdx i}) (j:=m.dst) (m:=m.m);have h5:Cg s.n m=2:=by unfold Cg;rw[lq hd]
  omega
 have h3:=arO (s:={s with lU:=s.lU.eraseIdx i}) (j:=m.src) (m:=m.m) hc;omega
theorem auZ(s:l8)(c:Nat)(x:qy):(mJ s c x).cl c=x:=by show(if c=c then x else s.cl c)=x;rw[lq rfl]
theorem arM{s:l8}{key:Nat}{write:Bool}{value:Int}(hc:c<s.k):oJ (wi s c key write value)<=oJ s+4*s.n+1:=by
 obtain⟨s1,nZ⟩:∃s1,rN s (u6 c key write value) ⟨0,0,0⟩=s1:=⟨_,rfl⟩
 obtain⟨X,hX⟩:∃X,{s1.cl c with busy:=true,mz:=u6 c key write value,mF:=⟨0, -2,0⟩}=X:=⟨_,rfl⟩
 have e1:wi s c key write value=y5 (mJ s1 c X) c 1 ⟨0,0,0⟩:=by rw[<-hX,<-nZ];rfl
 have n1:s1.n=s.n:=by rw[<-nZ];rfl
 have k1:s1.k=s.k:=by rw[<-nZ];rfl
 have h0:oJ s1=oJ s:=by rw[<-nZ];exact aee ..
 have h1:=Nc (s:=s1) (c:=c) (x:=X) aa;have h2:=aef (s:=mJ s1 c X) (c:=c) (what:=1) (e:=⟨0,0,0⟩) (by show c<s1.k;omega);rw[auZ,<-e1]at h2;have h3:(mJ s1 c X).n=s1.n:=rfl;rw[h3]at h2;have h6:=ae1 s1.n<|tI (mJ s1 c X) c 1;rw[n1]at h1 h2 h6;omega
theorem arP{s:l8}{K:Nat}(hm:s.lU.length<=500)(hn:s.n<=7)(hk:s.k<=8):oJ s<=1120:=by
 have h1:=ahS s.n s.lU;have h2:∀k,vN s k<=k*15:=by
  intro k
  induction k with
  |zero=>exact ku _|succ k ih=>have:=ae1 s.n<|s.cl k;rw[vN,j9];omega
 have h3:=h2 s.k;have:s.k*15<=8*15:=fX _ hk;unfold oJ;omega
open Go Go.Extern
abbrev oD(t:Nat):Value:=.pointer (some ⟨10,t,none⟩)
section
variable{P:lY}{ρ:lB}{o:Oper}{w w':lE}{x y z:mN}{v:lH}{t t':lT}
theorem Gn{f:FuncId}{bs:List Operand}{ts:Array TypeId}{vs:mb}(ho:o.op=.call {callee:=.value (.func f),args:=bs.toArray,argTypes:=ts})(hv:bs.map (ev ρ)=vs)(hc:(callFunc f vs.toArray).run P w=.ok (.value v) w'):(execOp (ev ρ) o).run P w=.ok (.value v) w':=by simp[execOp,ho,resolve,ev,Deferred.ofValue,invoke,hv,hc]
theorem Kj{name:String}{bs:List Operand}{ts:Array TypeId}{vs:mb}{u:lH}(ho:o.op=.call {callee:=.invoke x name,args:=bs.toArray,argTypes:=ts})(hx:ev ρ x=.iface t u)(hv:bs.map (ev ρ)=vs)(hc:(callMethod (.iface t u) name vs.toArray).run P w=.ok (.value v) w'):(execOp (ev ρ) o).run P w=.ok (.value v) w':=by simp[execOp,ho,resolve,invoke,hx,hv,Array.extract_append,hc]
end
section
variable{P:lY}{N:Nat}{aBi:nI}{Q:pg}{rest:List Oper}{ρ:lB}{o:Oper}{w0 w:lE}{S:lF}{H:List lN}{d t:Nat}{cs:lW}
theorem ZZ{v:Nat->Value}(hI:ly S w0 w H)(hw:nH aBi ρ o)(hd:o.dst=some d)(hN:Nat.blt d N)(hr:(execOp (ev ρ) o).run P w=.ok (.value (v w.heap.size)) (w.alloc (.cells cs t)))
  (h:∀g w',ly S w0 w' (B g t cs::H)->WL P N aBi Q rest (upd ρ d<|v g) w'):WL P N aBi Q (o::rest) ρ w:=
 zi hw hd hN hr (h _ _<|hI.box t cs)
end
theorem ayg(a:Addr)(w:lE):(callFunc 49 #[.iface 68 (.pointer (some a))]).run prog w=.ok (.value (.agg #[oD 68,lJ w.heap.size 0,.int .u64 150])) (w.alloc (.cells #[.pointer (some a)] 68)):=ai
theorem ayb(a:Addr)(w:lE):(callFunc 50 #[.agg #[oD 68,.pointer (some a),.int .u64 150]]).run prog w=.ok (.value (.iface 177 (.agg #[oD 68]))) w:=ai
theorem ax4(w:lE):(callMethod (.iface 177 (.agg #[oD 68])) "Kind" #[]).run prog w=.ok (.value (.int .u8 22)) w:=ai
theorem axY(w:lE):(callMethod (.iface 177 (.agg #[oD 68])) "Elem" #[]).run prog w=.ok (.value (.iface 177 (.agg #[oD 36]))) w:=ai
theorem ax3(w:lE):(callMethod (.iface 177 (.agg #[oD 36])) "Kind" #[]).run prog w=.ok (.value (.int .u8 2)) w:=ai
theorem ax1(w:lE):(callMethod (.iface 177 (.agg #[oD 36])) "Implements" #[.iface 177 (.agg #[oD 32])]).run prog w=.ok (.value (.bool true)) w:=ai
theorem ayc(v:lH)(w:lE):(callFunc 80 #[.iface 36 v]).run prog w=.ok (.value (.iface 177 (.agg #[oD 36]))) w:=ai
theorem axV(w:lE):(callMethod (.iface 177 (.agg #[oD 36])) "AssignableTo" #[.iface 177 (.agg #[oD 36])]).run prog w=.ok (.value (.bool true)) w:=ai
theorem ayf(n:Int)(w:lE):(callFunc 49 #[.iface 36 (Y n)]).run prog w=.ok (.value (.agg #[oD 36,lJ w.heap.size 0,.int .u64 130])) (w.alloc (.cells #[Y n] 36)):=ai
theorem ax6(p:lH)(w:lE):(Instr.typeAssert (.iface 111 p) 32 182 true).run prog w=.ok (.tuple #[.nilIface,.bool false]) w:=_root_.Go.run_typeAssert_lacksB underlying182 ai ai p 32 w
theorem ax0(p:lH)(w:lE):(Instr.typeAssert (.iface 111 p) 32 185 true).run prog w=.ok (.tuple #[.iface 111 p,.bool true]) w:=ai
theorem ayd(p:lH)(w:lE):(callFunc 80 #[.iface 111 p]).run prog w=.ok (.value (.iface 177 (.agg #[oD 111]))) w:=ai
theorem ax7(w:lE):(callMethod (.iface 177 (.agg #[oD 111])) "AssignableTo" #[.iface 177 (.agg #[oD 36])]).run prog w=.ok (.value (.bool false)) w:=ai
theorem aye(p:lH)(w:lE):(callMethod (.iface 111 p) "Unwrap" #[]).run prog w=.ok (.enter 209 #[p]) w:=ai
theorem rlm(z:Sem Value)(f:TypeId->Addr->Nat->Nat->Sem Value)(v:lH):
  ReflectliteValue.method z f #[v]=(do match<-ReflectliteValue.parts v with|none=>z|some (t,a,fl)=>f t a fl<|fl%32):=rfl
theorem ahX(a:Addr)(w:lE):(ReflectliteValue.parts (.agg #[oD 68,.pointer (some a),.int .u64 150])).run prog w=.ok (some (68,a,150)) w:=ai
theorem ax2(a p:Addr)(W:lE)(ha:W.cell? a=some (.pointer (some p))):
  (callFunc 51 #[.agg #[oD 68,.pointer<|some a,.int .u64 150]]).run prog W=.ok (.value<|.bool false) W:=by
 rw[@gr prog 51 _ (ReflectliteValue.method (ReflectliteValue.valueError "reflectlite.Value.IsNil" 0) ReflectliteValue.isNil) func51 ai ai ai ai,rlm];simp only[ki,ahX,Result.andThen];simp[ReflectliteValue.isNil,loadVar,isAgg,underlying,underlying68,ha,Result.andThen]
theorem axX(w:lE):(Rtype.elem? 68).run prog w=.ok (some 36) w:=ai
theorem ax5(p:Addr)(w:lE):(ReflectliteValue.mk 36 p ReflectliteValue.flagAddr).run prog w=.ok (.agg #[oD 36,.pointer (some p),.int .u64 386]) w:=ai
theorem axZ(a p:Addr)(W:lE)(ha:W.cell? a=some (.pointer (some p))):
  (callFunc 81 #[.agg #[oD 68,.pointer<|some a,.int .u64 150]]).run prog W=.ok (.value<|.agg #[oD 36,.pointer<|some p,.int .u64 386]) W:=by
 rw[@gr prog 81 _ (ReflectliteValue.method (ReflectliteValue.valueError "reflectlite.Value.Elem" 0) ReflectliteValue.elem) func81 ai ai ai ai,rlm];simp only[ki,ahX,Result.andThen];simp[ReflectliteValue.elem,loadVar,isAgg,underlying,underlying68,ha,Result.andThen,axX,ax5]
theorem rls(v x:lH):ReflectliteValue.set #[v,x]=(do
  let(some (dst,a,fl),some (src,b,_)):=(<-ReflectliteValue.parts v,<-ReflectliteValue.parts x)
   |unsupported (.noEntry "extern/(internal/reflectlite.Value).Set.zeroValue")
  if fl/ReflectliteValue.flagAddr%2==0 then unsupported (.noEntry "extern/(internal/reflectlite.Value).Set.unaddressable")
  let val<-loadVar src b
  if<-Rtype.directlyAssignable dst src then storeVar dst a val
  else if<-Rtype.implements dst src then
   if(<-Rtype.kind src)==20 then
    match val with
    |.nilIface=>unsupported<|.noEntry "extern/reflectlite: a nil value of one interface type handed on as a value of another"|_=>storeVar dst a val
   else storeVar dst a (.iface src val)
  else panicString ("reflectlite.Set: value of type " ++(<-Rtype.spelt src)++ " is not assignable to type " ++(<-Rtype.spelt dst))
  pure (.tuple #[])):=rfl
theorem ax8(a:Addr)(w:lE):(ReflectliteValue.parts (.agg #[oD 36,.pointer (some a),.int .u64 386])).run prog w=.ok (some (36,a,386)) w:=ai
theorem ax9(a:Addr)(w:lE):(ReflectliteValue.parts (.agg #[oD 36,.pointer (some a),.int .u64 130])).run prog w=.ok (some (36,a,130)) w:=ai
theorem axW(w:lE):(Rtype.directlyAssignable 36 36).run prog w=.ok true w:=ai
theorem aya(ta b:Addr)(n:Int)(old:lH)(W:lE)(hb:W.cell? b=some (Y n))(ht:W.cell? ta=some old)(hf:W.frozen? ta=false):
  (callFunc 82 #[.agg #[oD 36,.pointer<|some ta,.int .u64 386],.agg #[oD 36,.pointer<|some b,.int .u64 130]]).run prog W=.ok (.value<|.tuple #[]) (W.setCell ta<|Y n):=by
 rw[@gr prog 82 _ ReflectliteValue.set func82 ai ai ai ai,rls];simp only[ki,ax8,ax9,Result.andThen];simp[ReflectliteValue.flagAddr,loadVar,isAgg,underlying,pd,hb,Result.andThen,axW,storeVar,Value.cells,storeCells,Addr.add];rw[_root_.Go.run_store prog W ta _ _ (by rfl)];simp[ht,hf]
theorem rTA{P:lY}{ρ:lB}{o:Oper}{x:mN}{s d:lT}{c:Bool}{u r:lH}(ho:o.op=.typeAssert x s d c)(hx:ev ρ x=u)(hr:(Instr.typeAssert u s d c).run P w=.ok r w):lQ P ρ o w r:=by simp[lQ,execOp,ho,hx,hr]
abbrev Dd:Nat:=111
def Iy(w:lE)(b o:Nat)(n:Int):Prop:=w.cell? ⟨b,o,none⟩=some (.int .i64 n)
theorem Iy.cell{b o:Nat}(h:Iy w b o n):w.cell? ⟨b,o,none⟩=some (Y n):=h
theorem Iy.keep{w':lE}{b o:Nat}(_:Iy w b o n)(h:w'.cell? ⟨b,o,none⟩=some (Y n)):Iy w' b o n:=h
def uU(w:lE)(v:lH)(n:Int):Prop:=v=.iface 36 (.int .i64 n)\/∃b o:Nat,v=.iface Dd (.pointer (some ⟨b,o,none⟩))/\Iy w b o n
theorem axh(b o:Nat)(n:Int)(w0:lE)(h:w0.cell? ⟨b,o,none⟩=some (Y n)):Cq 209 #[lJ b o] w0 fun en w'=>en=.returned (.iface 36 (Y n))/\Pure w0 w':=by have hI:=ly.start (fun _=>False) w0;exact Vo func209 Z<|Wq<|Vh Z<|Wn<|Wq<|V8 Z<|Ve Z<|Tq Z<|V4 (Y _) Z (hI.my h)<|T9 Z pd Z<|Vn Z<|Wn<|WR<|lV 2 Z ⟨Z,hI.pu⟩
def eμ(v:lH):Nat:=match v with
 |.iface t _=>if t=Dd then 1 else 0
 |_=>0
theorem ai3(e:lH)(n:Int)(old:lH)(tb a:Nat)(w0:lE)(he:uU w0 e n)(hB:mV w0 tb 36 #[old])(ha:w0.cell? ⟨a,0,none⟩=some (lJ tb 0))(mK:∀b o,e=.iface Dd (lJ b o)->b≠tb)(yG:a≠tb):
  Cq 52 #[e,.iface 68<|lJ tb 0,.agg #[oD 68,lJ a 0,.int .u64 150],.iface 177<|.agg #[oD 36]] w0
   fun en w'=>en=.returned (.bool true)/\ly (fun k=>k=tb) w0 w' [B tb 36 #[Y n]]:=by
 have hI:=ly.EE hB;apply Vo func52 Z;refine Wq<|Tg (.agg _) _ hI Z ?_;rintro b6 w- -hI;refine V5 Z<|Wn<|Wb ?_;refine zk (fun ρ w=>∃e,uU w0 e n/\(∀b o,e=.iface Dd (lJ b o)->b≠tb)/\lA ρ [(0,e),(1,.iface 68<|lJ tb 0),(3,.iface 177<|.agg #[oD 36]),(6,lJ b6 0)]/\ly (fun k=>k=tb) w0 w [B b6 117 #[oD 68,lJ a 0,.int .u64 150],B tb 36 #[old]]) (fun ρ _=>eμ<|ρ 0)
  ⟨e,he,mK,⟨rfl,rfl,rfl,rfl,trivial⟩,hI⟩ ?_
 clear hI he mK e;rintro ρ w ⟨e,he,mK,hH,hI⟩;obtain⟨σ,rfl⟩:=hH.open;apply Wb;rcases he with rfl|⟨bb,oo,rfl,hc⟩
 .refine Ws<|Wq<|Vs Z ?_;refine Wv Z (Gn Z Z<|ayc _ _) ?_;apply Vs Z;refine Wv Z (Kj Z Z Z<|axV _) ?_;refine Wn<|Wc true Z<|Wq<|U1 3 Z hI.g0 ?_;refine Wv Z (Gn Z Z<|axZ _ _ _<|hI.old ha yG) ?_;apply Vs Z;refine ZZ (v:=fun g=>.agg #[oD 36,lJ g 0,.int .u64 130]) hI Z Z Z (Gn Z Z<|ayf _ _) ?_;intro bv w hI;refine zi Z Z Z (Gn Z Z<|aya _ _ n old _ (hI.c0 Z) (hI.c2 Z)<|hI.f2 0) ?_;have hI:=hI.s2 0<|Y n;generalize World.setCell _ _ _=w at hI|-;refine Wn<|Wq<|V5 Z<|Wn ?_;exact WR<|lV 8 Z ⟨Z,hI.d0.d0⟩
 refine Ws<|Wq<|Vs Z ?_;refine Wv Z (Gn Z Z<|ayd _ _) ?_;apply Vs Z;refine Wv Z (Kj Z Z Z<|ax7 _) ?_;refine Wn<|Wc false Z<|Wk<|Ws<|Wq<|Vs Z ?_;refine Wv Z (rTA Z Z<|ax6 _ _) ?_;refine Vy Z<|Vi Z<|Vi Z<|Vh Z<|V5 Z<|Wn<|Wq<|V3 Z<|V3 Z<|V2 Z<|V2 Z<|V2 Z<|Va Z ?_;refine Wn<|Wc false Z<|Wk<|Wq<|Vs Z<|Wn<|Wb<|Ws<|Wr ?_;refine Wv Z (rTA Z Z<|ax0 _ _) ?_;refine Vi Z<|Vi Z<|Wn<|Wc true Z<|Wq<|Vn Z<|Wn<|Wq<|Vs Z ?_;refine z8 Z Z Z (Kh (f:=209) (vs:=[]) Z Z Z<|fun _=>aye _ _) ?_;refine(axh bb oo n _<|hI.old hc.cell<|mK bb oo Z).mono<|pJ hI fun w1 hp hI=>?_;refine Vn Z<|Wn<|Wq<|Vs Z ?_;apply Wv Z bT;refine Wn<|Wc false Z<|Wk ?_;exact⟨⟨_,.inl Z,fun b o h=>(by injection h with h;exact ll h aw),oy,hI⟩,by show 0<1;omega⟩
theorem ai2(e:lH)(n:Int)(old:lH)(tb:Nat)(w0:lE)(he:uU w0 e n)(hB:mV w0 tb 36 #[old])(hg:w0.cell? ⟨0,0,none⟩=some (.iface 177 (.agg #[oD 32])))(mK:∀b o,e=.iface Dd (lJ b o)->b≠tb)(h0:0≠tb):
  Cq 16 #[e,.iface 68<|lJ tb 0] w0 fun en w'=>en=.returned (.bool true)/\ly (fun k=>k=tb) w0 w' [B tb 36 #[Y n]]:=by
 have hI:=ly.EE hB;have sW:e≠.nilIface/\∃t u,e=.iface t u:=by rcases he with rfl|⟨b,o,rfl,_⟩<;>exact⟨aq,_,_,rfl⟩
 obtain⟨_,t,u,rfl⟩:=sW;apply Vo func16 Z;refine Wq<|V5 Z<|Wn<|Ws<|Wq<|Vs Z ?_;apply Wv Z bT;refine Wn<|Wc false Z<|Wk<|Ws<|Wq<|Vs Z ?_;apply Wv Z (by exact Q6 rfl underlying20 rfl rfl);refine Wn<|Wc false Z<|Wk<|Wq<|Vs Z ?_;refine ZZ (v:=fun g=>.agg #[oD 68,lJ g 0,.int .u64 150]) hI Z Z Z (Gn Z Z<|ayg _ _) ?_;intro bv w hI;apply T6 (.agg #[.pointer none,.pointer none,.int .u64 0]) (#[.pointer none,.pointer none,.int .u64 0]) hI Z;rintro b5 w- -hI;apply Ou (u:=.agg _) (vs:=_) (n:=3) hI Z Z Z Z Z Z ai (by rfl) (by rfl) (by rfl);intro w hI;refine Wn<|Wq<|U1 3 Z hI.g0 ?_;refine Wv Z (Gn Z Z<|ayb _ _) ?_;refine Vn Z<|Wn<|Ws<|Wq<|Vs Z ?_;refine Wv Z (Kj Z Z Z<|ax4 _) ?_;refine U3 Z<|V3 Z<|U1 3 Z hI.g0 ?_;refine Wv Z (Gn Z Z<|ax2 _ _ _<|hI.c1 Z) ?_;refine Va Z<|Wn<|Wc false Z<|Wk<|Wq<|Vs Z ?_;refine Wv Z (Kj Z Z Z<|axY _) ?_;refine Vn Z<|Wn<|Ws<|Wq<|Vs Z ?_;refine Wv Z (Kj Z Z Z<|ax3 _) ?_;refine Ug Z<|V3 Z<|Vs Z ?_;refine Wv Z (EK Z ai Z<|hI.old hg h0) ?_;refine Wv Z (Kj Z Z Z<|ax1 _) ?_;refine Th Z<|Vg Z<|Wn<|Wc false Z<|Wk<|Wq<|Vs Z<|Vs Z<|U1 3 Z hI.g0<|Vs Z<|V7 [_,_,.agg _,_] Z func52 Z ?_;refine(ai3 (.iface t u) n old tb bv _ ?_ hI.g2 (hI.c1 Z) mK ?_).mono ?_
 .rcases he with he|⟨b,o,he,hc⟩
  .exact .inl he
  exact .inr ⟨b,o,he,hc.keep<|hI.old hc.cell<|mK b o he⟩
 .exact fun e=>hI.G2 (i:=1) (j:=2) Z Z aw bv Z e
 rintro e w1 ⟨rfl,hJ⟩;apply rV;have si:ly (fun k=>k=tb) w0 w1 [B tb 36 #[Y n]]:=⟨hI.ni.trans' hJ.ni<|fun k _ hk=>hk,hJ.ok,fun e he k hk=>by rcases gF.1 he with rfl;exact .inl hk,hJ.apart⟩
 have hI:=si;refine V5 Z<|Wn ?_;exact WR<|lV 4 Z ⟨Z,hI⟩
theorem uU.pure{w':lE}{e:lH}(h:uU w e n)(hp:Pure w w'):uU w' e n:=by
 rcases h with h|⟨b,o,h,hc⟩
 .exact .inl h
 exact .inr ⟨b,o,h,hc.keep<|(ly.start (fun _=>False) w |>.pure hp).my hc.cell⟩
theorem ahn(w0:lE):Cq 7 #[.nilIface] w0 fun en w'=>en=.returned (Y 0)/\Pure w0 w':=by have hI:=ly.start (fun _=>False) w0;exact Vo func7 Z<|Wq<|Vb Z<|Wn<|Ws<|Wq<|Tb Z<|Wv Z (by exact NC rfl mY rfl)<|Yt Z<|Wq<|Vb Z<|Wn<|WR<|lV 2 Z ⟨Z,hI.pu⟩
theorem NS(e:lH)(n:Int)(w0:lE)(he:uU w0 e n)(hg:w0.cell? ⟨0,0,none⟩=some (.iface 177 (.agg #[oD 32]))):
  Cq 7 #[e] w0 fun en w'=>en=.returned (Y n)/\Pure w0 w':=by
 have hI:=ly.start (fun _=>False) w0;have sW:∃t u,e=.iface t u:=by rcases he with rfl|⟨b,o,rfl,_⟩<;>exact⟨_,_,rfl⟩
 obtain⟨t,u,rfl⟩:=sW;refine Vo func7 Z<|Wq<|Vb Z<|Wn<|Ws<|Wq<|Vs Z<|Wv Z bT<|Yf Z<|Wk<|Wq<|T6 (Y 0) (#[Y 0]) hI Z ?_;rintro b3 w- -hI;apply Wn;have Hy:w0.heap.size<=b3:=(hI.own _ (gF.2 rfl) b3 rfl).resolve_left<|fun h=>h;have azI:0<w0.heap.size:=fc w0 _ hg;refine Ws<|Wq<|Vs Z<|T9 Z underlying68 Z<|V7 [_,_] Z func16 Z<|(ai2 (.iface t u) n _ b3 _ (he.pure hI.pu) hI.g0 (hI.my hg) ?_ aa).mono ?_
 .intro b o h hb;rcases he with he|⟨b',o',he,hc⟩
  .rw[he]at h;injection h with h;exact ll h aw
  rw[he]at h;injection h with _ h;injection h with h;injection h with h;injection h with h _;have:=fc w0 _ hc.cell;simp only at this;omega
 rintro e w1 ⟨rfl,hJ⟩;apply rV;have si:ly NF w0 w1 [B b3 36 #[Y n]]:=⟨hI.ni.trans' hJ.ni (fun k hk e=>by subst e;omega),hJ.ok,fun e he k hk=>by rcases gF.1 he with rfl;have:k=b3:=hk;exact .inr aa,hJ.apart⟩
 have hI:=si;exact Yt Z<|Wq<|Yc hI Z Z<|Vb Z<|Wn<|WR<|lV 2 Z ⟨Z,hI.pu⟩
open Go.RowKit
def uT(e:lH)(n:Int):lN:=⟨fun k=>∃o:Nat,e=.iface Dd (.pointer (some ⟨k,o,none⟩)),fun w=>uU w e n⟩
theorem uU.blk{e:lH}(h:uU w e n):∀k o:Nat,e=.iface Dd (lJ k o)->k<w.heap.size:=by
 rintro k o rfl;rcases h with h|⟨b,o',h,hc⟩
 .injection h with h;exact ll h aw
 injection h with _ h;injection h with h;injection h with h;injection h with h _;subst h;exact fc w _ hc
theorem uT.ok{e:lH}(h:uU w e n):(uT e n).ok w:=by
 refine lN.C8 h (fun k hk=>?_)<|fun S w1 w2 hc hS h1=>?_
 .obtain⟨o,he⟩:=hk;exact h.blk k o he
 rcases h1 with h1|⟨b,o,h1,nU⟩
 .exact .inl h1
 exact .inr ⟨b,o,h1,(fY<|hc.block b (fc w1 _ nU)<|hS b ⟨o,h1⟩).trans nU⟩
theorem ly.err{S:lF}{w0:lE}{H:List lN}(hI:ly S w0 w H)(z:Int):ly S w0 w (uT (.iface 36 (Y z)) z::H):=hI.fresh (Pure.refl w) (uT.ok<|.inl rfl) (fun k hk=>by obtain⟨o,h⟩:=hk;injection h with h;exact ll h aw)
theorem ly.abg{S:lF}{w0:lE}{H:List lN}{b:Nat}{z i:Int}(hI:ly S w0 w (B b 113 #[Y z,Y i]::H)):ly S w0 w (uT (.iface Dd (lJ b 0)) z::H):=
 hI.u0 (e':=uT (.iface Dd (lJ b 0)) z) (mC.refl _ _) (uT.ok (.inr ⟨b,0,rfl,hI.c0 rfl⟩)) (fun k hk=>.inl (by
  obtain⟨o,h⟩:=hk;injection h with _ h;injection h with h;injection h with h;injection h with h _
  exact h.symm))
abbrev ah8(w:World):Prop:=w.cell? ⟨0,0,none⟩=some (.iface 177 (.agg #[oD 32]))
theorem ai6(z:Int)(i:Int)(w0:lE)(hg:ah8 w0):Cq 68 #[.iface 36 (Y z),Y i] w0 fun en w'=>∃e,en=.returned e/\ly NF w0 w' [uT e z]:=by have hI:=ly.start (fun _=>False) w0;refine Vo func68 Z<|Wq<|Vh Z<|Wn<|Wq<|Vs Z<|V7 [_] Z func7 Z<|(NS _ z _ (.inl Z)<|hI.my hg).mono<|pJ hI fun w1 hp hI=>V0 Z<|Tf [(0,Y _),(1,Y _)] [_,_] Z [Y 0,Y 0] [0,1] Z (fun _=>ai)<|Tg (.agg _) (#[_,_]) hI rfl ?_;rintro b9 w- -hI;exact T9 Z underlying111 Z<|Vn Z<|Wn<|WR<|lV 4 Z ⟨_,Z,hI.abg⟩
end
section
open Tryz
variable{n:Int}{l:List Ev}{c i:Nat}{w:lE}
structure pf where
 ops:List l9
 busy:Int->Option Nat
 lost:Int->Option Nat
 gone:List Bool
def sv(g:Int->Option Nat)(k:Int)(v:Option Nat):Int->Option Nat:=fun j=>if j=k then v else g j
def Ey(e:Ev)(i:Nat):l9:=⟨e.proc,e.key,e.kind,e.a,e.b,0,i, -1⟩
def Bh(e:Ev)(i:Nat)(s:pf):Option pf:=if s.busy e.proc≠none\/s.lost e.proc≠none then none else some ⟨s.ops++[Ey e i],sv s.busy e.proc<|some s.ops.length,s.lost,s.gone++[false]⟩
def FE(o:l9)(e:Ev):Prop:=o.key=e.key/\o.kind=e.kind/\o.a=e.a/\o.b=e.b
instance (o:l9) (e:Ev):Decidable (FE o e):=by unfold FE;infer_instance
def FC(o:l9)(e:Ev)(i:Nat):l9:={o with res:=e.res,ret:=i}
def xP(e:Ev)(i:Nat)(s:pf):Option pf:=match s.busy e.proc with
 |none=>none|some n=>if FE (lS s.ops n) e then some ⟨if e.ty=2 then s.ops.set n (FC (lS s.ops n) e i)else s.ops,sv s.busy e.proc none,if e.ty=4 then sv s.lost e.proc (some i)else s.lost,if e.ty=3 then s.gone.set n true else s.gone⟩else none
def yl(e:Ev)(i:Nat)(s:pf):Option pf:=if xd e=true then(if e.ty=1 then Bh e i s else xP e i s)else none
def yY:List Ev->Nat->pf->Option pf
 |[],_,s=>some s|e::r,i,s=>(yl e i s).bind<|yY r<|i+1
def BZ:pf:=⟨[],fun _=>none,fun _=>none,[]⟩
def sZ(s:pf)(k:Nat):List Nat:=(List.range k).filter fun n=> !(s.gone.getD n false)
def vK(s:pf):List l9:=(sZ s s.ops.length).map (lS s.ops)
def wv(l:List Ev):Option (List l9):=if l.length<=120 then(yY l 0 BZ).map vK else none
theorem aqA(s:pf)(k:Nat):sZ s (k+1)=sZ s k++(if s.gone.getD k false then[]else[k]):=by unfold sZ;rw[jf,List.filter_append];congr 1;rw[List.filter_cons,List.filter_nil];cases s.gone.getD k false<;>rfl
theorem asf{l r:List l9}{k:Nat}(h:k<l.length):lS (l++r) k=lS l k:=by unfold lS;rw[eu,eu,eH h]
theorem asg{l:List l9}{x:l9}:lS (l++[x]) l.length=x:=by unfold lS;rw[eu,ey<|ku _,j8];rfl
theorem ash{l:List l9}{k:Nat}{x:l9}(hk:k<l.length):lS (l.set k x) i=if k=i then x else lS l i:=by
 unfold lS;rw[eu,eu,gX];by_cases h:k=i
 .subst h;simp[hk]
 rw[lp h,lp h]
def sg(s:pf)(n:Nat):Bool:=s.gone.getD n false
structure yq(l:List Ev)(i:Nat)(s:pf):Prop where
 Bx:s.gone.length=s.ops.length
 called:∀n,n<s.ops.length->∃c:Nat,c<i/\(lS s.ops n).call=c/\∃e,l[c]?=some e/\e.ty=1/\xd e/\e.proc=(lS s.ops n).proc/\e.key=(lS s.ops n).key/\e.kind=(lS s.ops n).kind/\e.a=(lS s.ops n).a/\e.b=(lS s.ops n).b
 Rh:∀m n,m<n->n<s.ops.length->(lS s.ops m).call<(lS s.ops n).call
 ret:∀n,n<s.ops.length->((lS s.ops n).ret= -1/\(lS s.ops n).res=0)\/∃r:Nat,r<i/\(lS s.ops n).ret=r/\(lS s.ops n).call<r/\sg s n=false/\∃e,l[r]?=some e/\e.ty=2/\xd e/\e.res=(lS s.ops n).res
 once:∀m n,m<n->n<s.ops.length->(lS s.ops n).ret≠ -1->(lS s.ops m).ret≠(lS s.ops n).ret
 busy:∀p n,s.busy p=some n->n<s.ops.length/\(lS s.ops n).proc=p/\(lS s.ops n).ret= -1/\sg s n=false/\s.lost p=none
 free:∀n,n<s.ops.length->(lS s.ops n).ret= -1->sg s n=false->s.busy (lS s.ops n).proc=some n\/s.lost (lS s.ops n).proc≠none
 order:∀m n,m<n->n<s.ops.length->(lS s.ops m).proc=(lS s.ops n).proc->sg s m=false->0<=(lS s.ops m).ret/\(lS s.ops m).ret<(lS s.ops n).call
theorem agp(l:List Ev):yq l 0 BZ:=by
 refine⟨Z,?_,?_,?_,?_,?_,?_,?_⟩
 .intro n hn;exact ll hn<|ji n
 .intro m n _ hn;exact ll hn<|ji n
 .intro n hn;exact ll hn<|ji n
 .intro m n _ hn;exact ll hn<|ji n
 .intro p n hb;cases hb
 .intro n hn;exact ll hn<|ji n
 intro m n _ hn;exact ll hn<|ji n
theorem amg{s:pf}{n:Nat}(h:s.gone.length=s.ops.length):(s.gone++[false]).getD n false=sg s n:=by
 unfold sg;rw[eu,eu];rcases hU n s.gone.length with h1|h1|h1
 .rw[eH h1]
 .subst h1;rw[ey (ku _),fF<|ku _,j8];rfl
 rw[fF aF,fF aa]
theorem amh{s:pf}{n m:Nat}(h:n<s.gone.length):(s.gone.set n true).getD m false=if n=m then true else sg s m:=by
 unfold sg;rw[eu,eu,gX];by_cases h1:n=m
 .subst h1;simp[h]
 rw[lp h1,lp h1]
theorem auU{s s':pf}{e:Ev}(h:yq l i s)(he:l[i]?=some e)(mH:xd e)(oE:e.ty=1)(hs:Bh e i s=some s'):yq l (i+1) s':=by
 unfold Bh at hs;split at hs
 .cases hs
 rename_i mI;have hb:s.busy e.proc=none:=by
  cases hx:s.busy e.proc with
  |none=>rfl|some n=>exact ll (.inl<|by rw[hx];simp) mI
 have hl:s.lost e.proc=none:=by
  cases hx:s.lost e.proc with
  |none=>rfl|some n=>exact ll (.inr<|by rw[hx];simp) mI
 injection hs with hs;subst hs;have aBn:(s.ops++[Ey e i]).length=s.ops.length+1:=aq;have old:∀{n},n<s.ops.length->lS (s.ops++[Ey e i]) n=lS s.ops n:=fun hn=>asf hn;have new:lS (s.ops++[Ey e i]) s.ops.length=Ey e i:=asg;have Hs:∀n,sg ⟨s.ops++[Ey e i],sv s.busy e.proc<|some s.ops.length,s.lost,s.gone++[false]⟩ n=sg s n:=fun n=>amg h.Bx;have ame:sg s s.ops.length=false:=by unfold sg;rw[eu,fF<|by rw[h.Bx];exact ku _];rfl
 have two:∀{n},n<s.ops.length+1->n<s.ops.length\/n=s.ops.length:=fun hn=>aa;refine⟨by simp[h.Bx],?_,?_,?_,?_,?_,?_,?_⟩
 .intro n hn;rcases two bE with h1|h1
  .have⟨c,h2,h3⟩:=h.called n h1;simp only[old h1];exact⟨c,aa,h3⟩
  subst h1;simp only[new];exact⟨i,aa,rfl,e,he,oE,mH,rfl,rfl,rfl,rfl,rfl⟩
 .intro m n vf hn;rcases two bE with h1|h1
  .simp only[old h1,old<|show m<s.ops.length by omega];exact h.Rh m n vf h1
  subst h1;simp only[new,old vf];have⟨c,h2,h3,_⟩:=h.called m vf;rw[h3];show(c:Int)<(i:Int);omega
 .intro n hn;rw[Hs];rcases two bE with h1|h1
  .simp only[old h1];rcases h.ret n h1 with h2|⟨r,h2,h3⟩
   .exact .inl h2
   exact .inr ⟨r,aa,h3⟩
  subst h1;simp only[new];exact .inl ⟨Z,Z⟩
 .intro m n vf hn hr;rcases two bE with h1|h1
  .simp only[old h1,old<|show m<s.ops.length by omega]at hr|-;exact h.once m n vf h1 hr
  subst h1;simp only[new]at hr;exact ll Z hr
 .intro p n hp;rw[Hs];simp only[sv]at hp;by_cases xp:p=e.proc
  .rw[lq xp]at hp;injection hp with hp;subst hp xp;simp only[new];exact⟨aq,Z,Z,ame,hl⟩
  rw[lp xp]at hp;have⟨h1,h2⟩:=h.busy p n hp;simp only[old h1];exact⟨aF,h2⟩
 .intro n hn hr hg;rw[Hs]at hg;simp only[sv];rcases two bE with h1|h1
  .simp only[old h1]at hr|-;rcases h.free n h1 hr hg with h2|h2
   .by_cases xp:(lS s.ops n).proc=e.proc
    .rw[xp,hb]at h2;cases h2
    rw[lp xp];exact .inl h2
   exact .inr h2
  subst h1;simp only[new];exact .inl<|lq Z
 intro m n vf hn hp hg;rw[Hs]at hg;rcases two bE with h1|h1
 .simp only[old h1,old<|show m<s.ops.length by omega]at hp|-;exact h.order m n vf h1 hp hg
 subst h1;simp only[new,old vf]at hp|-;have hp:(lS s.ops m).proc=e.proc:=hp;rcases h.ret m vf with⟨h2,_⟩|⟨r,h2,h3,_⟩
 .rcases h.free m vf h2 hg with h4|h4
  .rw[hp,hb]at h4;cases h4
  rw[hp,hl]at h4;exact ll rfl h4
 rw[h3];refine⟨aa,?_⟩;show(r:Int)<(i:Int);omega
theorem auV{s s':pf}{e:Ev}(h:yq l i s)(he:l[i]?=some e)(mH:xd e)(oE:e.ty≠1)(hs:xP e i s=some s'):yq l (i+1) s':=by
 unfold xP at hs;split at hs
 .cases hs
 rename_i n hb;split at hs;rotate_left
 .cases hs
 rename_i wA;injection hs with hs;subst hs;have⟨hn,Jq,Mz,hng,uL⟩:=h.busy e.proc n hb;have aoX:n<s.gone.length:=by rw[h.Bx];exact hn
 obtain⟨O,hO⟩:∃O,O=(if e.ty=2 then s.ops.set n (FC (lS s.ops n) e i)else s.ops):=⟨_,rfl⟩
 obtain⟨G,hG⟩:∃G,G=(if e.ty=3 then s.gone.set n true else s.gone):=⟨_,rfl⟩
 obtain⟨Lo,Pn⟩:∃Lo,Lo=(if e.ty=4 then sv s.lost e.proc (some i)else s.lost):=⟨_,rfl⟩
 rw[<-hO,<-hG,<-Pn];have Dc:O.length=s.ops.length:=by rw[hO];split<;>simp
 have Bx:G.length=s.ops.length:=by rw[hG];split<;>simp[h.Bx]
 have XF:∀m,lS O m=if e.ty=2/\n=m then FC (lS s.ops n) e i else lS s.ops m:=by
  intro m;rw[hO];by_cases h2:e.ty=2
  .rw[lq h2,ash hn];by_cases x8:n=m
   .rw[lq x8,lq ⟨h2,x8⟩]
   rw[lp x8,lp<|fun hh=>x8 hh.2]
  rw[lp h2,lp<|fun hh=>h2 hh.1]
 have O7:∀m,G.getD m false=if e.ty=3/\n=m then true else sg s m:=by
  intro m;rw[hG];by_cases h2:e.ty=3
  .rw[lq h2,amh aoX];by_cases x8:n=m
   .rw[lq x8,lq ⟨h2,x8⟩]
   rw[lp x8,lp<|fun hh=>x8 hh.2]
  rw[lp h2,lp<|fun hh=>h2 hh.1];rfl
 have abM:∀m,G.getD m false=false->sg s m=false:=by
  intro m hm;rw[O7]at hm;split at hm
  .cases hm
  exact hm
 have stay:∀m,(lS O m).proc=(lS s.ops m).proc/\(lS O m).key=(lS s.ops m).key/\(lS O m).kind=(lS s.ops m).kind/\(lS O m).a=(lS s.ops m).a/\(lS O m).b=(lS s.ops m).b/\(lS O m).call=(lS s.ops m).call:=by
  intro m;rw[XF];split
  .rename_i hh;obtain⟨_,rfl⟩:=hh;exact⟨rfl,rfl,rfl,rfl,rfl,rfl⟩
  exact⟨Z,Z,Z,Z,Z,Z⟩
 have Ko:∀m,(lS O m).ret=if e.ty=2/\n=m then(i:Int)else(lS s.ops m).ret:=by intro m;rw[XF];split<;>rfl
 have auk:∀m,(lS O m).res=if e.ty=2/\n=m then e.res else(lS s.ops m).res:=by intro m;rw[XF];split<;>rfl
 have afY:∀m,m<s.ops.length->(lS s.ops m).ret<i:=by
  intro m hm;rcases h.ret m hm with⟨h2,_⟩|⟨r,h2,h3,_⟩
  .rw[h2];omega
  rw[h3];omega
 have qT:∀p m,s.busy p=some m->p≠e.proc->m≠n:=fun p m hp xp vf=>by subst vf;exact xp<|(h.busy p m hp).2.1.symm.trans Jq
 refine⟨by rw[Bx,Dc],?_,?_,?_,?_,?_,?_,?_⟩
 .intro m hm;simp only at hm|-;rw[Dc]at hm;have⟨s1,s2,s3,s4,s5,s6⟩:=stay m;have⟨c,h2,h3⟩:=h.called m hm;rw[s1,s2,s3,s4,s5,s6];exact⟨c,aa,h3⟩
 .intro m k Mr hk;simp only at hk|-;rw[Dc]at hk;rw[(stay m).2.2.2.2.2,(stay k).2.2.2.2.2];exact h.Rh m k Mr hk
 .intro m hm;simp only at hm;rw[Dc]at hm;have CP:sg ⟨O,sv s.busy e.proc none,Lo,G⟩ m=G.getD m false:=rfl;simp only[Ko,auk,(stay m).2.2.2.2.2,CP,O7];by_cases h2:e.ty=2/\n=m
  .simp only[lq h2];obtain⟨h2,rfl⟩:=h2;have⟨c,h5,h6,_⟩:=h.called n hn;refine .inr ⟨i,aa,rfl,by rw[h6];omega,?_,e,he,h2,mH,rfl⟩;rw[lp (fun hh=>by rw[h2]at hh;exact ll hh.1 aw)];exact hng
  simp only[lp h2];rcases h.ret m hm with h3|⟨r,h3,h4,h5,h6,h7⟩
  .exact .inl h3
  refine .inr ⟨r,aa,h4,h5,?_,h7⟩;rw[lp (fun hh=>by obtain⟨_,rfl⟩:=hh;rw[Mz]at h4;omega)];exact h6
 .intro m k Mr hk;simp only at hk;rw[Dc]at hk;simp only[Ko];intro hr;have hm:m<s.ops.length:=aa;have r1:=afY m hm;have r2:=afY k hk;by_cases nO:e.ty=2/\n=k
  .rw[lq nO,lp (fun hh=>by have:=hh.2;have:=nO.2;omega)];omega
  rw[lp nO]at hr|-;by_cases rK:e.ty=2/\n=m
  .rw[lq rK];omega
  rw[lp rK];exact h.once m k Mr hk hr
 .intro p m hp;simp only[sv]at hp;by_cases xp:p=e.proc
  .rw[lq xp]at hp;cases hp
  rw[lp xp]at hp;have⟨h1,h2,h3,h4,h5⟩:=h.busy p m hp;have vf:=qT p m hp xp;have CP:sg ⟨O,sv s.busy e.proc none,Lo,G⟩ m=G.getD m false:=rfl;simp only[CP,O7,Ko,(stay m).1];rw[lp (fun hh=>vf hh.2.symm),lp<|fun hh=>vf hh.2.symm];refine⟨by show m<O.length;rw[Dc];exact h1,h2,h3,h4,?_⟩;show Lo p=none;rw[Pn];split
  .unfold sv;rw[lp xp];exact h5
  exact h5
 .intro m hm hr hg;simp only at hm hr|-;rw[Dc]at hm;have CP:sg ⟨O,sv s.busy e.proc none,Lo,G⟩ m=G.getD m false:=rfl;rw[CP]at hg;rw[(stay m).1];have aom:=abM m hg;by_cases vf:n=m
  .subst vf;have h2:e.ty≠2:=fun hh=>by rw[Ko,lq ⟨hh,rfl⟩]at hr;omega
   have h3:e.ty≠3:=fun hh=>by rw[O7,lq ⟨hh,rfl⟩]at hg;cases hg
   have h4:e.ty=4:=by unfold xd qG at mH;simp at mH;omega
   refine .inr ?_;show Lo (lS s.ops n).proc≠none;rw[Pn,lq h4,Jq];unfold sv;rw[lq rfl];simp
  rw[Ko,lp<|fun hh=>vf hh.2]at hr;rcases h.free m hm hr aom with h5|h5
  .by_cases xp:(lS s.ops m).proc=e.proc
   .rw[xp,hb]at h5;injection h5 with h5;exact ll h5 vf
   left;unfold sv;rw[lp xp];exact h5
  right;show Lo _≠none;rw[Pn];split
  .unfold sv;split
   .simp
   exact h5
  exact h5
 intro m k Mr hk hp hg;simp only at hk hp|-;rw[Dc]at hk;have CP:sg ⟨O,sv s.busy e.proc none,Lo,G⟩ m=G.getD m false:=rfl;rw[CP]at hg;rw[(stay m).1,(stay k).1]at hp;have h1:=h.order m k Mr hk hp<|abM m hg;rw[Ko,(stay k).2.2.2.2.2];rw[lp (fun hh=>by obtain⟨_,rfl⟩:=hh;rw[Mz]at h1;omega)];exact h1
theorem agq{s s':pf}{e:Ev}(h:yq l i s)(hi:l[i]?=some e)(hs:yl e i s=some s'):yq l (i+1) s':=by
 unfold yl at hs;split at hs
 .rename_i mH;split at hs
  .rename_i oE;exact auU h hi mH oE hs
  rename_i oE;exact auV h hi mH oE hs
 cases hs
theorem agb{l:List Ev}:∀(r r':List Ev) (i:Nat) (s s':pf),l.drop i=r++r'->yq l i s->yY r i s=some s'->yq l (i+r.length) s'
 |[],r',i,s,s',_,h,hr=>by simp only[yY,ia]at hr;subst hr;exact h
 |e::r,r',i,s,s',hd,h,hr=>by
  have hi:l[i]?=some e:=by have:=kY (fun x=>x[0]?) hd;simpa using this
  have Mh:l.drop (i+1)=r++r':=by have:=kY List.tail hd;simpa using this
  rw[yY]at hr;cases hs:yl e i s with
  |none=>rw[hs]at hr;cases hr
  |some s1=>rw[hs]at hr;have hr:yY r (i+1) s1=some s':=hr;have h1:yq l (i+1) s1:=agq h hi hs;have:=agb r r' (i+1) s1 s' Mh h1 hr;rw[ix,show i+(r.length+1)=i+1+r.length by omega];exact this
theorem alB{out:List l9}(h:wv l=some out):∃s,l.length<=120/\yY l 0 BZ=some s/\yq l l.length s/\out=vK s:=by
 unfold wv at h;split at h;rotate_left
 .cases h
 rename_i I9;cases hr:yY l 0 BZ with
 |none=>rw[hr]at h;cases h
 |some s=>rw[hr]at h;injection h with h;have:=agb (l:=l) l [] 0 BZ s aq (agp l) hr;rw[kg]at this;exact⟨s,I9,Z,this,h.symm⟩
open Go.RowKit
abbrev Zy(w:World):Prop:=w.cell? ⟨0,0,none⟩=some (.iface 177 (.agg #[oD 32]))
end
end Go.Proofs.YtfjcghhjlmfggaaGreatDoor
