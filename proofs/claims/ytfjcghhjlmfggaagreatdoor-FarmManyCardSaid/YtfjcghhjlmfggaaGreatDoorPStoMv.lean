/- FarmMany: lemmas. -/
import Derived.Scope
import Derived.Test.YtfjcghhjlmfggaaGreatDoorPGlob
import Derived.Deep.Upon
set_option linter.defProp false
set_option linter.unusedSectionVars false
set_option linter.unusedVariables false
set_option linter.unusedSimpArgs false
set_option maxHeartbeats 4000000
namespace Go.Proofs.YtfjcghhjlmfggaaGreatDoor
theorem bH{p:Prop}(h:p:=by simp[hx]):p:=h
theorem aB{p:Prop}(h:p:=by simp[Op.equalIn,run_underlying ht]):p:=h
theorem cS{p:Prop}(h:p:=by simp[he]):p:=h
theorem dm{p:Prop}(h:p:=by simp[hm];omega):p:=h
theorem aQ{p:Prop}(h:p:=by rw[List.length_append,List.length_take,Array.length_toList,uL];omega):p:=h
theorem az{p:Prop}(h:p:=by rw[Nat.zero_add,List.getElem?_toArray];exact hk):p:=h
theorem dO{p:Prop}(h:p:=by exact hI.qP):p:=h
theorem aJ{p:Prop}(h:p:=by rw[<-nZ];rfl):p:=h
def gM:=@Go.grownCap_le_maxLen
def il:=@Go.IntKind.wrap_i64
def kC:=@Go.grownCap_ge
section
open Tryz
open Go
variable{l xs:mb}{b base c e i j k n s:Nat}{S:lF}{y:mN}{A:lO}{t:lT}{u v:lH}{w w0:lE}
theorem Dj{P:lY}{r:Nat}{es:Array MapEntry}(h:w.heap[r]?=some (.map es c)):(getObj r).run P w=.ok (.map es c) w:=by simp[getObj,Sem.run,h]
def zP(w:lE)(r:Nat)(o:Obj):World:={w with heap:=w.heap.setIfInBounds r o}
theorem NH{P:lY}{r:Nat}{es:Array MapEntry}(o:Obj)(h:w.heap[r]?=some (.map es c)):(setObj r o).run P w=.ok () (zP w r o):=by simp[setObj,Sem.run,h,zP]
def Co(es:List MapEntry)(m:List (Int×Value)):Prop:=es.map (fun e=>(e.key,e.val))=m.map (fun p=>(Value.int .i64 p.1,p.2))
theorem Co.len{es:List MapEntry}{m:List (Int×Value)}(h:Co es m):es.length=m.length:=by have:=kY List.length h;simpa using this
theorem OZ{q:IntKind}{a:Int}:∀(es:List MapEntry) (m:List (Int×Value)) (i:Nat),Co es m->
  ((∀p∈m,p.1≠a)/\Instr.findNow (.int q) (Y a) es i=some none)\/∃j v,m[j]?=some (a,v)/\Instr.findNow (.int q) (Y a) es i=some (some (i+j,v))
 |[],[],i,_=>.inl ⟨aq,rfl⟩|[],_::_,i,h=>by simp[Co]at h
 |_::_,[],i,h=>by simp[Co]at h
 |e::es,p::m,i,h=>by
  simp only[Co,jL,iV,jP]at h;obtain⟨⟨h1,h2⟩,h3⟩:=h;by_cases hp:p.1=a
  .refine .inr ⟨0,p.2,by rw[<-hp];rfl,?_⟩;simp[Instr.findNow,h1,Instr.sameNow,hp,h2]
  have mK:(a==p.1)=false:=by simpa using fun e=>hp e.symm
  rcases OZ es m (i+1) h3 with⟨g1,g2⟩|⟨j,v,g1,g2⟩
  .refine .inl ⟨fun x hx=>?_,?_⟩
   .rcases jM.1 hx with rfl|hx
    .exact hp
    exact g1 x hx
   simp only[Instr.findNow,h1,Instr.sameNow,lj,mK];exact g2
  refine .inr ⟨j+1,v,by simpa using g1,?_⟩;simp only[Instr.findNow,h1,Instr.sameNow,lj,mK];rw[g2,show i+1+j=i+(j+1) by omega]
structure AZ(w:lE)(b:Nat)(g:Int->Option Value):Prop where
 ex:∃(es:Array MapEntry) (sR:Nat) (m:List (Int×Value)),w.heap[b]?=some (.map es sR)/\Co es.toList m/\(m.map (·.1)).Nodup/\∀a v,(a,v)∈m↔g a=some v
def sP(b:Nat)(g:Int->Option Value):lN:=⟨fun k=>k=b,fun w=>AZ w b g⟩
theorem sP.ok{g:Int->Option Value}(h:AZ w b g):(sP b g).ok w:=by
 refine lN.C8 h (fun k hk=>?_)<|fun S w1 w2 hc hS h1=>?_
 .have⟨es,sR,m,h1,_⟩:=h.ex;have:k=b:=hk;subst this;rcases j6 k w.heap.size with h2|h2
  .exact h2
  simp[fg h2]at h1
 have⟨es,sR,m,h2,h3⟩:=h1.ex;have lX:b<w1.heap.size:=by
  rcases j6 b w1.heap.size with h4|h4
  .exact h4
  simp[fg h4]at h2
 exact⟨es,sR,m,(hc.block b lX<|hS b Z).trans h2,h3⟩
theorem key_inj{m:List (Int×Value)}(hn:(m.map (·.1)).Nodup){a:Int}(hi:m[i]?=some (a,u))(hj:m[j]?=some (a,v)):i=j:=by
 have h1:(m.map (·.1))[i]?=some a:=by simp[hi]
 have h2:(m.map (·.1))[j]?=some a:=by simp[hj]
 exact(List.getElem?_inj (oS h1).1 hn).1<|h1.trans h2.symm
theorem Mk{o:Obj}(h:b<w.heap.size):(zP w b o).heap[b]?=some o:=by simp[zP,h]
theorem SU(w:lE)(b:Nat)(o:Obj):mC (fun k=>k=b) w (zP w b o):=
 ⟨rfl,rfl,rfl,by simp[zP],fun k hk hs=>by
  have:b≠k:=fun e=>hs e.symm
  simp[zP,dZ,this]⟩
section
variable{P:lY}{N:Nat}{aBi:nI}{Q:pg}{rest:List Oper}{ρ:lB}{o:Oper}{w0 w w':lE}{S:lF}{H:List lN}{d t kt et b:Nat}{q:IntKind}{g:Int->Option Value}{x y z:mN}{a:Int}{v zv:lH}
theorem ZX(hI:ly S w0 w H)(hw:nH aBi ρ o)(hd:o.dst=some d)(hN:Nat.blt d N)(ho:o.op=.makeMap t none)
  (h:∀b w',ly S w0 w' (sP b (fun _=>none)::H)->WL P N aBi Q rest (upd ρ d<|.map<|some b) w'):WL P N aBi Q (o::rest) ρ w:=
 zi hw hd hN (v:=.map<|some w.heap.size) (w':=w.alloc<|.map #[] 0) (by simp[execOp,ho,Instr.makeMap])
  (h _ _<|hI.fresh ((Pure.refl w).alloc _) (sP.ok ⟨#[],0,[],by show(w.heap.push _)[w.heap.size]?=_;simp,rfl,aq,aq⟩) (fun k hk=>by have:k=w.heap.size:=hk;omega))
theorem SS{em:Bool}(hk:P.underlying kt=some (.int q)):(Instr.checkKey em 10000 kt (Y a)).run P w=.ok () w:=by show(Instr.checkKey em (Nat.succ 9999) kt<|Y a).run P w=.ok () w;rw[Instr.checkKey];simp[jD hk]
theorem X7(ho:o.op=.lookup t x y true)(ht:P.underlying t=some (.map kt et))(hk:P.underlying kt=some (.int q))(hz:(P.info? et).bind (·.zero)=some zv)(hx:ev ρ x=.map (some b))(hy:ev ρ y=Y a)(hM:AZ w b g):
  lQ P ρ o w (.tuple #[(g a).getD zv,.bool (g a).isSome]):=by
 have⟨es,sR,m,h1,h2,h3,h4⟩:=hM.ex;have MY:(zeroValue et).run P w=.ok zv w:=by
  cases hi:P.info? et with
  |none=>simp[hi]at hz|some i=>simp only[hi,iI]at hz;simp[zeroValue,typeInfo,hi,hz]
 have hc:=SS (P:=P) (w:=w) (a:=a) (em:=es.isEmpty) hk;rcases OZ (q:=q) (a:=a) es.toList m 0 h2 with⟨g1,g2⟩|⟨j,u,g1,g2⟩
 .have hg:g a=none:=by
   cases Hr:g a with
   |none=>rfl|some u=>exact ll rfl<|g1 _<|(h4 a u).2 Hr
  simp[lQ,execOp,ho,hx,hy,Instr.lookup,jD ht,Dj h1,hc,Instr.findKey,jD hk,g2,MY,hg]
 have hg:g a=some u:=(h4 a u).1<|mZ g1;simp[lQ,execOp,ho,hx,hy,Instr.lookup,jD ht,Dj h1,hc,Instr.findKey,jD hk,g2,hg]
theorem auH(ho:o.op=.mapUpdate t x y z)(ht:P.underlying t=some (.map kt et))(hk:P.underlying kt=some (.int q))(hx:ev ρ x=.map (some b))(hy:ev ρ y=Y a)(hz:ev ρ z=v)(hM:AZ w b g):
  ∃o',(execOp (ev ρ) o).run P w=.ok .skip (zP w b o')/\AZ (zP w b o') b (fun i=>if i=a then some v else g i):=by
 have⟨es,sR,m,h1,h2,h3,h4⟩:=hM.ex;have lX:b<w.heap.size:=by
  rcases j6 b w.heap.size with h5|h5
  .exact h5
  simp[fg h5]at h1
 have hc:=SS (P:=P) (w:=w) (a:=a) (em:=false) hk;rcases OZ (q:=q) (a:=a) es.toList m 0 h2 with⟨g1,g2⟩|⟨j,u,g1,g2⟩
 .refine⟨.map (es.push {key:=Y a,val:=v,born:=sR})<|sR+1,?_,?_⟩
  .simp[execOp,ho,hx,hy,hz,Instr.mapUpdate,jD ht,Dj h1,hc,Instr.findKey,jD hk,g2,NH _ h1]
  refine⟨_,_,m++[(a,v)],Mk lX,?_,?_,fun i u=>?_⟩
  .unfold Co at h2|-;simp[h2]
  .rw[jb,List.nodup_append];refine⟨h3,aq,fun i hi j hj=>?_⟩;simp only[jL,jX,gF]at hj;obtain⟨p,hp,rfl⟩:=jZ.1 hi;rw[hj];exact g1 p hp
  rw[jc,gF];by_cases um:i=a
  .subst um;rw[lq rfl];constructor
   .rintro(hh|hh)
    .exact ll Z<|g1 _ hh
    injection hh with _ hh;rw[hh]
   intro hh;injection hh with hh;exact .inr (by rw[hh])
  rw[lp um,<-h4];constructor
  .rintro(hh|hh)
   .exact hh
   injection hh with hh _;exact ll hh um
  exact .inl
 have BN:=(oS g1).1;have aBn:=h2.len;have hej:∃e,es[j]?=some e/\e.key=Y a:=by have xl:j<es.toList.length:=aa;refine⟨es.toList[j],aq,?_⟩;have:=kY (fun l=>l[j]?) h2;simp only[gW,g1,nM xl,jk,ia,jP]at this;exact this.1
 obtain⟨e,he,hek⟩:=hej;refine⟨.map (es.modify j fun e=>{e with key:=Y a,val:=v}) sR,?_,?_⟩
 .have mo:(Instr.keyThatStays (Y a)<|Y a).run P w=.ok (Y a) w:=by simp[Instr.keyThatStays,Instr.sameBits]
  simp[execOp,ho,hx,hy,hz,Instr.mapUpdate,jD ht,Dj h1,hc,Instr.findKey,jD hk,g2,he,hek,mo,NH _ h1]
 refine⟨_,_,m.set j (a,v),Mk lX,?_,?_,fun i u'=>?_⟩
 .unfold Co at h2|-;refine gS fun i=>?_;have hi:=kY (fun l=>l[i]?) h2;simp only[gW,fx,fw,gX]at hi|-;by_cases sX:j=i
  .subst sX;simp[he,BN]
  simp only[sX,kZ];exact hi
 .rw[jY];have:(m.map (·.1)).set j a=m.map (·.1):=by
   refine gS fun i=>?_;rw[gX];by_cases sX:j=i
   .subst sX;have hmj:=(oS g1).2;simp[BN,hmj]
   simp[sX]
  simpa[this]using h3
 have key:(i,u')∈m.set j (a,v)↔(i=a/\u'=v)\/(i≠a/\(i,u')∈m):=by
  constructor
  .intro hm;have⟨k,nY⟩:=fR hm;rw[gX]at nY;by_cases qE:j=k
   .rw[lq qE,lq BN]at nY;injection nY with nY;injection nY with e1 e2;exact .inl ⟨e1.symm,e2.symm⟩
   rw[lp qE]at nY;refine .inr ⟨fun e1=>qE ?_,mZ nY⟩;subst e1;exact key_inj h3 g1 nY
  rintro(⟨rfl,rfl⟩|⟨mK,hm⟩)
  .exact mZ (i:=j) (by rw[gX,lq rfl,lq BN])
  have⟨k,nY⟩:=fR hm;have qE:j≠k:=fun e1=>by subst e1;rw[g1]at nY;injection nY with nY;injection nY with e1 _;exact mK e1.symm
  exact mZ (i:=k) (by rw[gX,lp qE];exact nY)
 rw[key];by_cases um:i=a
 .rw[lq um];simp[um,eq_comm]
 rw[lp um,<-h4];simp[um]
theorem ZV(i:Nat)(hi:H[i]?=some (sP b g))(hI:ly S w0 w H)(hw:nH aBi ρ o)(hd:o.dst=none)(ho:o.op=.mapUpdate t x y z)(ht:P.underlying t=some (.map kt et))(hk:P.underlying kt=some (.int q))(hx:ev ρ x=.map (some b))(hy:ev ρ y=Y a)(hz:ev ρ z=v)
  (h:∀w',ly S w0 w' (H.set i<|sP b<|fun j=>if j=a then some v else g j)->WL P N aBi Q rest ρ w'):WL P N aBi Q (o::rest) ρ w:=by
 have hM:AZ w b g:=(hI.ok _<|mZ hi).1;have⟨o',h1,h2⟩:=auH (P:=P) ho ht hk hx hy hz hM;exact IQ hw hd h1<|h _<|hI.upd i hi (SU w b o') (sP.ok h2)<|fun _ hk=>.inl hk
theorem auG(ho:o.op=.call {callee:=.builtin .delete,args:= #[x,y],argTypes:= #[t,kt]})(ht:P.underlying t=some (.map kt et))(hk:P.underlying kt=some (.int q))(hx:ev ρ x=.map (some b))(hy:ev ρ y=Y a)(hM:AZ w b g):
  ∃o',(execOp (ev ρ) o).run P w=.ok (.value<|.tuple #[]) (zP w b o')/\AZ (zP w b o') b (fun i=>if i=a then none else g i):=by
 have⟨es,sR,m,h1,h2,h3,h4⟩:=hM.ex;have lX:b<w.heap.size:=by
  rcases j6 b w.heap.size with h5|h5
  .exact h5
  simp[fg h5]at h1
 have hc:=SS (P:=P) (w:=w) (a:=a) (em:=es.isEmpty) hk;rcases OZ (q:=q) (a:=a) es.toList m 0 h2 with⟨g1,g2⟩|⟨j,u,g1,g2⟩
 .refine⟨.map es sR,?_,_,_,m,Mk lX,h2,h3,fun i u=>?_⟩
  .simp[execOp,ho,resolve,invoke,builtin,hx,hy,Builtin.delete_,jD ht,Dj h1,hc,Instr.findKey,jD hk,g2,NH _ h1]
  by_cases um:i=a
  .rw[lq um];constructor
   .intro hh;exact ll um<|g1 _ hh
   intro hh;cases hh
  rw[lp um];exact h4 i u
 have BN:=(oS g1).1;have aBn:=h2.len;have VO:j<es.size:=by
  have:es.size=m.length:=by simpa using aBn
  omega
 refine⟨.map (es.eraseIdxIfInBounds j) sR,?_,_,_,m.eraseIdx j,Mk lX,?_,?_,fun i u'=>?_⟩
 .simp[execOp,ho,resolve,invoke,builtin,hx,hy,Builtin.delete_,jD ht,Dj h1,hc,Instr.findKey,jD hk,g2,NH _ h1]
 .unfold Co at h2|-;have:(es.eraseIdxIfInBounds j).toList=es.toList.eraseIdx j:=by simp[Array.eraseIdxIfInBounds,VO]
  rw[this];simp only[dV,jb,List.map_take,List.map_drop,h2]
 .exact(List.Sublist.map _<|fE ..).nodup h3
 rw[List.mem_eraseIdx_iff_getElem?];by_cases um:i=a
 .rw[lq um];constructor
  .rintro⟨k,hkj,nY⟩;subst um;exact ll (key_inj h3 g1 nY)<|fun e1=>hkj e1.symm
  intro hh;cases hh
 rw[lp um,<-h4];constructor
 .rintro⟨k,_,nY⟩;exact mZ nY
 intro hm;have⟨k,nY⟩:=fR hm;exact⟨k,fun e1=>by subst e1;rw[g1]at nY;injection nY with nY;injection nY with e1 _;exact um e1.symm,nY⟩
theorem aiF(i:Nat)(hi:H[i]?=some (sP b g))(hI:ly S w0 w H)(hw:nH aBi ρ o)(hd:o.dst=none)(ho:o.op=.call {callee:=.builtin .delete,args:= #[x,y],argTypes:= #[t,kt]})(ht:P.underlying t=some (.map kt et))(hk:P.underlying kt=some (.int q))(hx:ev ρ x=.map (some b))(hy:ev ρ y=Y a)
  (h:∀w',ly S w0 w' (H.set i<|sP b<|fun j=>if j=a then none else g j)->WL P N aBi Q rest ρ w'):WL P N aBi Q (o::rest) ρ w:=by
 have hM:AZ w b g:=(hI.ok _<|mZ hi).1;have⟨o',h1,h2⟩:=auG (P:=P) ho ht hk hx hy hM;exact aiC hw hd h1<|h _<|hI.upd i hi (SU w b o') (sP.ok h2)<|fun _ hk=>.inl hk
end
open Go
section
variable{P:lY}{ρ:lB}{o:Oper}{w:lE}{x y z:mN}{v:lH}{t t':lT}
end
open Go
section
variable{P:lY}{N:Nat}{aBi:nI}{Q:pg}{rest:List Oper}{ρ:lB}{o:Oper}{w0 w w':lE}{S:lF}{H:List lN}{d g t tt:Nat}{cs:lW}{v:lH}
theorem GV{x:mN}{vs cs':lW}(i:Nat)(hi:H[i]?=some (B g t cs))(hI:ly S w0 w H)(hw:nH aBi ρ o)(hd:o.dst=none)(ho:o.op=.store tt x y)(hx:ev ρ x=lJ g j)(hy:ev ρ y=u)(hu:u.cells=vs)
  (hs:pq P tt n) (hn:vs.size=n) (hj:j+n<=cs.size) (h1:vs.toList.all (·.oneCell')) (hc:sd cs j vs.toList=cs') (h:∀w',ly S w0 w' (H.set i<|B g t cs')->WL P N aBi Q rest ρ w'):WL P N aBi Q (o::rest) ρ w:=by
 have hB:mV w g t cs:=(hI.ok _<|mZ hi).1;subst hc;exact IQ hw hd (run_store ho hx hy hu hs hn hB hj h1)<|h _<|hI.upd i hi (mC.setCells (S:=(B g t cs).D) (b:=g) (.inl Z) _ _<|mC.refl (B g t cs).D w) (B.ok<|hB.setCells _ _)<|fun _ hk=>.inl hk
end
open Go
def lN.nil:lN:=⟨fun _=>False,fun _=>True⟩
theorem lN.XA(w:lE):lN.nil.ok w:=⟨trivial,fun _ h=>h.elim,fun _ _ _ _ _ _=>trivial⟩
def Sr(n:Nat)(es:Nat->lN):Prop:=∀i j,i<n->j<n->i≠j->∀k,(es i).D k->¬(es j).D k
def np(n:Nat)(es:Nat->lN):lN:=⟨fun k=>∃i,i<n/\(es i).D k,fun w=>(∀i,i<n->(es i).ok w)/\Sr n es⟩
theorem np.ok{es:Nat->lN}(h:∀i,i<n->(es i).ok w)(ha:Sr n es):(np n es).ok w:=⟨⟨h,ha⟩,fun k ⟨i,hi,hk⟩=>(h i hi).2.1 k hk,fun S w1 w2 hc hS h1=>⟨fun i hi=>(h1.1 i hi).ni hc<|fun k hk=>hS k ⟨i,hi,hk⟩,ha⟩⟩
section
variable{S:lF}{w0 w:lE}{H:List lN}{e:lN}{n i:Nat}{es:Nat->lN}
theorem ly.arz(h:ly S w0 w H)(es:Nat->lN):ly S w0 w (np 0 es::H):=h.fresh (Pure.refl w) (np.ok (fun i hi=>ll hi<|ji i)<|fun i j hi=>ll hi<|ji i) (fun k hk=>by obtain⟨i,hi,_⟩:=hk;exact ll hi<|ji i)
theorem ly.ad6(h:ly S w0 w (np n es::H))(hi:i<n):ly S w0 w (es i::np n (fun j=>if j=i then lN.nil else es j)::H):=by
 have hm:=h.ok (np n es) aq;have hp:=gG.1 h.apart;have hD:∀k,(np n<|fun j=>if j=i then lN.nil else es j).D k->(np n es).D k/\¬(es i).D k:=by
  rintro k ⟨j,hj,hk⟩;by_cases pT:j=i
  .simp only[lq pT]at hk;exact hk.elim
  simp only[lp pT]at hk;exact⟨⟨j,hj,hk⟩,hm.1.2 j i hj hi pT k hk⟩
 refine⟨h.ni,fun x hx=>?_,fun x hx k hk=>?_,gG.2 ⟨fun x hx k hk Ep=>?_,gG.2 ⟨fun x hx k hk=>hp.1 x hx k (hD k hk).1,hp.2⟩⟩⟩
 .rcases jM.1 hx with rfl|hx
  .exact hm.1.1 i hi
  rcases jM.1 hx with rfl|hx
  .refine np.ok (fun j hj=>?_)<|fun a b ha hb qU k h1 h2=>?_
   .by_cases pT:j=i
    .simp only[lq pT];exact lN.XA w
    simp only[lp pT];exact hm.1.1 j hj
   by_cases yF:a=i
   .simp only[lq yF]at h1;exact h1.elim
   by_cases ui:b=i
   .simp only[lq ui]at h2;exact h2.elim
   simp only[lp yF]at h1;simp only[lp ui]at h2;exact hm.1.2 a b ha hb qU k h1 h2
  exact h.ok x bH
 .rcases jM.1 hx with rfl|hx
  .exact h.own (np n es) aq k ⟨i,hi,hk⟩
  rcases jM.1 hx with rfl|hx
  .exact h.own (np n es) aq k (hD k hk).1
  exact h.own x bH k hk
 rcases jM.1 hx with rfl|hx
 .exact(hD k Ep).2 hk
 exact hp.1 x hx k ⟨i,hi,hk⟩ Ep
theorem ly.Xq(h:ly S w0 w (e::np n es::H))(hi:i<n)(hn:es i=lN.nil):ly S w0 w (np n (fun j=>if j=i then e else es j)::H):=by
 have hm:=h.ok (np n es) aq;have he:=h.ok e aq;have hp:=gG.1 h.apart;have wG:=gG.1 hp.2;have hD:∀k,(np n<|fun j=>if j=i then e else es j).D k->e.D k\/(np n es).D k:=by
  rintro k ⟨j,hj,hk⟩;by_cases pT:j=i
  .simp only[lq pT]at hk;exact .inl hk
  simp only[lp pT]at hk;exact .inr ⟨j,hj,hk⟩
 have CJ:Sr n (fun j=>if j=i then e else es j):=by
  intro a b ha hb qU k h1 h2;by_cases yF:a=i
  .by_cases ui:b=i
   .exact qU<|yF.trans ui.symm
   simp only[lq yF]at h1;simp only[lp ui]at h2;exact hp.1 (np n es) aq k h1 ⟨b,hb,h2⟩
  by_cases ui:b=i
  .simp only[lp yF]at h1;simp only[lq ui]at h2;exact hp.1 (np n es) aq k h2 ⟨a,ha,h1⟩
  simp only[lp yF]at h1;simp only[lp ui]at h2;exact hm.1.2 a b ha hb qU k h1 h2
 refine⟨h.ni,fun x hx=>?_,fun x hx k hk=>?_,gG.2 ⟨fun x hx k hk=>?_,wG.2⟩⟩
 .rcases jM.1 hx with rfl|hx
  .refine np.ok (fun j hj=>?_) CJ;by_cases pT:j=i
   .simp only[lq pT];exact he
   simp only[lp pT];exact hm.1.1 j hj
  exact h.ok x bH
 .rcases jM.1 hx with rfl|hx
  .rcases hD k hk with hk|hk
   .exact h.own e aq k hk
   exact h.own (np n es) aq k hk
  exact h.own x bH k hk
 rcases hD k hk with hk|hk
 .exact hp.1 x bH k hk
 exact wG.1 x hx k hk
theorem ly.ary(h:ly S w0 w (np n es::H)):ly S w0 w (np (n+1) (fun j=>if j=n then lN.nil else es j)::H):=by
 have hm:=h.ok (np n es) aq;have hp:=gG.1 h.apart;have hD:∀k,(np (n+1)<|fun j=>if j=n then lN.nil else es j).D k->(np n es).D k:=by
  rintro k ⟨j,hj,hk⟩;by_cases pT:j=n
  .simp only[lq pT]at hk;exact hk.elim
  simp only[lp pT]at hk;exact⟨j,aa,hk⟩
 refine⟨h.ni,fun x hx=>?_,fun x hx k hk=>?_,gG.2 ⟨fun x hx k hk=>hp.1 x hx k<|hD k hk,hp.2⟩⟩
 .rcases jM.1 hx with rfl|hx
  .refine np.ok (fun j hj=>?_)<|fun a b ha hb qU k h1 h2=>?_
   .by_cases pT:j=n
    .simp only[lq pT];exact lN.XA w
    simp only[lp pT];exact hm.1.1 j aa
   by_cases yF:a=n
   .simp only[lq yF]at h1;exact h1.elim
   by_cases ui:b=n
   .simp only[lq ui]at h2;exact h2.elim
   simp only[lp yF]at h1;simp only[lp ui]at h2;exact hm.1.2 a b aa aa qU k h1 h2
  exact h.ok x bH
 rcases jM.1 hx with rfl|hx
 .exact h.own (np n es) aq k<|hD k hk
 exact h.own x bH k hk
theorem ly.Qx{es':Nat->lN}(h:ly S w0 w (np n es::H))(he:∀i,i<n->es i=es' i):ly S w0 w (np n es'::H):=by
 have hm:=h.ok (np n es) aq;have hp:=gG.1 h.apart;have hD:∀k,(np n es').D k->(np n es).D k:=fun k ⟨j,hj,hk⟩=>⟨j,hj,by rw[he j hj];exact hk⟩
 refine⟨h.ni,fun x hx=>?_,fun x hx k hk=>?_,gG.2 ⟨fun x hx k hk=>hp.1 x hx k<|hD k hk,hp.2⟩⟩
 .rcases jM.1 hx with rfl|hx
  .exact np.ok (fun j hj=>by rw[<-he j hj];exact hm.1.1 j hj) (fun a b ha hb qU k h1 h2=>hm.1.2 a b ha hb qU k (by rw[he a ha];exact h1)<|by rw[he b hb];exact h2)
  exact h.ok x bH
 rcases jM.1 hx with rfl|hx
 .exact h.own (np n es) aq k<|hD k hk
 exact h.own x bH k hk
theorem ly.arA(h:ly S w0 w (e::np n es::H)):ly S w0 w (np (n+1) (fun j=>if j=n then e else es j)::H):=by
 have h1:=(h.pQ.ary).pQ.Xq (i:=n) aa aq;refine h1.Qx fun i hi=>?_;by_cases xk:i=n
 .simp[xk]
 simp[xk]
theorem ly.arx(h:ly S w0 w (np n es::H))(hi:i<n):(es i).Φ w:=((h.ok (np n es) aq).1.1 i hi).1
theorem ly.qP{g t:Nat}{aBp:mb}(hI:ly S w0 w (B g t aBp.toArray::H)):∀(k:Nat) (u:lH),aBp[k]?=some u->w.cell? ⟨g,0+k,none⟩=some u:=fun k u hk=>by rw[kg];exact hI.cell 0 Z (by simpa using hk)
theorem ly.app{w':lE}{H':List lN}(h:ly S w0 w H)(h':ly NF w w' H'):ly S w0 w' (H'++H):=by
 have hp:=h.pure h'.pu;have oh:∀e∈H',∀k,e.D k->w.heap.size<=k:=fun e he k hk=>(h'.own e he k hk).resolve_left<|fun h=>h;refine⟨hp.ni,fun e he=>?_,fun e he k hk=>?_,fW.2 ⟨h'.apart,h.apart,fun a ha b hb k h1 h2=>?_⟩⟩
 .rcases jc.1 he with he|he
  .exact h'.ok e he
  exact hp.ok e he
 .rcases jc.1 he with he|he
  .exact .inr<|j5 h.ni.size<|oh e he k hk
  exact h.own e he k hk
 have e1:=oh a ha k h1;have e2:=(h.ok b hb).2.1 k h2;omega
theorem ly.app1{w':lE}{a:lN}(h:ly S w0 w H)(h':ly NF w w' [a]):ly S w0 w' (a::H):=h.app h'
theorem ly.Z5{w':lE}{a b:lN}(h:ly S w0 w H)(h':ly NF w w' [a,b]):ly S w0 w' (a::b::H):=h.app h'
end
open Go
section
variable{P:lY}{N:Nat}{Q:pg}{ρ:lB}{w:lE}{o:Oper}{x y:mN}{t t':lT}
theorem atB{a b:Int}(ho:o.op=.call {callee:=.builtin .min,args:= #[x,y],argTypes:= #[t,t']})(hx:ev ρ x=Y a)(hy:ev ρ y=Y b):lQ P ρ o w (Y (min a b)):=by
 have e:min a b=if b<a then b else a:=by rw[Int.min_def];split<;>split<;>omega
 rw[e];simp[lQ,execOp,ho,resolve,invoke,builtin,hx,hy,Builtin.min_,Builtin.min2]
theorem Ib{a:Nat}(ho:o.op=.binOp .sub t x y t')(hx:ev ρ x=lI a)(hy:ev ρ y=lI b)(hb:b<=a)(h:a<=9223372036854775807):lQ P ρ o w (Y ((a-b:Nat):Int)):=by
 have:=Kl (P:=P) (w:=w) ho hx hy aa
 rwa [show(a:Int)-(b:Int)=((a-b:Nat):Int) by omega]at this
theorem QC{p:lF}(h:∃n,p n):∃n,p n/\∀m,m<n->¬p m:=by
 obtain⟨n,hn⟩:=h
 induction n using Nat.strongRecOn with
 |ind n ih=>
  by_cases hm:∃m,m<n/\p m
  .have⟨m,h1,h2⟩:=hm;exact ih m h1 h2
  exact⟨n,hn,fun m h1 h2=>hm ⟨m,h1,h2⟩⟩
theorem Wl{c:Code}(I:Nat->lB->World->Prop)(n0:Nat)(h0:I n0 ρ w)
  (h:∀n ρ w,I n ρ w->W P N c (vS (fun oK w'=>∃m,m<n/\I m oK w') Q) ρ w):W P N (.loop c) Q ρ w:=by
 classical
 let μ:lB->World->Nat:=fun ρ w=>if hx:∃n,I n ρ w then Classical.choose (QC hx)else 0
 have hμ:∀ρ w,(∃n,I n ρ w)->I (μ ρ w) ρ w/\∀m,I m ρ w->μ ρ w<=m:=fun ρ w hx=>by
  have hs:=fA<|QC hx;have he:μ ρ w=Classical.choose (QC hx):=lh hx;rw[he];refine⟨hs.1,fun m hm=>?_⟩;rcases j6 m (Classical.choose<|QC hx)with h1|h1
  .exact ll hm<|hs.2 m h1
  exact h1
 refine zk (fun ρ w=>∃n,I n ρ w) μ ⟨n0,h0⟩ fun ρ w hI=>Lc (h _ ρ w (hμ ρ w hI).1) fun e oK w' q=>?_;cases e<;>first|exact q|(obtain⟨m,h1,h2⟩:=q;exact⟨⟨m,h2⟩,Nat.lt_of_le_of_lt ((hμ oK w' ⟨m,h2⟩).2 m h2) h1⟩)
end
theorem O1{α:Type}{s:Nat}{f:α->List Value}(hf:∀a,(f a).length=s):∀(xs:List α) (m:Nat) (a:α),xs[m]?=some a->∀j,j<s->(xs.flatMap f)[m*s+j]?=(f a)[j]?
 |[],m,a,h,_,_=>by simp at h
 |x::xs,0,a,h,j,hj=>by simp at h;subst h;rw[gU,eH (by rw[hf];omega),kh,kg]
 |x::xs,m+1,a,h,j,hj=>by rw[gU,ey (by rw[hf,kr,kx];omega),hf,show(m+1)*s+j-s=m*s+j by rw[kr,kx];omega];exact O1 hf xs m a (by simpa using h) j hj
theorem EO{o:Nat}(h:w.ownsRow base e s (me b o n c) n xs)(hi:xs[i]?=some u)(hn:0<n):w.cell? ⟨b,o+i,none⟩=some u:=by have⟨b',o',h1,_,_,h2⟩:=(Rd.wP (D:=fun _=>True) h<|fun _ _ _=>trivial).get hi hn;injection h1 with h1;injection h1 with h1 h3;subst h1 h3;exact h2
theorem Ri(h:w.ownsRow base e s (.slice A n c) n xs)(hn:0<n)(hs:0<s):∃b o,A=some ⟨b,o,none⟩:=by have hx:xs.length=n*s:=h.1;have:0<n*s:=Nat.mul_pos hn hs;have⟨b',o',h1,_⟩:=(Rd.wP (D:=fun _=>True) h<|fun _ _ _=>trivial).get (nM<|show 0<xs.length by omega) hn;exact⟨b',o',h1⟩
open Go
theorem Ie(h:w.ownsRow base e s (.slice A n c) n xs)(hn:0<n):∃g aBl,A=some ⟨g,0,none⟩/\base<=g/\mV w g e aBl/\n<=c/\c<=9223372036854775807/\aBl.size=c*s/\aBl.toList.take (n*s)=xs:=by
 obtain⟨hl,⟨hv,Mw⟩|⟨g,cap,aBl,hv,hg,hb,h1,h2,h3,h4⟩⟩:=h
 .omega
 injection hv with e1 e2 e3;subst e1 e3;exact⟨g,aBl,Z,hg,hb,h1,by simpa[maxLen]using h2,h3,h4⟩
theorem af6{g:Nat}{aBl:lW}(hg:base<=g)(hb:mV w g e aBl)(h1:n<=c)(h2:c<=9223372036854775807)(h3:aBl.size=c*s)(h4:aBl.toList.take (n*s)=xs):(lz base e s (some ⟨g,0,none⟩) n c xs).ok w:=lz.ok ⟨by rw[<-h4,iz,gb,h3];exact jh<|fX s h1,.inr ⟨g,c,aBl,rfl,hg,hb,h1,by simpa[maxLen]using h2,h3,h4⟩⟩
section
variable{P:lY}{N:Nat}{aBi:nI}{Q:pg}{rest:List Oper}{ρ:lB}{o:Oper}{w0 w:lE}{S:lF}{H:List lN}{d t g:Nat}
theorem Ot{x:mN}{b0 tt:Nat}(i:Nat)(hi:H[i]?=some (lz base e s (some ⟨b,b0,none⟩) n c xs))(hI:ly S w0 w H)(hw:nH aBi ρ o)(hd:o.dst=none)(ho:o.op=.store tt x y)(hx:ev ρ x=lJ b j)(hy:ev ρ y=u)(hu:u.cells= #[u])
  (hs:pq P tt 1) (h1:u.oneCell') (hj:j<xs.length) (h:∀w',ly S w0 w' (H.set i<|lz base e s (some ⟨b,b0,none⟩) n c<|xs.set j u)->WL P N aBi Q rest ρ w'):WL P N aBi Q (o::rest) ρ w:=by
 have qc:w.ownsRow base e s (me b b0 n c) n xs:=(hI.ok _<|mZ hi).1;have aBn:xs.length=n*s:=qc.1;have hn:0<n:=by
  rcases gJ n with h0|h0
  .subst h0;omega
  exact h0
 have⟨g,aBl,hA,hg,hB,sn,qb,mR,vi⟩:=Ie qc hn;injection hA with hA;injection hA with e1 e2;subst e1 e2;have hjc:j<aBl.size:=by have:n*s<=c*s:=fX s sn;omega
 refine IQ (w':=w.setCell ⟨b,j,none⟩ u) hw hd (run_store ho hx hy hu hs Z hB hjc<|by simp[h1])<|h _<|hI.upd i hi ((mC.refl (lz base e s (some ⟨b,0,none⟩) n c xs).D w).setCell (p:=⟨b,j,none⟩) (.inl Z) u) (af6 hg (hB.YH j u) sn qb (by simp[mR])<|by rw[ei,List.take_set,vi])<|fun k hk=>.inl hk
end
section
variable{α:Type}{f:α->List Value}{s:Nat}
theorem O3(hf:∀a,(f a).length=s){a a':α}{j:Nat}{v:lH}(hj:j<s)(ha:f a'=(f a).set j v):∀{l:List α} {k:Nat},l[k]?=some a->(l.set k a').flatMap f=(l.flatMap f).set (k*s+j) v
 |[],k,h=>by simp at h
 |q::r,0,h=>by simp at h;subst h;rw[gI,gU,gU,ha,kh,kg,List.set_append_left _ _<|by rw[hf];exact hj]
 |q::r,k+1,h=>by have ih:=O3 hf hj ha (l:=r) (k:=k) (by simpa using h);rw[gH,gU,gU,ih,fK _ _<|by rw[hf,kr,kx];omega];congr 2;rw[hf,kr,kx];omega
theorem TU(hf:∀a,(f a).length=s)(l:List α):(l.flatMap f).length=l.length*s:=by
 induction l with
 |nil=>simp|cons q r ih=>rw[gU,gD,ih,hf,ix,kr,kx];omega
end
open Go.RowKit
section
variable{S:lF}{w0 w:lE}{H:List lN}{e:lN}
theorem ae4:∀(H:List lN) (i:Nat) (e:lN),H[i]?=some e->H.Perm (e::H.eraseIdx i)
 |[],i,e,h=>by simp at h
 |a::H,0,e,h=>by simp at h;subst h;exact .refl _
 |a::H,i+1,e,h=>by have:=ae4 H i e (by simpa using h);rw[eQ];exact(this.cons a).trans<|.swap ..
theorem ly.pull(h:ly S w0 w H)(i:Nat)(hi:H[i]?=some e):ly S w0 w (e::H.eraseIdx i):=h.perm (ae4 H i e hi)
def Xf:Nat->List lN->lN->List lN
 |0,L,e=>e::L|_+1,[],e=>[e]
 |i+1,a::L,e=>a::Xf i L e
theorem adE:∀(i:Nat) (L:List lN) (e:lN),(e::L).Perm (Xf i L e)
 |0,L,e=>.refl _|i+1,[],e=>.refl _|i+1,a::L,e=>(List.Perm.swap ..).trans<|(adE i L e).cons a
def adF(L:List lN)(i:Nat)(e:lN):List lN:=Xf i L e
theorem aqn(L:List lN)(i:Nat)(e:lN):(e::L).Perm (adF L i e):=adE i L e
theorem ly.back(h:ly S w0 w (e::H))(i:Nat):ly S w0 w (adF H i e):=h.perm (aqn H i e)
end
section
variable{P:lY}{ρ:lB}{w:lE}{o:Oper}{x y:mN}{t t' el:lT}{a:Addr}
theorem Dg(ho:o.op=.binOp .eql t x y t')(ht:P.underlying t=some (.pointer el))(hx:ev ρ x=.pointer (some a))(hy:ev ρ y=.pointer none):lQ P ρ o w (.bool false):=by have h:=yh (P:=P) (w:=w) (t:=t) (x:=.pointer<|some a) (y:=.pointer none) (r:=false)<|fun d=>aB;simp[lQ,execOp,ho,hx,hy,eqGuard,binOp,h]
theorem Yk(ho:o.op=.binOp .neq t x y t')(ht:P.underlying t=some (.pointer el))(hx:ev ρ x=.pointer (some a))(hy:ev ρ y=.pointer none):lQ P ρ o w (.bool true):=by have h:=yh (P:=P) (w:=w) (t:=t) (x:=.pointer<|some a) (y:=.pointer none) (r:=false)<|fun d=>aB;simp[lQ,execOp,ho,hx,hy,eqGuard,binOp,h]
end
section
variable{S:lF}{w0 w w':lE}{H:List lN}
def lN.join(a b:lN):lN:=⟨fun k=>a.D k\/b.D k,fun w=>a.Φ w/\b.Φ w⟩
theorem ly.join{a b:lN}(h:ly S w0 w (a::b::H)):ly S w0 w (lN.join a b::H):=by
 have ha:=h.ok a aq;have hb:=h.ok b aq;have hp:=gG.1 h.apart;have wG:=gG.1 hp.2;refine⟨h.ni,fun e he=>?_,fun e he k hk=>?_,gG.2 ⟨fun e he k hk=>?_,wG.2⟩⟩
 .rcases jM.1 he with rfl|he
  .refine lN.C8 ⟨ha.1,hb.1⟩ (fun k hk=>hk.elim (ha.2.1 k)<|hb.2.1 k)<|fun T w1 w2 hc hT h1=>⟨ha.2.2 T w1 w2 hc (fun k hk=>hT k<|.inl hk) h1.1,hb.2.2 T w1 w2 hc (fun k hk=>hT k<|.inr hk) h1.2⟩
  exact h.ok e cS
 .rcases jM.1 he with rfl|he
  .rcases hk with hk|hk
   .exact h.own a aq k hk
   exact h.own b aq k hk
  exact h.own e cS k hk
 rcases hk with hk|hk
 .exact hp.1 e cS k hk
 exact wG.1 e he k hk
end
def nF(n:Nat)(f:Nat->List Value):Array Value:=((List.range n).flatMap f).toArray
section
variable{n m:Nat}{f g:Nat->List Value}
theorem alU(hm:∀i,(f i).length=m):((List.range n).flatMap f).length=n*m:=by
 induction n with
 |zero=>simp|succ n ih=>rw[jf,gk,gD,ih,j9];simp[hm]
theorem D5(hm:∀i,(f i).length=m):(nF n f).size=n*m:=by unfold nF;rw[gY,alU hm]
theorem G7(hm:∀i,(f i).length=m)(hi:i<n)(hj:j<m):(nF n f)[i*m+j]?=(f i)[j]?:=by unfold nF;rw[fG];exact O2 hm (List.range n) i j i (by rw[gm hi]) hj
theorem TQ(hm:∀i,(f i).length=m)(hi:i<n)(hj:(f i)[j]?=some v):(nF n f)[i*m+j]?=some v:=by have:=(oS hj).1;rw[hm]at this;rw[G7 hm hi this,hj]
theorem I4(h:∀i,i<n->f i=g i):nF n f=nF n g:=by
 unfold nF;congr 1;have:∀l:nN,(∀i∈l,i<n)->l.flatMap f=l.flatMap g:=fun l=>by
  induction l with
  |nil=>intro _;rfl
  |cons a l ih=>intro hl;rw[gU,gU,h a<|hl a aq,ih<|fun i hi=>hl i<|by simp[hi]]
 exact this _<|fun i hi=>jy.1 hi
theorem avh(vs:mb):∀(cs:lW) (o x:Nat),o+vs.length<=cs.size->(sd cs o vs)[x]?=if o<=x/\x<o+vs.length then vs[x-o]? else cs[x]?:=by
 induction vs with
 |nil=>intro cs o x _;rw[lp (fun h=>by have h1:=h.1;have h2:=h.2;rw[iZ]at h2;omega)];rfl
 |cons v vs ih=>
  intro cs o x h;rw[ix]at h;rw[sd,ih _ _ _ (by rw[Array.size_setIfInBounds];omega),ix];by_cases hx:x=o
  .subst hx;rw[lp aa,lq aa,dZ];rw[lq rfl,lq aa,j8]
   rfl
  by_cases h1:o+1<=x/\x<o+1+vs.length
  .rw[lq h1,lq aa,show x-o=(x-(o+1))+1 by omega,eT]
  rw[lp h1,lp aa,dZ,lp<|fun e=>hx e.symm]
theorem O0(hm:∀i,(f i).length=m)(hg:∀i,(g i).length=m){vs:mb}(hi:i<n)(hj:j+vs.length<=m)(mK:∀k,k≠i->g k=f k)
  (h:g i=(f i).take j++vs++(f i).drop (j+vs.length)):sd (nF n f) (i*m+j) vs=nF n g:=by
 have xk:i*m+m<=n*m:=by rw[<-j9];exact fX _ hi
 apply Array.ext_getElem?;intro x;rw[avh _ _ _ _ (by rw[D5 hm];omega)];by_cases hx:x<n*m
 .have Av:0<m:=by
   rcases gJ m with h0|h0
   .subst h0;omega
   exact h0
  obtain⟨a,b,qU,hb⟩:∃a b,x=a*m+b/\b<m:=⟨x/m,x%m,by rw[j7];exact(jg x m).symm,kL _ Av⟩
  subst qU;have ha:a<n:=by refine iG fun hn=>?_;have:n*m<=a*m:=fX _ hn;omega
  rw[G7 hg ha hb];by_cases yF:a=i
  .subst yF;rw[h];by_cases hbj:j<=b/\b<j+vs.length
   .rw[lq aa,eH dm,ey dm];simp only[iz,hm];congr 1;omega
   rw[lp aa,G7 hm ha hb];by_cases lX:b<j
   .rw[eH dm,eH dm,gC,lq lX]
   rw[ey dm,gB];simp only[gD,iz,hm];congr 1;omega
  rw[lp,G7 hm ha hb,mK a yF];intro hc;rcases Nat.lt_or_gt_of_ne yF with h1|h1
  .have:(a+1)*m<=i*m:=fX _ h1;rw[j9]at this;omega
  have:(i+1)*m<=a*m:=fX _ h1;rw[j9]at this;omega
 rw[lp aa,fg (by rw[D5 hm];omega),fg<|by rw[D5 hg];omega]
theorem alT(hm:∀i,(f i).length=m)(hg:∀i,(g i).length=m)(hi:i<n)(hj:j<m)(mK:∀k,k≠i->g k=f k)(h:g i=(f i).take j++[v]++(f i).drop (j+1)):
  (nF n f).setIfInBounds (i*m+j) v=nF n g:=O0 hm hg (vs:=[v]) hi hj mK h
end
def oI(e:qR):List Value:=[.int .i64 (e.t:Int),.int .i64 e.c,.int .i64 e.v]
def oY(m:wY):List Value:=[.int .i64 (m.what:Int),.int .i64 (m.mQ:Int),.int .i64 (m.round:Int),.int .i64 (m.key:Int),.int .i64 (m.e.t:Int),.int .i64 m.e.c,.int .i64 m.e.v]
def pb(m:ou):List Value:=.int .i64 (m.src:Int):: .int .i64 (m.dst:Int)::oY m.m
def qk(e:qR):List Value:=[.int .i64 (e.t:Int),.int .i64 e.c]
def u5(x:qy)(cv:lH):List Value:=[.bool x.busy,.bool x.gone,.int .i64 x.mz.proc,.int .i64 x.mz.ty,.int .i64 x.mz.key,.int .i64 x.mz.kind,.int .i64 x.mz.a,.int .i64 x.mz.b,.int .i64 x.mz.res,.bool x.wR,.int .i64 (x.round:Int),cv,.int .i64 (x.mF.t:Int),.int .i64 x.mF.c,.int .i64 x.mF.v]
def qa(l:List Bool):List Value:=l.map Value.bool
structure ny where
 sb:Nat
 nb:Nat
 cb:Nat
 cw:Nat->Option Nat
 MA:lO
 mc:Nat
 LA:lO
 ln:Nat
 lc:Nat
 cut:Bool
 lv:mb
 LD:lF
 lb:rD
 EA:lO
 ec:Nat
 SA:lO
 sc:Nat
def pn(L:ny)(s:l8)(c:Nat):Value:=match L.cw c with
 |none=>.slice none 0 0|some b=>.slice (some ⟨b,0,none⟩) s.n s.n
def sE(L:ny)(s:l8)(c:Nat):lN:=match L.cw c with
 |none=>lN.nil|some b=>B b 4 (qa (s.cl c).counted).toArray
def qC(L:ny)(s:l8)(c:Nat):List Value:=u5 (s.cl c) (pn L s c)
theorem aaG(L:ny)(s:l8)(c:Nat):(qC L s c).length=15:=rfl
def zK(s:l8)(i:Nat):List Value:=oI (s.mG (i/8) (i%8))
theorem QH(s:l8)(i:Nat):(zK s i).length=3:=rfl
def Iq(L:ny)(s:l8):Array Value:= #[.int .i64 (s.n:Int),.int .i64 (s.k:Int),.int .i64 (s.ask:Int),.int .i64 (s.tell:Int),.bool s.back,.slice (some ⟨L.nb,0,none⟩) s.n s.n,.slice (some ⟨L.cb,0,none⟩) s.k s.k,
 .slice L.MA s.lU.length L.mc,.slice L.LA L.ln L.lc,.bool L.cut,.slice L.EA s.evs.length L.ec,.slice L.SA s.sts.length L.sc]
def oq(vals:mb)(D:lF)(bs:rD):lN:=⟨D,fun w=>(∀k,D k->k<w.heap.size)/\bs.length=vals.length/\∀(i:Nat) v b,vals[i]?=some v->bs[i]?=some b->KW w D v b/\b.length<=1000⟩
theorem oq.ok{vals:mb}{D:lF}{bs:rD}(hD:∀k,D k->k<w.heap.size)(hl:bs.length=vals.length)(h:∀(i:Nat) v b,vals[i]?=some v->bs[i]?=some b->KW w D v b/\b.length<=1000):(oq vals D bs).ok w:=
 lN.C8 ⟨hD,hl,h⟩ (fun k hk=>hD k hk) (fun S w1 w2 hc hS h1=>⟨fun k hk=>gK (h1.1 k hk) hc.size,h1.2.1,fun i v b hv hb=>by
  have⟨hl,hb⟩:=h1.2.2 i v b hv hb
  exact⟨Rd.ni hl hc (fun k hk=>hS k hk),hb⟩⟩)
def w9(cut:Bool)(lb:rD)(f t:Nat):Bool:= !cut||(decide (f<lb.length)&&(decide (t<(lb.getD f []).length)&&(lb.getD f []).getD t false))
def FH(n:Nat)(f:Nat->Nat->Bool):List (List Bool):=(List.range n).map fun a=>(List.range n).map fun b=>decide (a=b)||f a b
def zO(n i:Nat):Nat:=if i<n then i else(i-n)%n
def Fz(n k:Nat)(lb:rD):List (List Bool):=(List.range (n+k)).map fun a=>(List.range (n+k)).map fun b=>(lb.getD (zO n a) []).getD (zO n b) false
def lR(L:ny)(s:l8):List lN:=
 [B L.sb 135 (Iq L s),B L.nb 140 (nF (s.n*8) (zK s)),B L.cb 246 (nF s.k (qC L s)),np s.k (sE L s),lz 0 218 9 L.MA s.lU.length L.mc (s.lU.flatMap pb),
  lz 0 155 1 L.LA L.ln L.lc L.lv,oq L.lv L.LD L.lb,lz 0 66 7 L.EA s.evs.length L.ec (s.evs.flatMap nu),lz 0 137 2 L.SA s.sts.length L.sc (s.sts.flatMap qk)]
structure nw(L:ny)(s:l8)(M:Nat):Prop where
 n1:1<=s.n/\s.n<=7
 k1:1<=s.k/\s.k<=8
 ask:1<=s.ask/\s.ask<=s.n
 tell:1<=s.tell/\s.tell<=s.n
 vG:s.lU.length<=500
 yB:s.evs.length<=120
 zQ:s.sts.length=s.evs.length
 free:s.evs.length+qT s s.k<=120
 zJ:∀m∈s.lU,m.m.mQ<s.k/\m.m.key<8/\m.m.round<=M/\m.m.e.t<=M/\m.m.what<=3/\((m.dst<s.n/\m.src=s.n+m.m.mQ)\/(m.src<s.n/\m.dst=s.n+m.m.mQ))
 wj:∀c,c<s.k->(s.cl c).round<=M/\(s.cl c).mF.t<=M/\((s.cl c).busy->L.cw c≠none/\(s.cl c).counted.length=s.n/\0<=(s.cl c).mz.key/\(s.cl c).mz.key<8)
 Ac:∀c b,c<s.k->L.cw c=some b->(s.cl c).counted.length=s.n
 Bm:∀j key,j<s.n->key<8->(s.mG j key).t<=M
theorem aqk:(prog.info? 218).map (fun i=>(i.zero,i.size,i.bytes))=some (some (.agg KL),9,72):=ai
theorem ayj(w:lE):(zeroValue 218).run prog w=.ok (.agg KL) w:=ai
theorem ak0(aBl:lW)(xs aBp zs:mb)(n k size:Nat)(uv:aBl.toList.take (n*size)=xs)(aBn:xs.length=n*size)(hk:k<n)(wF:aBp=xs.drop ((k+1)*size))(hz:zs.length=size)(mL:n*size<=aBl.size):
  (sd (sd aBl (0+k*size) aBp) ((k+(n-(k+1)))*size) zs).toList.take ((n-1)*size)=xs.take (k*size)++xs.drop ((k+1)*size):=by
 have e1:(k+(n-(k+1)))=n-1:=aa;have uL:aBp.length=(n-(k+1))*size:=by rw[wF,iy,aBn,Nat.sub_mul]
 have e2:k*size+(n-(k+1))*size=(n-1)*size:=by rw[<-kr];congr 1
 have e3:(n-1)*size+size=n*size:=by
  have:n=(n-1)+1:=aa
  conv=>rhs;rw[this,kr,kx]
 have e4:k*size<=n*size:=fX _ aa
 rw[e1,Kv _ _ _ (by rw[uQ,hz];omega),gR,dY (by rw[iz,gb,uQ];omega),jz,Nat.min_self,
  Kv _ _ _ (by rw[uL];omega),kg,dY aQ,fq aQ,wF,<-uv,jz,jh e4]
set_option maxRecDepth 100000 in
theorem auT(base n k:Nat)(v:lH)(xs:mb)(w:lE)(h:w.ownsRow base 218 9 v n xs)(h1:∀u∈xs,u.oneCell'=true)(hk:k<n)(hn:n<=1000):
  Cq 119 #[v,.int .i64 k,.int .i64<|(k:Int)+1] w fun e w'=>∃v',e=.returned v'/\
   w'.ownsRow base 218 9 v' (n-1) (cutAt 9 k xs)/\mC (fun k=>some k=v.ownBlock) w w'/\v'.ownBlock=v.ownBlock:=by
 obtain⟨i0,pE,C6,pF,xw⟩:=info_parts aqk;rcases h.2 with⟨rfl,rfl⟩|⟨g,cap,aBl,rfl,Ai,hg,sn,qb,mL,uv⟩
 .omega
 have aBn:=h.1;simp only[maxLen]at qb;have hB:mV w g 218 aBl:=hg;obtain⟨aBp,wF⟩:∃aBp,aBp=xs.drop ((k+1)*9):=⟨_,rfl⟩
 have uL:aBp.length=(n-(k+1))*9:=by rw[wF,iy,aBn];omega
 have FV:∀j u,xs[j]?=some u->w.cell? ⟨g,j,none⟩=some u:=fun j u hj=>by
  rw[hB.cell,<-fx];rw[<-uv,gC]at hj;split at hj
  .exact hj
  cases hj
 obtain⟨A,hA,P7⟩:∃A:Addr,(if cap=k+1 then some (⟨g,0,none⟩:Addr)else some ⟨g,(k+1)*9,none⟩)=some A/\Hid (∀t u,aBp[t]?=some u->w.drew.cell? (A.add t)=some u):=by
  by_cases hc:cap=k+1
  .refine⟨_,by rw[lq hc],fun t u hu=>?_⟩;have h0:aBp.length=0:=by rw[uL];omega
   rw[eY.1 h0]at hu;simp at hu
  refine⟨_,by rw[lp hc],fun t u hu=>?_⟩;rw[jU];rw[wF,gB]at hu;exact FV _ u hu
 have s1:Hid (aBp.length=(n-(k+1))*9):=uL;have s2:Hid (∀u∈aBp,u.oneCell'=true):=fun u hu=>h1 u<|fU<|wF▸hu;have s3:Hid (∀t,t<aBp.length->(w.drew.cell? ⟨g,0+k*9+t,none⟩).isSome=true/\w.drew.frozen? ⟨g,0+k*9+t,none⟩=false):=by
  intro t ht;refine⟨?_,hB.frozen _⟩;show(w.cell? _).isSome=true;rw[hB.cell,eB<|by rw[mL];omega]
  rfl
 obtain⟨W1,zx⟩:∃W1,W1=w.drew.setCells g (0+k*9) aBp:=⟨_,rfl⟩
 have BB:mV W1 g 218 (sd aBl (0+k*9) aBp):=by rw[zx];exact hB.drew.setCells _ _
 have oz:∀ty,(Builtin.clear_ #[128] ty #[.slice (some ⟨g,(k+(n-(k+1)))*9,none⟩) (n-(k+(n-(k+1)))) (cap-(k+(n-(k+1))))]).run prog W1=.ok (.tuple #[]) (W1.setCells g ((k+(n-(k+1)))*9) (Builtin.zeroCells KL<|n-(k+(n-(k+1)))).toList):=
  fun ty=>agf W1 _ _ ty _ Ci ayj (by simp[Value.cells,Value.oneCell']) g _ _ _ aa (fun j hj=>by
   rw[BB.cell,eB (by rw[uQ,mL];simp[Value.cells]at hj;omega)];rfl) (fun j _=>BB.frozen _)
 have HW:=Lib.hid zx;have R4:=Lib.hid BB;have hkc:k<=cap:=aa;have aoC:k+1<=cap:=aa;have e1:IntKind.i64.wrap ((k:Int)+1)=(k:Int)+1:=by rw[il];omega
 have mK:((k:Int)==(k:Int)+1)=false:=by rw[beq_eq_false_iff_ne];omega
 have HX:=Lib.hid uv;have HN:=Lib.hid wF;have HL:=Lib.hid aBn;have K1:=Lib.hid mL;clear FV hB BB zx uL wF h h1 hg uv aBn mL
 go_enter func119,Tryz.ntmps119
 have hp0:(0:Int)<=(k:Int)+1:=aa;have Ax:(k:Int)+1<=(n:Int):=aa;have wG:((k:Int)+1).toNat=k+1:=aa;have hp3:(k:Int)<=(cap:Int):=aa
 go_wp2_with fail
 go_region_law (refine step_append_room rfl (.tmp 22) (.tmp 25) 128 rfl 218 i0 9 Ci pE pF g 0 k cap (by simp[Act.eval,Act.put]) A (n-(k+1)) (cap-(k+1)) aBp (by simp[Act.eval,Act.put]) s1.out P7.out s2.out aa s3.out ?_;rw[<-HW.out])
 go_wp2
 go_ret
 refine⟨.slice (some ⟨g,0,none⟩) (k+(n-(k+1))) cap,Z,⟨?_,.inr ⟨g,cap,sd (sd aBl (0+k*9) aBp) ((k+(n-(k+1)))*9) (Builtin.zeroCells KL<|n-(k+(n-(k+1)))).toList,by rw[show k+(n-(k+1))=n-1 by omega],Ai,R4.out.setCells _ _,aa,by simp only[maxLen];omega,?_,?_⟩⟩,?_,rfl⟩
 .simp only[cutAt,gD,iz,iy,HL.out];omega
 .rw[uQ,uQ];exact K1.out
 .exact ak0 aBl xs aBp _ n k 9 HX.out HL.out aa HN.out (by simp[Builtin.zeroCells];omega) (by rw[K1.out];omega)
 have hS:(fun k=>some k=(Value.slice (some ⟨g,0,none⟩) n cap).ownBlock) g\/w.heap.size<=g:=.inl rfl;refine mC.setCells hS _ _ ?_;rw[HW.out];exact mC.setCells hS _ _ (mC.refl _ w).drew
def p9(l:List lN):Nat->Prop:=fun k=>∃e∈l,e.D k
section
variable{S:lF}{w0 w w':lE}{X l l':List lN}
theorem ly.n9(h:ly S w0 w (X++l)):ly (p9 l) w w l:=⟨mC.refl _ w,fun e he=>h.ok e cS,fun e he k hk=>.inl ⟨e,he,hk⟩,(fW.1 h.apart).2.1⟩
theorem ly.qB(h:ly S w0 w (X++l))(h':ly (p9 l) w w' l'):ly S w0 w' (X++l'):=by
 have⟨p1,p2,p3⟩:=fW.1 h.apart;refine⟨h.ni.trans' h'.ni fun k sG nO=>?_,fun x hx=>?_,fun x hx k hk=>?_,fW.2 ⟨p1,h'.apart,fun a ha b hb k h1 h2=>?_⟩⟩
 .obtain⟨e,he,nO⟩:=nO;rcases h.own e cS k nO with h1|h1
  .exact h1
  omega
 .rcases jc.1 hx with hx|hx
  .exact(h.ok x bH).ni h'.ni (fun k hk nO=>by obtain⟨e,he,nO⟩:=nO;exact p3 x hx e he k hk nO)
  exact h'.ok x hx
 .rcases jc.1 hx with hx|hx
  .exact h.own x bH k hk
  rcases h'.own x hx k hk with⟨e,he,h1⟩|h1
  .exact h.own e cS k h1
  exact .inr<|j5 h.ni.size h1
 rcases h'.own b hb k h2 with⟨e,he,h3⟩|h3
 .exact p3 a ha e he k h1 h3
 have:=(h.ok a<|by simp[ha]).2.1 k h1;omega
end
theorem Xo(m:ou):(pb m).length=9:=rfl
theorem are(ms:List ou):∀u∈ms.flatMap pb,u.oneCell':=fun u hu=>by have⟨m,_,h⟩:=iA.1 hu;simp only[pb,oY,jM,iD,ld]at h;rcases h with h|h|h|h|h|h|h|h|h<;>rw[h]<;>rfl
theorem ard(ms:List ou)(k:Nat):cutAt 9 k (ms.flatMap pb)=(ms.eraseIdx k).flatMap pb:=alV Xo ms k
theorem arf(ms:List ou)(m:ou):(ms++[m]).flatMap pb=ms.flatMap pb++pb m:=aq
section
variable{w:lE}{D:lF}
theorem ad4{ms:List ou}{m:ou}(h:Rd w D 9 (.slice A ms.length c) ms.length (ms.flatMap pb))(hm:ms[i]?=some m):∃b o,A=some ⟨b,o,none⟩/\D b/\∀j u,(pb m)[j]?=some u->w.cell? ⟨b,o+i*9+j,none⟩=some u:=by
 have hi:=(oS hm).1;obtain⟨A',c',hv,h1,h2,h3,h4⟩:=h;injection hv with ha _ _;subst ha;obtain⟨b,o,rfl,hb,hc⟩:=h4 aa;refine⟨b,o,Z,hb,fun j u hj=>?_⟩;have hj9:j<9:=by have:=(oS hj).1;rwa [Xo]at this
 rw[jO];exact hc (i*9+j) u (by rw[O2 Xo ms i j m hm hj9];exact hj)
end
theorem J2(b:Nat)(i:Int)(A:lO)(n c:Nat)(w0:lE)(hc:w0.cell? ⟨b,7,none⟩=some (.slice A n c)):
  Cq 123 #[lJ b 7,Y i] w0 fun en w'=>en=.returned (.bool<|decide (0<=i/\i<(n:Int)))/\Pure w0 w':=by
 have hI:=ly.start (fun _=>False) w0;refine Vo func123 Z<|Wq<|V5 Z<|Wn ?_;by_cases h0:i<0
 .refine Wq<|V0 Z<|Ua Z<|V3 Z<|V2 Z<|V2 Z<|V2 Z<|V2 Z<|V2 Z<|V2 Z<|V2 Z<|Va Z<|V5 Z<|Wn<|WR<|lV 4 Z ⟨?_,hI.pu⟩;rw[jo aa];rfl
 by_cases h1:i<(n:Int)
 .refine Wq<|V0 Z<|Tw Z<|V3 Z<|V0 Z<|V8 Z<|Ve Z<|Tq Z<|V4 (.slice _ _ _) Z (hI.my hc)<|Vp Z Ci Z<|Vt Z<|Vg Z<|V5 Z<|Wn<|WR<|lV 4 Z ⟨?_,hI.pu⟩;rw[jB aa];rfl
 refine Wq<|V0 Z<|Tw Z<|V3 Z<|V0 Z<|V8 Z<|Ve Z<|Tq Z<|V4 (.slice _ _ _) Z (hI.my hc)<|Vp Z Ci Z<|Vq Z<|Vg Z<|V5 Z<|Wn<|WR<|lV 4 Z ⟨?_,hI.pu⟩;rw[jo aa];rfl
def rQ:Array Value:=KL
theorem ai7(b:Nat)(i:Int)(A:lO)(n c:Nat)(w0:lE)(hc:w0.cell? ⟨b,7,none⟩=some (.slice A n c))(hi:¬(0<=i/\i<(n:Int))):
  Cq 117 #[lJ b 7,Y i] w0 fun en w'=>en=.returned (.tuple #[.agg rQ,.bool false])/\Pure w0 w':=by
 have hI:=ly.start (fun _=>False) w0;refine Vo func117 Z<|Wq<|T6 (.agg rQ) rQ hI Z ?_;rintro b4 w- -hI;refine V5 Z<|Wn<|Ws<|Wq<|V8 Z<|V0 Z<|V7 [.pointer _,Y _] Z func123 Z<|(J2 b i A n c _<|hI.my hc).mono ?_;rintro e w1 ⟨rfl,hp⟩;rw[jo hi];apply rV;have hI:=hI.pure hp;refine Tm Z<|Yt Z<|Ws<|Wr<|Wv Z (show lQ _ _ _ _ (.agg rQ)from Ny (qs:=[]) (vs:=[Y 0,Y 0,Y 0,Y 0,Y 0,Y 0,Y 0,Y 0,Y 0]) [Y 0,Y 0,Y 0,Y 0,Y 0,Y 0,Y 0,Y 0,Y 0] [] Z Z Z<|fun _=>ai)<|Ta 9 rQ (.agg rQ) hI rfl ?_;intro w hI;exact V5 Z<|Wn<|WR<|EM (n:=9) (.inr Z) Z Z ai ai Z hI.g0 ⟨Z,hI.pu⟩
theorem ai8(b j:Nat)(A:lO)(c:Nat)(ms:List ou)(m:ou)(D:lF)(w0:lE)(hc:w0.cell? ⟨b,7,none⟩=some (.slice A ms.length c))(hR:Rd w0 D 9 (.slice A ms.length c) ms.length (ms.flatMap pb))(hm:ms[j]?=some m):
  Cq 117 #[lJ b 7,lI j] w0 fun en w'=>en=.returned (.tuple #[.agg (pb m).toArray,.bool true])/\Pure w0 w':=by
 have hI:=ly.start (fun _=>False) w0;have hj:=(oS hm).1;obtain⟨g,o,rfl,_,nU⟩:=ad4 hR hm;refine Vo func117 Z<|Wq<|T6 (.agg rQ) rQ hI Z ?_;rintro b4 w- -hI;refine V5 Z<|Wn<|Ws<|Wq<|V8 Z<|V0 Z<|V7 [.pointer _,Y _] Z func123 Z<|(J2 b (j:Int) _ _ c _<|hI.my hc).mono ?_;rintro e w1 ⟨rfl,hp⟩;rw[jB aa];apply rV;have hI:=hI.pure hp;refine Th Z<|Yf Z<|Wk<|Wq<|V8 Z<|Ve Z<|Tq Z<|V4 (.slice _ _ _) Z (hI.my hc)<|V0 Z<|Tu 9 Z Ci Z<|Uh 9 (pb m) Z (fun k u hk=>hI.my<|nU k u hk)<|Ta 9 ((pb m).toArray) (.agg (pb m).toArray) hI Z ?_;intro w hI;exact V5 Z<|Wn<|WR<|EM (n:=9) (.inr Z) Z Z ai ai Z hI.g0 ⟨Z,hI.pu⟩
theorem ajF(b f t:Nat)(cut:Bool)(A:lO)(n c:Nat)(vals:mb)(bs:rD)(D D2:lF)(w0:lE)(h1:w0.cell? ⟨b,9,none⟩=some (.bool cut))(h2:w0.cell? ⟨b,8,none⟩=some (.slice A n c))(h3:Rd w0 D2 1 (.slice A n c) n vals)(h5:bs.length=vals.length)(h4:∀(i:Nat) v l,vals[i]?=some v->bs[i]?=some l->KW w0 D v l)(hf:f<1000)(ht:t<1000):
  Cq 118 #[lJ b 7,lI f,lI t] w0 fun en w'=>en=.returned (.bool<|w9 cut bs f t)/\Pure w0 w':=by
 have hI:=ly.start (fun _=>False) w0;have hvn:vals.length=n:=by obtain⟨_,_,_,_,_,q3,_⟩:=h3;omega
 refine Vo func118 Z<|Wq<|V5 Z<|Wn ?_;cases cut with
 |false=>exact Ws<|Wq<|V8 Z<|Ve Z<|Tl 2 Z<|V4 (.bool _) Z (hI.my h1)<|Tm Z<|Yt Z<|Wq<|V5 Z<|Wn<|WR<|lV 6 Z ⟨Z,hI.pu⟩|true=>
  refine Ws<|Wq<|V8 Z<|Ve Z<|Tl 2 Z<|V4 (.bool _) Z (hI.my h1)<|Th Z<|Yf Z<|Wk ?_;by_cases qh:f<n;rotate_left
  .refine Wq<|V0 Z<|Tw Z<|V3 Z<|V0 Z<|V8 Z<|Ve Z<|Tl 1 Z<|V4 (.slice _ _ _) Z (hI.my h2)<|Vp Z rf Z<|Vq Z<|Vg Z<|V3 Z<|V2 Z<|V2 Z<|Va Z<|V3 Z<|V2 Z<|V2 Z<|V2 Z<|V2 Z<|V2 Z<|V2 Z<|V2 Z<|V2 Z<|V2 Z<|V2 Z<|Va Z<|V3 Z<|V2 Z<|V2 Z<|V2 Z<|V2 Z<|V2 Z<|V2 Z<|V2 Z<|V2 Z<|V2 Z<|V2 Z<|Va Z<|V5 Z<|Wn<|WR ?_;have e:w9 true bs f t=false:=by simp[w9,show ¬f<bs.length by omega]
   rw[e];exact lV 6 Z ⟨Z,hI.pu⟩
  obtain⟨A',c',hv,q1,q2,q3,q4⟩:=h3;injection hv with ha _ _;subst ha;obtain⟨g,o,rfl,_,hc⟩:=q4 aa;obtain⟨v,hvv⟩:∃v,vals[f]?=some v:=⟨_,nM aa⟩
  have FU:=hc f v hvv;obtain⟨l,yL⟩:∃l,bs[f]?=some l:=⟨_,nM aa⟩
  have hl:=h4 f v l hvv yL;have BM:bs.getD f []=l:=by rw[eu,yL];rfl
  have Mm:f<bs.length:=aa;obtain⟨RA,rc,rfl,r1,r2⟩:=Rd.form hl;by_cases yP:t<l.length;rotate_left
  .refine Wq<|V0 Z<|Tw Z<|V3 Z<|V0 Z<|V8 Z<|Ve Z<|Tl 1 Z<|V4 (.slice _ _ _) Z (hI.my h2)<|Vp Z rf Z<|Vt Z<|Vg Z<|V3 Z<|V0 Z<|Tw Z<|Vg Z<|V3 Z<|V0 Z<|V8 Z<|Ve Z<|Tl 1 Z<|V4 (.slice _ _ _) Z (hI.my h2)<|V0 Z<|Uq Z rf Z<|V4 (.slice _ _ _) Z (hI.my FU)<|Vp Z oZ Z<|Vq Z<|Vg Z<|V3 Z<|V2 Z<|V2 Z<|V2 Z<|V2 Z<|V2 Z<|V2 Z<|V2 Z<|V2 Z<|V2 Z<|V2 Z<|Va Z<|V5 Z<|Wn<|WR ?_;have e:w9 true bs f t=false:=by unfold w9;rw[BM];simp[yP]
   rw[e];exact lV 6 Z ⟨Z,hI.pu⟩
  obtain⟨A2,c2,W2,p1,p2,p3,p4⟩:=hl;injection W2 with ha2 _ _;subst ha2;obtain⟨g2,o2,rfl,_,rJ⟩:=p4 aa;have Ji:=rJ t (.bool l[t]) (by rw[gW,nM yP];rfl);refine Wq<|V0 Z<|Tw Z<|V3 Z<|V0 Z<|V8 Z<|Ve Z<|Tl 1 Z<|V4 (.slice _ _ _) Z (hI.my h2)<|Vp Z rf Z<|Vt Z<|Vg Z<|V3 Z<|V0 Z<|Tw Z<|Vg Z<|V3 Z<|V0 Z<|V8 Z<|Ve Z<|Tl 1 Z<|V4 (.slice _ _ _) Z (hI.my h2)<|V0 Z<|Uq Z rf Z<|V4 (.slice _ _ _) Z (hI.my FU)<|Vp Z oZ Z<|Vt Z<|Vg Z<|V3 Z<|V8 Z<|Ve Z<|Tl 1 Z<|V4 (.slice _ _ _) Z (hI.my h2)<|V0 Z<|Uq Z rf Z<|V4 (.slice _ _ _) Z (hI.my FU)<|V0 Z<|Uq Z oZ Z<|V4 (.bool _) Z (hI.my Ji)<|Vg Z<|V5 Z<|Wn<|WR ?_;have e:w9 true bs f t=l[t]:=by unfold w9;rw[BM];simp[Mm,yP,eu,nM yP]
  rw[e];exact lV 6 Z ⟨Z,hI.pu⟩
theorem YG(L:ny)(s:l8)(m:ou)(S:lF)(w0:lE)(hI:ly S w0 w0 (lR L s)):
  Cq 121 #[lJ L.sb 7,.agg (pb m).toArray] w0 fun en w'=>(∃v,en=.returned v)/\∃MA mc,ly S w0 w' (lR {L with MA:=MA,mc:=mc} {s with lU:=vO s.lU m}):=by
 unfold lR at hI;refine Vo func121 Z<|Wq<|Tg (.agg (pb m).toArray) ((pb m).toArray) hI Z ?_;rintro b3 w- -hI;refine Vh Z<|Wn ?_;by_cases abO:s.lU.length<500;rotate_left
 .refine Ws<|Wq<|V8 Z<|Ve Z<|Tq Z<|V4 (.slice _ _ _) Z (hI.c1 Z)<|Vp Z Ci Z<|Tw Z<|Yt Z<|Wq<|T9 Z pd Z<|Vn Z<|Wn<|WR<|lV 4 Z ⟨⟨_,Z⟩,L.MA,L.mc,?_⟩;have:vO s.lU m=s.lU:=lp abO;rw[this];exact hI.d0
 refine Ws<|Wq<|V8 Z<|Ve Z<|Tq Z<|V4 (.slice _ _ _) Z (hI.c1 Z)<|Vp Z Ci Z<|Ua Z<|Yf Z<|Wk ?_;have hI:=hI.pull 5 rfl;refine Ws<|Wd ai<|Wi (T:=[10]) hI.d0.drew ?_;intro Sx hY hZ;have hI:=hI.drew;refine Vj 0 Z<|Vj 1 Z<|Vk 2 Z<|U4 3 Z<|V9 4 (.slice _ _ _) Z (lL hY fun h=>h.c1 Z)<|Ui 5 9 (pb m) Z (lL hY fun hI=>fun k u hk=>hI.cell 0 Z az) ?_;refine Vr 6 Z<|T7 [(0,.agg (pb m).toArray)] (pb m) [Y 0,Y 0,Y 0,Y 0,Y 0,Y 0,Y 0,Y 0,Y 0] [0] hI Z Ci (fun _=>ai) ?_;rintro uY w- -hI;refine Wn ⟨hZ _ hI.d0.d0,(Vr 7 Z<|Tz 72 (.agg KL) hI Z Ci Z (by rfl) hI.qP (by rfl) (kz _) ?_)⟩;rintro Zo c19 w ayU azj hI;have hI:=hI.d0;refine Wn ⟨hZ _ hI.d0,(Vk 8 Z<|U4 9 Z<|qn ai ?_)⟩;refine Tc 10 Z<|La (u:=.slice Zo (s.lU.length+1) c19) (j:=7) hI Z Z Z Z Z Z ai Z Z Z ?_;intro w hI;refine Wn<|qm ai<|Wq<|Vh Z<|Wn<|WR<|lV 4 Z ⟨⟨_,Z⟩,Zo,c19,?_⟩;have:vO s.lU m=s.lU++[m]:=lq abO;rw[this];have e1:(s.lU++[m]).length=s.lU.length+1:=aq;rw[<-arf,<-e1]at hI;exact(hI.d1).back 4
theorem aec{L:ny}{s:l8}{X:List lN}(hI:ly S w0 w (X++lR L s)):Rd w (fun _=>True) 9 (.slice L.MA s.lU.length L.mc) s.lU.length (s.lU.flatMap pb):=Rd.wP (hI.n9.ok _<|mZ (i:=4) rfl).1 (fun _ _ _=>trivial)
theorem aaY(L:ny)(s:l8)(j:Nat)(m:ou)(hm:s.lU[j]?=some m)(Ms:s.lU.length<=500)(S:lF)(w0:lE)(hI:ly S w0 w0 (lR L s)):
  Cq 119 #[.slice L.MA s.lU.length L.mc,lI j,Y<|(j:Int)+1] w0 fun en w'=>∃A c,en=.returned (.slice A (s.lU.eraseIdx j).length c)/\ly S w0 w' ((lR L s).set 4<|lz 0 218 9 A (s.lU.eraseIdx j).length c<|(s.lU.eraseIdx j).flatMap pb):=by
 have hj:=(oS hm).1;have qc:w0.ownsRow 0 218 9 (.slice L.MA s.lU.length L.mc) s.lU.length (s.lU.flatMap pb):=(hI.ok _<|mZ (i:=4) rfl).1;refine(auT 0 s.lU.length j _ _ w0 qc (are _) hj aa).mono ?_;rintro e w' ⟨v',rfl,ho,hc,hb⟩;have aBn:(s.lU.eraseIdx j).length=s.lU.length-1:=by rw[fS,lq hj]
 rw[ard,<-aBn]at ho;obtain⟨A,c,rfl⟩:∃A c,v'=.slice A (s.lU.eraseIdx j).length c:=by
  rcases ho.2 with⟨hv,h0⟩|⟨g,cap,aBl,hv,_⟩
  .exact⟨none,0,by rw[hv,h0]⟩
  exact⟨_,_,hv⟩
 rw[EF,EF]at hb;refine⟨A,c,Z,hI.upd 4 Z (hc.mono fun k _ hk=>?_) (lz.ok ho) fun k hk=>.inl ?_⟩
 .show L.MA.map (·.block)=some k;rw[<-EF L.MA s.lU.length L.mc];exact hk.symm
 show L.MA.map (·.block)=some k;rw[<-hb];exact hk
theorem ar2(L:ny)(s:l8)(i:Int)(Ms:s.lU.length<=500)(S:lF)(w0:lE)(hI:ly S w0 w0 (lR L s)):
  Cq 94 #[lJ L.sb 7,Y i] w0 fun en w'=>(∃v,en=.returned v)/\∃MA mc ms,((ms=s.lU/\¬(0<=i/\i<(s.lU.length:Int)))\/∃j:Nat,i=(j:Int)/\j<s.lU.length/\ms=s.lU.eraseIdx j)/\ly S w0 w' (lR {L with MA:=MA,mc:=mc} {s with lU:=ms}):=by
 refine Vo func94 Z<|Wq<|Vh Z<|Wn ?_;have hc:∀w,ly S w0 w (lR L s)->w.cell? ⟨L.sb,7,none⟩=some (.slice L.MA s.lU.length L.mc):=fun w hI=>hI.cell 0 rfl rfl;by_cases hi:0<=i/\i<(s.lU.length:Int);rotate_left
 .refine Ws<|Wq<|V8 Z<|V0 Z<|V7 [.pointer _,Y _] Z func123 Z<|(J2 L.sb i _ _ _ _<|hc _ hI).mono ?_;rintro e w1 ⟨rfl,hp⟩;rw[jo hi];apply rV;have hI:=hI.pure hp;exact Tm Z<|Yt Z<|Wq<|T9 Z pd Z<|Vn Z<|Wn<|WR<|lV 4 Z ⟨⟨_,Z⟩,L.MA,L.mc,_,.inl ⟨Z,hi⟩,hI⟩
 obtain⟨j,rfl⟩:∃j:Nat,i=(j:Int):=⟨i.toNat,aa⟩
 have hj:j<s.lU.length:=aa;refine Ws<|Wq<|V8 Z<|V0 Z<|V7 [.pointer _,Y _] Z func123 Z<|(J2 L.sb (j:Int) _ _ _ _<|hc _ hI).mono ?_;rintro e w1 ⟨rfl,hp⟩;rw[jB hi];apply rV;have hI:=hI.pure hp;refine Th Z<|Yf Z<|Wk<|Wq<|V8 Z<|V8 Z<|Ve Z<|Tq Z<|V4 (.slice _ _ _) Z (hc _ hI)<|V0 Z<|V0 Z<|Vx Z<|V7 [.slice _ _ _,Y _,Y _] Z func119 Z<|(aaY L s j _ (nM hj) Ms (p9<|lR L s) _<|hI.n9 (X:=[])).mono ?_;rintro e w1 ⟨A,c,rfl,hJ⟩;apply rV;have hI:=hI.qB (X:=[]) hJ;refine Ve Z<|Tq Z<|xI (u:=.slice A (s.lU.eraseIdx j).length c) (j:=7) hI Z Z Z Z Z Z ai Z Z Z ?_;intro w hI;exact Wn<|Wq<|Vh Z<|Wn<|WR<|lV 4 Z ⟨⟨_,Z⟩,A,c,_,.inr ⟨j,Z,hj,Z⟩,hI⟩
theorem ar1(L:ny)(s:l8)(i:Int)(S:lF)(w0:lE)(hI:ly S w0 w0 (lR L s)):
  Cq 95 #[lJ L.sb 7,Y i] w0 fun en w'=>(∃v,en=.returned v)/\∃MA mc ms,((ms=s.lU/\¬(0<=i/\i<(s.lU.length:Int)))\/∃(j:Nat) (m:ou),i=(j:Int)/\s.lU[j]?=some m/\ms=vO s.lU m)/\ly S w0 w' (lR {L with MA:=MA,mc:=mc} {s with lU:=ms}):=by
 refine Vo func95 Z<|Wq<|Vh Z<|Wn ?_;have hc:∀w,ly S w0 w (lR L s)->w.cell? ⟨L.sb,7,none⟩=some (.slice L.MA s.lU.length L.mc):=fun w hI=>hI.cell 0 rfl rfl;by_cases hi:0<=i/\i<(s.lU.length:Int);rotate_left
 .refine Ws<|Wq<|V8 Z<|V0 Z<|V7 [.pointer _,Y _] Z func123 Z<|(J2 L.sb i _ _ _ _<|hc _ hI).mono ?_;rintro e w1 ⟨rfl,hp⟩;rw[jo hi];apply rV;have hI:=hI.pure hp;exact Tm Z<|Yt Z<|Wq<|T9 Z pd Z<|Vn Z<|Wn<|WR<|lV 4 Z ⟨⟨_,Z⟩,L.MA,L.mc,_,.inl ⟨Z,hi⟩,hI⟩
 obtain⟨j,rfl⟩:∃j:Nat,i=(j:Int):=⟨i.toNat,aa⟩
 have hj:j<s.lU.length:=aa;obtain⟨m,hm⟩:∃m,s.lU[j]?=some m:=⟨_,nM hj⟩
 refine Ws<|Wq<|V8 Z<|V0 Z<|V7 [.pointer _,Y _] Z func123 Z<|(J2 L.sb (j:Int) _ _ _ _<|hc _ hI).mono ?_;rintro e w1 ⟨rfl,hp⟩;rw[jB hi];apply rV;have hI:=hI.pure hp;refine Th Z<|Yf Z<|Wk ?_;have⟨g,o,hMA,_,nU⟩:=ad4 (aec (X:=[]) hI) hm;have vc:=hc w1 hI;rw[hMA]at vc;refine Wq<|V8 Z<|V8 Z<|Ve Z<|Tq Z<|V4 (.slice _ _ _) Z vc<|V0 Z<|Tu 9 Z Ci Z<|Uh 9 (pb m) Z (fun k u hk=>nU k u hk)<|V7 [.pointer _,.agg _] Z func121 Z<|(YG L s m (p9<|lR L s) _<|hI.n9 (X:=[])).mono ?_;rintro e w1 ⟨⟨v,rfl⟩,MA,mc,hJ⟩;apply rV;have hI:=hI.qB (X:=[]) hJ;exact Tt Z<|Wn<|WR<|lV 4 Z ⟨⟨_,Z⟩,MA,mc,_,.inr ⟨j,m,Z,hm,Z⟩,hI⟩
theorem awW(L:ny)(s:l8)(i:Int)(Ms:s.lU.length<=500)(Hw:∀m∈s.lU,m.src<1000/\m.dst<1000)(S:lF)(w0:lE)(hI:ly S w0 w0 (lR L s)):
  Cq 90 #[lJ L.sb 7,Y i] w0 fun en w'=>
   (∃n,en=.returned (.tuple #[.agg rQ,.iface 36<|Y n])/\(∀(j:Nat) (m:ou),i=(j:Int)->s.lU[j]?=some m->w9 L.cut L.lb m.src m.dst=false)/\ly S w0 w' (lR L s))\/
   (∃(j:Nat) (m:ou) (MA:lO) (mc:Nat),i=(j:Int)/\s.lU[j]?=some m/\w9 L.cut L.lb m.src m.dst/\en=.returned (.tuple #[.agg (pb m).toArray,.nilIface])/\ly S w0 w' (lR {L with MA:=MA,mc:=mc} {s with lU:=s.lU.eraseIdx j})):=by
 have hc:∀w X,ly S w0 w (X++lR L s)->w.cell? ⟨L.sb,7,none⟩=some (.slice L.MA s.lU.length L.mc):=fun w X hI=>hI.n9.cell 0 rfl rfl;refine Vo func90 Z<|Wq<|T6 (.agg rQ) rQ hI Z ?_;rintro b4 w- -hI;refine Vh Z<|Wn ?_;by_cases hi:0<=i/\i<(s.lU.length:Int);rotate_left
 .refine Wq<|V8 Z<|V0 Z<|V7 [.pointer _,Y _] Z func117 Z<|(ai7 L.sb i _ _ _ _ (hc _ [_] hI) hi).mono<|pJ hI fun w1 hp hI=>Vy Z<|Vi Z<|Vi Z<|T6 (.agg rQ) rQ hI Z ?_;rintro b6 w- -hI;apply Ta 9 rQ (.agg rQ) hI Z;intro w hI;refine V5 Z<|Wn<|Ws<|Wb<|Wq<|V3 Z<|Tm Z<|V5 Z<|Yt Z<|Ws<|Wr<|Wv Z (show lQ _ _ _ _ (.agg rQ)from Ny (qs:=[]) (vs:=[Y 0,Y 0,Y 0,Y 0,Y 0,Y 0,Y 0,Y 0,Y 0]) [Y 0,Y 0,Y 0,Y 0,Y 0,Y 0,Y 0,Y 0,Y 0] [] Z Z Z<|fun _=>ai)<|T9 rfl pd rfl<|DK (u:=.agg rQ) (vs:=rQ) (n:=9) hI rfl rfl rfl rfl rfl rfl ai rfl rfl rfl ?_;intro w hI;exact Vn Z<|Wn<|WR<|EM (n:=9) (.inr Z) Z Z ai ai Z hI.g1<|.inl ⟨_,Z,fun j m hj hm=>ll (show 0<=i/\i<(s.lU.length:Int) by have:=(oS hm).1;omega) hi,hI.d0.d0⟩
 obtain⟨j,rfl⟩:∃j:Nat,i=(j:Int):=⟨i.toNat,aa⟩
 have hj:j<s.lU.length:=aa;obtain⟨m,hm⟩:∃m,s.lU[j]?=some m:=⟨_,nM hj⟩
 have x6:=Hw m<|mZ hm;refine Wq<|V8 Z<|V0 Z<|V7 [.pointer _,Y _] Z func117 Z<|(ai8 L.sb j _ _ _ m _ _ (hc _ [_] hI) (aec (X:=[_]) hI) hm).mono<|pJ hI fun w1 hp hI=>Vy Z<|Vi Z<|Vi Z<|T6 (.agg rQ) rQ hI Z ?_;rintro b6 w- -hI;refine Ta 9 ((pb m).toArray) (.agg (pb m).toArray) hI Z ?_;intro w hI;refine V5 Z<|Wn<|Ws<|Wb<|Wq<|V3 Z<|Th Z<|V5 Z<|Yf Z ?_;have anP:∀w,ly S w0 w ([B b6 218 (pb m).toArray,B b4 218 rQ]++lR L s)->Cq 118 #[lJ L.sb 7,lI m.src,lI m.dst] w fun en w'=>en=.returned (.bool<|w9 L.cut L.lb m.src m.dst)/\Pure w w':=fun w hI=>ajF L.sb m.src m.dst L.cut L.LA L.ln L.lc L.lv L.lb L.LD (fun _=>True) w (hI.n9.cell 0 rfl rfl) (hI.n9.cell 0 rfl rfl) (Rd.wP (hI.n9.ok _<|mZ (i:=5) rfl).1<|fun _ _ _=>trivial) (hI.n9.ok _<|mZ (i:=6) rfl).1.2.1 (fun i v l hv hl=>((hI.n9.ok _<|mZ (i:=6) rfl).1.2.2 i v l hv hl).1) x6.1 x6.2
 refine Wq<|V8 Z<|V6 0 Z<|Yc hI Z Z<|V6 1 Z<|Yc hI Z Z<|V7 [.pointer _,Y _,Y _] Z func118 Z<|(anP _ hI).mono<|pJ hI fun w1 hp hI=>Wv Z (by exact Yh rfl rfl)<|V5 Z<|Wn ?_;generalize MJ:w9 L.cut L.lb m.src m.dst=r;cases r with
 |false=>refine Wc true Z<|Ws<|Wr<|Wv Z (show lQ _ _ _ _ (.agg rQ)from Ny (qs:=[]) (vs:=[Y 0,Y 0,Y 0,Y 0,Y 0,Y 0,Y 0,Y 0,Y 0]) [Y 0,Y 0,Y 0,Y 0,Y 0,Y 0,Y 0,Y 0,Y 0] [] Z Z Z<|fun _=>ai)<|T9 rfl pd rfl<|DK (u:=.agg rQ) (vs:=rQ) (n:=9) hI rfl rfl rfl rfl rfl rfl ai rfl rfl rfl ?_;intro w hI;exact Vn Z<|Wn<|WR<|EM (n:=9) (.inr Z) Z Z ai ai Z hI.g1<|.inl ⟨_,Z,fun j' m' xl ve=>(by cases(show j=j' by omega);rw[hm]at ve;cases ve;exact MJ),hI.d0.d0⟩
 |true=>refine Wc false Z<|Wk ?_;have rJ:∀w,ly S w0 w ([B b6 218 (pb m).toArray,B b4 218 rQ]++lR L s)->w.cell? ⟨L.sb,7,none⟩=some (.slice L.MA s.lU.length L.mc):=fun w hI=>hc w _ hI;refine Wq<|V8 Z<|V8 Z<|Ve Z<|Tq Z<|V4 (.slice _ _ _) Z (rJ _ hI)<|V0 Z<|V0 Z<|Vx Z<|V7 [.slice _ _ _,Y _,Y _] Z func119 Z<|(aaY L s j m hm Ms (p9<|lR L s) _<|hI.n9 (X:=[_,_])).mono ?_;rintro e w1 ⟨A,c,rfl,hJ⟩;apply rV;have hI:=hI.qB (X:=[_,_]) hJ;refine Ve Z<|Tq Z<|La (u:=.slice A (s.lU.eraseIdx j).length c) (j:=7) hI Z Z Z Z Z Z ai Z Z Z ?_;intro w hI;refine Wn<|Ws<|Wr<|Uh 9 (pb m) Z (fun k u hk=>hI.cell 0 Z az) ?_;refine DK (u:=.agg (pb m).toArray) (vs:=(pb m).toArray) (n:=9) hI Z Z Z Z Z Z ai Z Z Z ?_;intro w hI;exact Vh Z<|Wn<|WR<|EM (n:=9) (.inr Z) Z Z ai ai Z hI.g1<|.inr ⟨j,m,A,c,Z,hm,MJ,Z,hI.d0.d0⟩
theorem XX{P:lY}{ρ:lB}{o:Oper}{x:mN}{t':lT}{a:Nat}(ho:o.op=.binOp .add t x y t')(hx:ev ρ x=lI a)(hy:ev ρ y=lI b)(h:a+b<=9223372036854775807):lQ P ρ o w (Y ((a+b:Nat):Int)):=by have:=H9 (P:=P) (w:=w) ho hx hy aa;rw[show((a+b:Nat):Int)=(a:Int)+(b:Int)from Int.natCast_add a b];exact this
def xa(k:Nat)(L:ny)(s:l8)(c:Nat)(x:qy)(cv:lH):Array Value:=nF k fun i=>if i=c then u5 x cv else qC L s i
structure GI(w:lE)(b o:Nat)(x:qy)(cv:lH):Prop where
 c0:w.cell? ⟨b,o,none⟩=some (.bool x.busy)
 c1:w.cell? ⟨b,o+1,none⟩=some (.bool x.gone)
 c2:w.cell? ⟨b,o+2,none⟩=some (.int .i64 x.mz.proc)
 c3:w.cell? ⟨b,o+3,none⟩=some (.int .i64 x.mz.ty)
 c4:w.cell? ⟨b,o+4,none⟩=some (.int .i64 x.mz.key)
 c5:w.cell? ⟨b,o+5,none⟩=some (.int .i64 x.mz.kind)
 c6:w.cell? ⟨b,o+6,none⟩=some (.int .i64 x.mz.a)
 c7:w.cell? ⟨b,o+7,none⟩=some (.int .i64 x.mz.b)
 c8:w.cell? ⟨b,o+8,none⟩=some (.int .i64 x.mz.res)
 c9:w.cell? ⟨b,o+9,none⟩=some (.bool x.wR)
 Lj:w.cell? ⟨b,o+10,none⟩=some (.int .i64 (x.round:Int))
 SL:w.cell? ⟨b,o+11,none⟩=some cv
 c12:w.cell? ⟨b,o+12,none⟩=some (.int .i64 (x.mF.t:Int))
 c13:w.cell? ⟨b,o+13,none⟩=some (.int .i64 x.mF.c)
 xM:w.cell? ⟨b,o+14,none⟩=some (.int .i64 x.mF.v)
theorem aaE{o:Nat}{f:Nat->List Value}{x:qy}{cv:lH}(h:mV w b t (nF k f))(hm:∀i,(f i).length=15)(hi:i<k)(hf:f i=u5 x cv)(ho:o=i*15):GI w b o x cv:=by
 subst ho;have g:∀(j:Nat) (v:lH),(u5 x cv)[j]?=some v->w.cell? ⟨b,i*15+j,none⟩=some v:=fun j v hv=>by rw[h.cell];exact TQ hm hi (by rw[hf];exact hv)
 exact⟨g 0 _ Z,g 1 _ Z,g 2 _ Z,g 3 _ Z,g 4 _ Z,g 5 _ Z,g 6 _ Z,g 7 _ Z,g 8 _ Z,g 9 _ Z,g 10 _ Z,g 11 _ Z,g 12 _ Z,g 13 _ Z,g 14 _ Z⟩
section
variable{k c:Nat}{L:ny}{s:l8}{x x':qy}{cv cv':lH}
theorem IX(i:Nat):(if i=c then u5 x cv else qC L s i).length=15:=by split<;>rfl
theorem IY:xa k L s c (s.cl c) (pn L s c)=nF k (qC L s):=I4 fun i _=>by
 by_cases h:i=c
 .subst h;rw[lq rfl];rfl
 rw[lp h]
theorem aaH{L':ny}{s':l8}(h:u5 x cv=qC L' s' c)(h':∀i,i<k->i≠c->qC L s i=qC L' s' i):xa k L s c x cv=nF k (qC L' s'):=I4 fun i hi=>by
 by_cases om:i=c
 .subst om;rw[lq rfl];exact h
 rw[lp om];exact h' i hi om
theorem ajP:(xa k L s c x cv).size=k*15:=D5 fun i=>IX i
theorem Lr(hc:c<k)(hj:j<15):0+c*15+j<(xa k L s c x cv).size:=by rw[ajP];have:=fX 15<|Nat.succ_le_of_lt hc;rw[j9]at this;omega
theorem Lq(hc:c<k)(hj:j<15):Nat.blt (0+c*15+j) (xa k L s c x cv).size:=by rw[Nat.blt_eq];exact Lr hc hj
theorem SV(hc:c<k):Nat.blt (0+c*15) (xa k L s c x cv).size:=Lq (j:=0) hc aa
theorem Ls(hc:c<k)(j:Nat)(hj:j<15)(h:u5 x' cv'=(u5 x cv).take j++[v]++(u5 x cv).drop (j+1)):(xa k L s c x cv).setIfInBounds (0+c*15+j) v=xa k L s c x' cv':=by rw[kg];exact alT (fun i=>IX i) (fun i=>IX i) hc hj (fun i hi=>by rw[lp hi,lp hi]) (by rw[lq rfl,lq rfl];exact h)
theorem SW(hc:c<k)(h:u5 x' cv'=(u5 x cv).take 0++[v]++(u5 x cv).drop 1):(xa k L s c x cv).setIfInBounds (0+c*15) v=xa k L s c x' cv':=Ls hc 0 aa h
theorem OJ(hc:c<k)(j:Nat){vs:mb}(hj:j+vs.length<=15)(h:u5 x' cv'=(u5 x cv).take j++vs++(u5 x cv).drop (j+vs.length)):sd (xa k L s c x cv) (0+c*15+j) vs=xa k L s c x' cv':=by rw[kg];exact O0 (fun i=>IX i) (fun i=>IX i) hc hj (fun i hi=>by rw[lp hi,lp hi]) (by rw[lq rfl,lq rfl];exact h)
theorem ajO{H:List lN}(i:Nat)(hi:H[i]?=some (B b t (xa k L s c x cv)))(hI:ly S w0 w H)(hc:c<k):GI w b (0+c*15) x cv:=aaE (hI.ok _<|mZ hi).1 (fun i=>IX i) hc (lq rfl) (kg _)
theorem Lp{H:List lN}(i:Nat)(hi:H[i]?=some (B b t (nF k (qC L s))))(hI:ly S w0 w H)(hc:c<k):GI w b (0+c*15) (s.cl c) (pn L s c):=aaE (hI.ok _<|mZ hi).1 (fun i=>aaG L s i) hc rfl (kg _)
end
theorem aqJ(t1 c1 t2 c2:Int)(w0:lE):Cq 120 #[.agg #[Y t1,Y c1],.agg #[Y t2,Y c2]] w0 fun en w'=>en=.returned (.bool (decide (t1<t2\/(t1=t2/\c1<c2))))/\Pure w0 w':=by
 have hI:=ly.start (fun _=>False) w0;refine Vo func120 Z<|Wq<|Tg (.agg _) (#[_,_]) hI Z ?_;rintro b2 w- -hI;apply Tg (.agg _) (#[_,_]) hI Z;rintro b3 w- -hI;refine V5 Z<|Wn ?_;by_cases h1:t1<t2
 .refine Wq<|V6 0 Z<|Yd hI Z Z<|V6 0 Z<|Yc hI Z Z<|Vt Z<|V3 Z<|V2 Z<|V2 Z<|V2 Z<|V2 Z<|V2 Z<|V2 Z<|V2 Z<|V2 Z<|V2 Z<|V2 Z<|V2 Z<|V2 Z<|Vg Z<|V5 Z<|Wn<|WR<|lV 4 Z ⟨?_,hI.pu⟩;rw[jB aa];rfl
 by_cases h2:t1=t2
 .by_cases h3:c1<c2
  .refine Wq<|V6 0 Z<|Yd hI Z Z<|V6 0 Z<|Yc hI Z Z<|Vq Z<|V3 Z<|V6 0 Z<|Yd hI Z Z<|V6 0 Z<|Yc hI Z Z<|Vz Z<|V3 Z<|V6 1 Z<|Yd hI Z Z<|V6 1 Z<|Yc hI Z Z<|Vt Z<|Vg Z<|Va Z<|V5 Z<|Wn<|WR<|lV 4 Z ⟨?_,hI.pu⟩;rw[jB aa];rfl
  refine Wq<|V6 0 Z<|Yd hI Z Z<|V6 0 Z<|Yc hI Z Z<|Vq Z<|V3 Z<|V6 0 Z<|Yd hI Z Z<|V6 0 Z<|Yc hI Z Z<|Vz Z<|V3 Z<|V6 1 Z<|Yd hI Z Z<|V6 1 Z<|Yc hI Z Z<|Vq Z<|Vg Z<|Va Z<|V5 Z<|Wn<|WR<|lV 4 Z ⟨?_,hI.pu⟩;rw[jo aa];rfl
 refine Wq<|V6 0 Z<|Yd hI Z Z<|V6 0 Z<|Yc hI Z Z<|Vq Z<|V3 Z<|V6 0 Z<|Yd hI Z Z<|V6 0 Z<|Yc hI Z Z<|Vv Z<|V3 Z<|V2 Z<|V2 Z<|V2 Z<|V2 Z<|V2 Z<|Va Z<|Va Z<|V5 Z<|Wn<|WR<|lV 4 Z ⟨?_,hI.pu⟩;rw[jo aa];rfl
theorem adW(a b:qR)(w0:lE):Cq 120 #[.agg (qk a).toArray,.agg (qk b).toArray] w0 fun en w'=>en=.returned (.bool (decide (a.less b)))/\Pure w0 w':=by refine(aqJ (a.t:Int) a.c (b.t:Int) b.c w0).mono ?_;rintro e w' ⟨rfl,hp⟩;refine⟨?_,hp⟩;congr 2;apply iL.2;unfold qR.less;omega
theorem Rn(b:Nat)(c:Int)(A:lO)(n cc:Nat)(w0:lE)(hc:w0.cell? ⟨b,6,none⟩=some (.slice A n cc)):
  Cq 114 #[lJ b 0,Y c] w0 fun en w'=>en=.returned (.bool<|decide (0<=c/\c<(n:Int)))/\Pure w0 w':=by
 have hI:=ly.start (fun _=>False) w0;refine Vo func114 Z<|Wq<|V5 Z<|Wn ?_;by_cases h0:c<0
 .refine Wq<|V8 Z<|Wv Z (Yk Z Du Z Z)<|V3 Z<|V0 Z<|Ua Z<|Vg Z<|V3 Z<|V2 Z<|V2 Z<|V2 Z<|V2 Z<|V2 Z<|V2 Z<|V2 Z<|Va Z<|V5 Z<|Wn<|WR<|lV 4 Z ⟨?_,hI.pu⟩;rw[jo aa];rfl
 by_cases h1:c<(n:Int)
 .refine Wq<|V8 Z<|Wv Z (Yk Z Du Z Z)<|V3 Z<|V0 Z<|Tw Z<|Vg Z<|V3 Z<|V0 Z<|V8 Z<|Ve Z<|V6 6 Z<|V4 (.slice _ _ _) Z (hI.my hc)<|Vp Z xG Z<|Vt Z<|Vg Z<|V5 Z<|Wn<|WR<|lV 4 Z ⟨?_,hI.pu⟩;rw[jB aa];rfl
 refine Wq<|V8 Z<|Wv Z (Yk Z Du Z Z)<|V3 Z<|V0 Z<|Tw Z<|Vg Z<|V3 Z<|V0 Z<|V8 Z<|Ve Z<|V6 6 Z<|V4 (.slice _ _ _) Z (hI.my hc)<|Vp Z xG Z<|Vq Z<|Vg Z<|V5 Z<|Wn<|WR<|lV 4 Z ⟨?_,hI.pu⟩;rw[jo aa];rfl
theorem TH(l:List Ev)(e:Ev):(l++[e]).flatMap nu=l.flatMap nu++nu e:=aq
theorem Y5(l:List qR)(e:qR):(l++[e]).flatMap qk=l.flatMap qk++qk e:=aq
theorem YE(L:ny)(s:l8)(e:Ev)(st:qR)(S:lF)(w0:lE)(hI:ly S w0 w0 (lR L s))(hl:s.evs.length<=1000/\s.sts.length<=1000):
  Cq 115 #[lJ L.sb 0,.agg (nu e).toArray,.agg (qk st).toArray] w0 fun en w'=>en=.returned (.tuple #[])/\∃EA ec SA sc,ly S w0 w' (lR {L with EA:=EA,ec:=ec,SA:=SA,sc:=sc}<|rN s e st):=by
 unfold lR at hI;refine Vo func115 Z<|Wq<|Tg (.agg (nu e).toArray) ((nu e).toArray) hI Z ?_;rintro b4 w- -hI;refine Tg (.agg (qk st).toArray) ((qk st).toArray) hI Z ?_;rintro b5 w- -hI;apply Wn;replace hI:=(hI.pull 9 rfl).pull 10 rfl;replace hI:ly S w0 w [lz 0 137 2 L.SA s.sts.length L.sc (s.sts.flatMap qk),lz 0 66 7 L.EA s.evs.length L.ec<|s.evs.flatMap nu,B b5 137 (qk st).toArray,B b4 66 (nu e).toArray,B L.sb 135<|Iq L s,B L.nb 140<|nF (s.n*8)<|zK s,B L.cb 246<|nF s.k<|qC L s,np s.k<|sE L s,lz 0 218 9 L.MA s.lU.length L.mc<|s.lU.flatMap pb,lz 0 155 1 L.LA L.ln L.lc L.lv,oq L.lv L.LD L.lb]:=hI;refine Wd ai<|ZS (fun _=>True) []<|Wt 1 Z (hS:=trivial) (fun W _=>(by exact Yb rfl rfl))<|aiN<|Wi (T:=[18]) hI.d0.d0.drew ?_;intro Sx hY hZ;have hI:=hI.drew;refine Vj 0 Z<|Vj 2 Z<|Vk 3 Z<|Vd 4 10 Z<|V9 5 (.slice _ _ _) Z (lL hY fun h=>h.c2 Z)<|Ui 6 7 (nu e) Z (lL hY fun hI=>fun k u hk=>hI.cell 1 Z az) ?_;refine Vj 9 Z<|Vk 10 Z<|Vd 11 11 Z<|V9 12 (.slice _ _ _) Z (lL hY fun h=>h.c2 Z)<|Ui 13 2 (qk st) Z (lL hY fun hI=>fun k u hk=>hI.cell 0 Z az) ?_;refine DN 7 14 Z Z ai Z Z ?_ ?_
 .refine T7 [(0,.agg (nu e).toArray)] (nu e) [Y 0,Y 0,Y 0,Y 0,Y 0,Y 0,Y 0] [0] hI Z sN (fun _=>ai) ?_;rintro CB w- -hI;refine Wn ⟨hZ _ hI.d0.d0.d0,(DN 8 14 Z Z ai Z Z ?_ ?_)⟩
  .apply GU (z:=.agg za) (by_:=56) (aBp:=nu e) hI Z Z Z Z Z Z sN ai Z aa (by rfl) dO Z aa aa (kz _);rintro zb xM w _ UT hI;refine Wn ⟨hZ _ hI.d0.d0.d0,(Vr 14 Z<|T7 [(0,.agg (qk st).toArray)] (qk st) [Y 0,Y 0] [0] hI Z underlying133 (fun _=>ai) ?_)⟩;rintro Z9 w- -hI;refine Wn ⟨hZ _ hI.d0.d0.d0.d0,(Vr 15 Z<|GU (z:=.agg #[Y 0,Y 0]) (by_:=16) (aBp:=qk st) hI Z Z Z Z Z Z underlying133 ai Z aa (by rfl) dO Z aa aa (kz _) ?_)⟩;rintro E9 c21 w _ acb hI;refine Wn ⟨hZ _ hI.d0.d0.d0.d0,(Vk 16 (hS_:=hZ _ hI.d0.d0.d0.d0) Z<|Vd 17 10 (hS_:=hZ _ hI.d0.d0.d0.d0) Z<|qn ai ?_)⟩;refine Tc 18 Z<|sQ 6 Z (u:=.slice zb (s.evs.length+1) xM) (j:=10) hI Z Z Z Z Z Z ai Z Z Z ?_;intro w hI;refine Wn<|Tc 19 Z<|Ve Z<|Wn<|Tc 20 Z<|V6 11 Z<|Wn<|Tc 21 Z<|sQ 6 Z (u:=.slice E9 (s.sts.length+1) c21) (j:=11) hI Z Z Z Z Z Z ai Z Z Z ?_;intro w hI;refine Wn<|qm ai<|tj (.inl Z) Z ⟨Z,zb,xM,E9,c21,?_⟩;have e1:(s.evs++[e]).length=s.evs.length+1:=aq;have e2:(s.sts++[st]).length=s.sts.length+1:=aq;rw[<-TH,<-Y5,<-e1,<-e2]at hI;exact(((hI.d0.d0.erase 2).erase 2).back 8).back 7
  refine T7 [(0,.agg (qk st).toArray)] (qk st) [Y 0,Y 0] [0] hI Z underlying133 (fun _=>ai) ?_;rintro Z9 w- -hI;refine Wn ⟨hZ _ hI.d0.d0.d0.d0,(Vr 8 Z<|Si (z:=.agg za) (by_:=56) (aBp:=nu e) hI Z Z Z Z Z Z sN ai Z aa (by rfl) (by exact hI.d0.qP) Z aa aa (kz _) ?_)⟩;rintro zb xM w _ UT hI;refine Wn ⟨hZ _ hI.d0.d0.d0.d0,(Vr 15 Z<|GU (z:=.agg #[Y 0,Y 0]) (by_:=16) (aBp:=qk st) hI Z Z Z Z Z Z underlying133 ai Z aa (by rfl) dO Z aa aa (kz _) ?_)⟩;rintro E9 c21 w _ acb hI;refine Wn ⟨hZ _ hI.d0.d0.d0.d0,(Vk 16 (hS_:=hZ _ hI.d0.d0.d0.d0) Z<|Vd 17 10 (hS_:=hZ _ hI.d0.d0.d0.d0) Z<|qn ai ?_)⟩;refine Tc 18 Z<|sQ 6 Z (u:=.slice zb (s.evs.length+1) xM) (j:=10) hI Z Z Z Z Z Z ai Z Z Z ?_;intro w hI;refine Wn<|Tc 19 Z<|Ve Z<|Wn<|Tc 20 Z<|V6 11 Z<|Wn<|Tc 21 Z<|sQ 6 Z (u:=.slice E9 (s.sts.length+1) c21) (j:=11) hI Z Z Z Z Z Z ai Z Z Z ?_;intro w hI;refine Wn<|qm ai<|tj (.inl Z) Z ⟨Z,zb,xM,E9,c21,?_⟩;have e1:(s.evs++[e]).length=s.evs.length+1:=aq;have e2:(s.sts++[st]).length=s.sts.length+1:=aq;rw[<-TH,<-Y5,<-e1,<-e2]at hI;exact(((hI.d0.d0.erase 2).erase 2).back 8).back 7
 refine T7 [(0,.agg (qk st).toArray)] (qk st) [Y 0,Y 0] [0] hI Z underlying133 (fun _=>ai) ?_;rintro Z9 w- -hI;refine Wn ⟨hZ _ hI.d0.d0.d0,(Vr 7 Z<|T7 [(0,.agg (nu e).toArray)] (nu e) [Y 0,Y 0,Y 0,Y 0,Y 0,Y 0,Y 0] [0] hI Z sN (fun _=>ai) ?_)⟩;rintro CB w- -hI;refine Wn ⟨hZ _ hI.d0.d0.d0.d0,(Vr 8 Z<|Si (z:=.agg za) (by_:=56) (aBp:=nu e) hI Z Z Z Z Z Z sN ai Z aa (by rfl) dO Z aa aa (kz _) ?_)⟩;rintro zb xM w _ UT hI;refine Wn ⟨hZ _ hI.d0.d0.d0.d0,(Vr 15 Z<|GU (z:=.agg #[Y 0,Y 0]) (by_:=16) (aBp:=qk st) hI Z Z Z Z Z Z underlying133 ai Z aa (by rfl) (by exact hI.d0.qP) Z aa aa (kz _) ?_)⟩;rintro E9 c21 w _ acb hI;refine Wn ⟨hZ _ hI.d0.d0.d0.d0,(Vk 16 (hS_:=hZ _ hI.d0.d0.d0.d0) Z<|Vd 17 10 (hS_:=hZ _ hI.d0.d0.d0.d0) Z<|qn ai ?_)⟩;refine Tc 18 Z<|sQ 6 Z (u:=.slice zb (s.evs.length+1) xM) (j:=10) hI Z Z Z Z Z Z ai Z Z Z ?_;intro w hI;refine Wn<|Tc 19 Z<|Ve Z<|Wn<|Tc 20 Z<|V6 11 Z<|Wn<|Tc 21 Z<|sQ 6 Z (u:=.slice E9 (s.sts.length+1) c21) (j:=11) hI Z Z Z Z Z Z ai Z Z Z ?_;intro w hI;refine Wn<|qm ai<|tj (.inl Z) Z ⟨Z,zb,xM,E9,c21,?_⟩;have e1:(s.evs++[e]).length=s.evs.length+1:=aq;have e2:(s.sts++[st]).length=s.sts.length+1:=aq;rw[<-TH,<-Y5,<-e1,<-e2]at hI;exact(((hI.d0.d0.erase 2).erase 2).back 8).back 7
theorem agr(s:l8)(c what:Nat)(e:qR)(j:Nat):wQ s c what e (j+1)=vO (wQ s c what e j) (AM s c what e j):=by unfold wQ;rw[jf,gV];rfl
theorem aui(n:Nat):rep (.bool false) n=(qa (List.replicate n false)).toArray:=by apply kH;simp[rep,qa]
theorem ly.ajV{H:List lN}{L L':ny}{s s':l8}(h:ly S w0 w (B b 4 (qa (s'.cl c).counted).toArray::np s.k (sE L s)::H))(hc:c<s.k)(hw:L'.cw c=some b)
  (ho:∀i,i<s.k->i≠c->sE L s i=sE L' s' i):ly S w0 w (np s.k (sE L' s')::H):=by
 have h1:=(((h.pQ).ad6 hc).d0).pQ;refine(h1.Xq hc<|lq Z).Qx fun i hi=>?_;by_cases om:i=c
 .subst om;rw[lq rfl];unfold sE;rw[hw]
 rw[lp om,lp om];exact ho i hi om
theorem ag5(L:ny)(s:l8)(c what:Nat)(e:qR)(hc:c<s.k)(rY:s.k<=8)(hn:1<=s.n/\s.n<=7)(hr:(s.cl c).round<=1000000)(hk:0<=(s.cl c).mz.key)(S:lF)(w0:lE)(hI:ly S w0 w0 (lR L s)):
  Cq 116 #[lJ L.sb 0,lI c,lI what,.agg (oI e).toArray] w0 fun en w'=>en=.returned (.tuple #[])/\∃b MA mc,ly S w0 w' (lR {L with cw:=fun i=>if i=c then some b else L.cw i,MA:=MA,mc:=mc}<|y5 s c what e):=by
 unfold lR at hI;rw[<-IY (c:=c)]at hI;refine Vo func116 Z<|Wq<|Tg (.agg (oI e).toArray) ((oI e).toArray) hI Z ?_;rintro b7 w- -hI;apply Wn;obtain⟨x,hx⟩:∃x,s.cl c=x:=⟨_,rfl⟩
 rw[hx]at hI hr hk;refine Wq<|V8 Z<|Ve Z<|V6 6 Z<|V4 (.slice _ _ _) Z (hI.c1 Z)<|V0 Z<|Tu 15 Z xG Z<|Uf Z<|Wn<|Wq<|V8 Z<|Ve Z<|Tl 10 Z<|V4 (Y _) Z ((ajO 3 Z hI hc).Lj)<|Vx Z<|Ve Z<|Tl 10 Z<|sQ 3 Z (u:=Y ((x.round+1:Nat):Int)) (j:=0+c*15+10) hI Z Z Z Z Z Z ai Z (Lq hc aa) (Ls (x:=x) (cv:=pn L s c) (cv':=pn L s c) (x':={x with round:=x.round+1}) hc 10 aa Z) ?_;intro w hI;refine Wn<|Wq<|V8 Z<|V0 Z<|Wv Z (by exact EI rfl rfl rfl)<|Ve Z<|Tl 9 Z<|sQ 3 Z (u:=.bool<|decide ((what:Int)=2)) (j:=0+c*15+9) hI Z Z Z Z Z Z ai Z (Lq hc aa) (Ls (x:={x with round:=x.round+1}) (cv:=pn L s c) (cv':=pn L s c) (x':={x with round:=x.round+1,wR:=decide ((what:Int)=2)}) hc 9 aa Z) ?_;intro w hI;refine Wn<|Wq<|V8 Z<|V8 Z<|Ve Z<|V6 0 Z<|V6 0 Z<|Yd hI Z Z<|ZW (by_:=1) (z:=.bool false) hI Z Z Z Z Z Z oZ ai Z aa aa ?_;rintro Bg w- -hI;refine Ve Z<|Tl 11 Z<|sQ 4 Z (u:=me Bg 0 s.n s.n) (j:=0+c*15+11) hI Z Z Z Z Z Z ai Z (Lq hc aa) (Ls (x:={x with round:=x.round+1,wR:=decide ((what:Int)=2)}) (cv:=pn L s c) (x':={x with round:=x.round+1,wR:=decide ((what:Int)=2)}) (cv':=me Bg 0 s.n s.n) hc 11 aa Z) ?_;intro w hI;apply Wn;have hdt:decide ((what:Int)=2)=decide (what=2):=iL.2 aa;rw[hdt]at hI;obtain⟨s1,nZ⟩:∃s1,mJ s c (tI s c what)=s1:=⟨_,rfl⟩
 obtain⟨L1,vy⟩:∃L1:ny,{L with cw:=fun i=>if i=c then some Bg else L.cw i}=L1:=⟨_,rfl⟩
 have tD:s1.cl c=tI s c what:=by rw[<-nZ];exact lq rfl
 have acn:L1.cw c=some Bg:=by rw[<-vy];exact lq rfl
 have acg:∀i,i≠c->s1.cl i=s.cl i:=fun i hi=>by rw[<-nZ];exact lp hi
 have acp:∀i,i≠c->L1.cw i=L.cw i:=fun i hi=>by rw[<-vy];exact lp hi
 have rn:s1.n=s.n:=aJ;have sG:s1.k=s.k:=aJ;have rm:s1.lU=s.lU:=aJ;have VE:pn L1 s1 c=me Bg 0 s.n s.n:=by unfold pn;rw[acn,rn]
 have vx:qC L1 s1 c=u5 {x with round:=x.round+1,wR:=decide (what=2)} (me Bg 0 s.n s.n):=by
  unfold qC;rw[tD,VE,<-hx]
  rfl
 have An:xa s.k L s c {x with round:=x.round+1,wR:=decide (what=2)} (me Bg 0 s.n s.n)=nF s.k (qC L1 s1):=aaH vx.symm fun i hi om=>by unfold qC pn;rw[acg i om,acp i om,rn]
 replace hI:ly S w0 w ([B b7 139 (oI e).toArray]++lR L1 s1):=by
  rw[aui]at hI;replace hI:=(hI.pull 5 rfl).pQ
  have h2:ly S w0 w [B Bg 4 (qa (s1.cl c).counted).toArray,np s.k (sE L s),B b7 139 (oI e).toArray,B L.sb 135 (Iq L s),B L.nb 140 (nF (s.n*8) (zK s)),B L.cb 246 (nF s.k (qC L1 s1)),lz 0 218 9 L.MA s.lU.length L.mc (s.lU.flatMap pb),
    lz 0 155 1 L.LA L.ln L.lc L.lv,oq L.lv L.LD L.lb,lz 0 66 7 L.EA s.evs.length L.ec (s.evs.flatMap nu),lz 0 137 2 L.SA s.sts.length L.sc (s.sts.flatMap qk)]:=by
   rw[tD,<-An];exact hI
  have h3:=(h2.ajV (L':=L1) (s':=s1) hc acn<|fun i hi om=>by unfold sE;rw[acg i om,acp i om]).back 4;subst nZ vy;exact h3
 have wI:(s1.cl c).round=(s.cl c).round+1:=by rw[tD];rfl
 have aoy:(s1.cl c).mz.key=((Gb s c:Nat):Int):=by rw[tD];show(s.cl c).mz.key=_;unfold Gb;rw[hx];omega
 have hq:∀w MA mc ms,ly S w0 w ([B b7 139 (oI e).toArray]++lR {L1 with MA:=MA,mc:=mc} {s1 with lU:=ms})->w.cell? ⟨L.cb,0+c*15+10,none⟩=some (Y (((s.cl c).round+1:Nat):Int))/\w.cell? ⟨L.cb,0+c*15+4,none⟩=some (Y ((Gb s c:Nat):Int)):=fun w MA mc ms hI=>by
  have h:=Lp (c:=c) 3 rfl hI (by show c<s1.k;omega);have Ji:L1.cb=L.cb:=by rw[<-vy]
  have xf:w.cell? ⟨L1.cb,0+c*15+10,none⟩=some (Y ((s1.cl c).round:Int)):=h.Lj;have h4:w.cell? ⟨L1.cb,0+c*15+4,none⟩=some (Y (s1.cl c).mz.key):=h.c4;rw[Ji]at xf h4;rw[wI]at xf;rw[aoy]at h4;exact⟨xf,h4⟩
 have Mx:s1.n<=7:=aa;have pU:L1.sb=L.sb:=by rw[<-vy]
 have hz:wQ s c what e 0=s1.lU:=by rw[rm];rfl
 subst vy;subst nZ;refine Wq<|V8 Z<|Ve Z<|V6 5 Z<|V4 (.slice _ _ _) Z (hI.c1 Z)<|Vp Z underlying126 Z<|V0 Z<|Wn<|Wb ?_
 refine zk (fun ρ w=>∃(j:Nat) (MA:lO) (mc:Nat),j<=s.n/\lA ρ [(43,lI j),(42,lI s.n),(0,lJ L.sb 0),(1,lI c),(2,lI what),(7,lJ b7 0),(8,lJ L.cb (0+c*15))]/\
  ly S w0 w ([B b7 139 (oI e).toArray]++lR {L with cw:=fun i=>if i=c then some Bg else L.cw i,MA:=MA,mc:=mc} {mJ s c (tI s c what)with lU:=wQ s c what e j})) (fun ρ _=>s.n-cnt (ρ 43))
  ⟨0,L.MA,L.mc,aa,⟨rfl,rfl,rfl,rfl,rfl,rfl,rfl,trivial⟩,hI⟩ ?_
 rintro ρ w ⟨j,MA,mc,hj,hH,hI⟩;obtain⟨σ,rfl⟩:=hH.open;by_cases FX:j<s.n;rotate_left
 .obtain rfl:j=s.n:=aa;exact Wq<|Vq Z<|Yg Z<|WE<|tj (.inl Z) Z ⟨Z,Bg,MA,mc,hI.d0⟩
 refine Wq<|Vt Z<|Yu Z<|Wk<|Ws<|Wb<|Wq<|V0 Z<|Vb Z<|Wn<|Ws<|Yj [14] hI fun Sx hY hZ hI=>?_;refine Vw 0 Z<|Vw 1 Z<|Vj 2 Z<|Vk 3 Z<|Td 4 10 Z<|V9 5 (Y _) Z (lL hY fun hI=>(hq _ _ _ _ hI).1)<|Vj 6 Z<|Vk 7 Z<|Td 8 2 Z<|Td 9 2 Z<|V9 10 (Y _) Z (lL hY fun hI=>(hq _ _ _ _ hI).2)<|Ui 11 3 (oI e) Z (lL hY fun hI=>fun k u hk=>hI.cell 0 Z az) ?_;refine Ub 12 [(0,Y _),(1,Y _),(2,Y _),(3,Y _),(4,.agg #[_,_,_])] [_,_,_,_,_,_,_] Z [Y 0,Y 0,Y 0,Y 0,Y 0,Y 0,Y 0] [0,1,2,3,4] Z (fun _ _=>fun _=>ai)<|Vr 13 rfl<|T6 (.agg za) (za) hI rfl ?_;rintro pj w- -hI;refine Wn ⟨hZ _ hI.d0,(qn ai ?_)⟩;refine Tc 14 Z<|Ta 7 ((oY (AM s c what e j).m).toArray) (.agg (oY (AM s c what e j).m).toArray) hI Z ?_;intro w hI;refine Wn<|qm ai<|Yj [13] hI fun Sx hY hZ hI=>?_;refine Vj 0 Z<|Vk 1 Z<|Vd 2 7 Z<|Vj 3 Z<|Vk 4 Z<|Vd 5 0 Z<|Vd 6 0 Z<|V9 7 (lI s.n) Z (lL hY fun h=>h.c2 Z)<|Vw 8 Z<|Wt 9 Z (lL hY fun hI=>(XX Z Z Z aa))<|Vw 10 Z<|Ui 11 7 (oY (AM s c what e j).m) Z (lL hY fun hI=>fun k u hk=>hI.cell 0 Z az) ?_;refine Ub 12 [(0,Y ((s.n+c:Nat):Int)),(1,lI j),(2,.agg (oY (AM s c what e j).m).toArray)] (pb<|AM s c what e j) Z [Y 0,Y 0,Y 0,Y 0,Y 0,Y 0,Y 0,Y 0,Y 0] [0,1,2] Z (fun _ _=>fun _=>ai)<|qn ai ?_;refine Tc 13 Z<|V7 [.pointer _,.agg _] Z func121 Z<|(YG {L with cw:=fun i=>if i=c then some Bg else L.cw i,MA:=MA,mc:=mc} {mJ s c (tI s c what)with lU:=wQ s c what e j} (AM s c what e j) (p9 _) _<|hI.n9 (X:=[_,_])).mono ?_;rintro en w1 ⟨⟨v,rfl⟩,IH,JO,hJ⟩;apply rV;have hI:=hI.qB (X:=[_,_]) hJ;refine Wn<|qm ai<|Wr<|Vx Z<|V0 Z<|Wn ⟨⟨j+1,IH,JO,aa,O6,?_⟩,by show s.n-((j+1:Nat):Int).toNat<s.n-(j:Int).toNat;omega⟩;rw[agr];have hI:=hI.erase 0;exact hI
theorem ajX(L:ny)(s:l8)(c:Nat):(pn L s c).oneCell':=by unfold pn;split<;>rfl
theorem ajN(x:qy){cv:lH}(h:cv.oneCell'):(u5 x cv).all (·.oneCell'):=by simp[u5,Value.oneCell'];exact h
theorem alS{m:Nat}{f:Nat->List Value}(h:mV w b t (nF k f))(hm:∀i,(f i).length=m)(hi:i<k)(off:Nat)(r:mb)(hl:(f i).drop off=l++r):
  ∀(j:Nat) (v:lH),l[j]?=some v->w.cell? ⟨b,0+i*m+off+j,none⟩=some v:=fun j v hj=>by
 rw[h.cell,kg,jO];apply TQ hm hi;rw[<-gB,hl,eH (oS hj).1];exact hj
section
variable{S:lF}{w0 w:lE}{H:List lN}{b k c:Nat}{t:lT}{L:ny}{s:l8}{x:qy}{cv:lH}
theorem OI(i:Nat)(hi:H[i]?=some (B b t (nF k (qC L s))))(hI:ly S w0 w H)(hc:c<k)(off:Nat)(r:mb)(hl:(qC L s c).drop off=l++r):∀(j:Nat) (v:lH),l[j]?=some v->w.cell? ⟨b,0+c*15+off+j,none⟩=some v:=alS (hI.ok _<|mZ hi).1 (fun i=>aaG L s i) hc off r hl
theorem ajM(i:Nat)(hi:H[i]?=some (B b t (nF k (qC L s))))(hI:ly S w0 w H)(hc:c<k):∀(j:Nat) (v:lH),(qC L s c)[j]?=some v->w.cell? ⟨b,0+c*15+j,none⟩=some v:=OI i hi hI hc 0 [] (by rw[ju,iU])
end
structure zX(s:l8)(c:Int)(c':Nat):Prop where
 eq:c=(c':Int)
 lt:c'<s.k
 busy:(s.cl c').busy=false
 gone:(s.cl c').gone=false
 room:s.evs.length+2+qT s s.k<=120
theorem abE(L:ny)(s:l8)(c:Int)(rY:s.k<=8)(xY:s.evs.length<=1000)(S:lF)(w0:lE)(hI:ly S w0 w0 (lR L s)):
  Cq 88 #[lJ L.sb 0,Y c] w0 fun en w'=>((en=.returned .nilIface/\∃c',zX s c c')\/((∃n,en=.returned (.iface 36<|Y n))/\∀c',¬zX s c c'))/\ly S w0 w' (lR L s):=by
 refine Vo func88 Z<|Wq<|Vh Z<|Wn ?_;have UW:∀w X,ly S w0 w (X++lR L s)->w.cell? ⟨L.sb,6,none⟩=some (me L.cb 0 s.k s.k):=fun w X hI=>hI.n9.cell 0 rfl rfl;by_cases hc:0<=c/\c<(s.k:Int);rotate_left
 .refine Ws<|Wq<|V8 Z<|V0 Z<|V7 [.pointer _,Y _] Z func114 Z<|(Rn L.sb c _ _ _ _<|UW _ [] hI).mono ?_;rintro e w1 ⟨rfl,hp⟩;rw[jo hc];apply rV;have hI:=hI.pure hp;exact Tm Z<|Yt Z<|Wq<|T9 Z pd Z<|Vn Z<|Wn<|WR<|lV 4 Z ⟨.inr ⟨⟨_,Z⟩,fun c' hm=>hc (by have:=hm.eq;have:=hm.lt;omega)⟩,hI⟩
 obtain⟨j,rfl⟩:∃j:Nat,c=(j:Int):=⟨c.toNat,aa⟩
 have hj:j<s.k:=aa;refine Ws<|Wq<|V8 Z<|V0 Z<|V7 [.pointer _,Y _] Z func114 Z<|(Rn L.sb (j:Int) _ _ _ _<|UW _ [] hI).mono ?_;rintro e w1 ⟨rfl,hp⟩;rw[jB hc];apply rV;have hI:=hI.pure hp;refine Th Z<|Yf Z<|Wk ?_;have hq:∀w,ly S w0 w (lR L s)->GI w L.cb (0+j*15) (s.cl j) (pn L s j):=fun w hI=>Lp 2 rfl hI hj;have Jh:∀w,ly S w0 w (lR L s)->w.cell? ⟨L.sb,6,none⟩=some (me L.cb 0 s.k s.k):=fun w hI=>UW w [] hI;have anI:∀w,ly S w0 w (lR L s)->w.cell? ⟨L.sb,10,none⟩=some (.slice L.EA s.evs.length L.ec):=fun w hI=>hI.cell 0 rfl rfl;refine Ws<|Wx (fun ρ w=>(((s.cl j).busy\/(s.cl j).gone)->ρ 30=.bool true)/\((s.cl j).busy=false->(s.cl j).gone=false->ρ 30=.bool false)/\lA ρ [(0,lJ L.sb 0),(1,lI j)]/\ly S w0 w (lR L s)) ?_ ?_
 .cases hb:(s.cl j).busy with
  |true=>
   have CX:∀w,ly S w0 w (lR L s)->w.cell? ⟨L.cb,0+j*15,none⟩=some (.bool true):=fun w hI=>by have:=(hq w hI).c0;rw[hb]at this;exact this
   exact Wr<|V8 Z<|Ve Z<|V6 6 Z<|V4 (.slice _ _ _) Z (Jh _ hI)<|V0 Z<|Tu 15 Z xG Z<|Tq Z<|V4 (.bool _) Z (CX _ hI)<|V3 Z<|V2 Z<|V2 Z<|V2 Z<|V2 Z<|V2 Z<|V2 Z<|V2 Z<|V2 Z<|Vg Z<|Wn ⟨fun _=>Z,fun h=>(by cases h),yD,hI⟩
  |false=>
   have CX:∀w,ly S w0 w (lR L s)->w.cell? ⟨L.cb,0+j*15,none⟩=some (.bool false):=fun w hI=>by have:=(hq w hI).c0;rw[hb]at this;exact this
   cases FW:(s.cl j).gone with
   |true=>
    have Wz:∀w,ly S w0 w (lR L s)->w.cell? ⟨L.cb,0+j*15+1,none⟩=some (.bool true):=fun w hI=>by have:=(hq w hI).c1;rw[FW]at this;exact this
    exact Wr<|V8 Z<|Ve Z<|V6 6 Z<|V4 (.slice _ _ _) Z (Jh _ hI)<|V0 Z<|Tu 15 Z xG Z<|Tq Z<|V4 (.bool _) Z (CX _ hI)<|V3 Z<|V8 Z<|Ve Z<|V6 6 Z<|V4 (.slice _ _ _) Z (Jh _ hI)<|V0 Z<|Tu 15 Z xG Z<|Tl 1 Z<|V4 (.bool _) Z (Wz _ hI)<|Va Z<|Wn ⟨fun _=>Z,fun _ h=>(by cases h),yD,hI⟩
   |false=>
    have Wz:∀w,ly S w0 w (lR L s)->w.cell? ⟨L.cb,0+j*15+1,none⟩=some (.bool false):=fun w hI=>by have:=(hq w hI).c1;rw[FW]at this;exact this
    refine Wr<|V8 Z<|Ve Z<|V6 6 Z<|V4 (.slice _ _ _) Z (Jh _ hI)<|V0 Z<|Tu 15 Z xG Z<|Tq Z<|V4 (.bool _) Z (CX _ hI)<|V3 Z<|V8 Z<|Ve Z<|V6 6 Z<|V4 (.slice _ _ _) Z (Jh _ hI)<|V0 Z<|Tu 15 Z xG Z<|Tl 1 Z<|V4 (.bool _) Z (Wz _ hI)<|Va Z<|Wn ?_;exact⟨fun h=>(by rcases h with h|h<;>cases h),fun _ _=>Z,yD,hI⟩
 rintro ρ w ⟨hT,hF,hH,hI⟩;by_cases Ai:(s.cl j).busy\/(s.cl j).gone
 .refine Wc true (hT Ai)<|Wq<|T9 Z pd Z<|Vn Z<|Wn<|WR ?_
  exact lV 4 Z ⟨.inr ⟨⟨_,Z⟩,fun c' hm=>by
   obtain rfl:j=c':=by have:=hm.eq;omega
   rcases Ai with h|h
   .rw[hm.busy]at h;cases h
   rw[hm.gone]at h;cases h⟩,hI⟩
 have hb:(s.cl j).busy=false:=by cases h:(s.cl j).busy;rfl;exact ll (.inl h) Ai
 have FW:(s.cl j).gone=false:=by cases h:(s.cl j).gone;rfl;exact ll (.inr h) Ai
 refine Wc false (hF hb FW)<|Wk ?_;obtain⟨σ,rfl⟩:=hH.open;have BH:∀i,qT s i<=i:=aau s;refine Wq<|V8 Z<|Ve Z<|V6 10 Z<|V4 (.slice _ _ _) Z (anI _ hI)<|Vp Z sN Z<|Wv Z (by exact H9 rfl rfl rfl aa)<|Vb Z<|Wn<|Wx (fun ρ w=>lA ρ [(5,Y ((s.evs.length+2+qT s s.k:Nat):Int))]/\ly S w0 w (lR L s)) ?_ ?_
 .refine Wq<|V8 Z<|Ve Z<|V6 6 Z<|V4 (.slice _ _ _) Z (Jh _ hI)<|Vp Z xG Z<|V0 Z<|Wn<|Wb ?_;refine zk (fun ρ w=>∃i:Nat,i<=s.k/\lA ρ [(43,lI i),(42,lI s.k),(41,me L.cb 0 s.k s.k),(5,Y ((s.evs.length+2+qT s i:Nat):Int))]/\ly S w0 w (lR L s)) (fun ρ _=>s.k-cnt (ρ 43))
   ⟨0,aa,⟨rfl,rfl,rfl,rfl,trivial⟩,hI⟩ ?_
  rintro ρ w ⟨i,hi,hH,hI⟩;obtain⟨σ,rfl⟩:=hH.open;have ui:=BH i;by_cases hik:i<s.k;rotate_left
  .obtain rfl:i=s.k:=aa;exact Wq<|Vq Z<|Yg Z<|WE ⟨zu,hI⟩
  have Pt:=SJ s i;refine Wq<|Vt Z<|Yu Z<|Wk<|Ws<|Wb<|Wq<|Tu 15 Z xG Z<|Uh 15 (qC L s i) Z (ajM 2 Z hI hik)<|T6 (.agg #[.bool false,.bool false,Y 0,Y 0,Y 0,Y 0,Y 0,Y 0,Y 0,.bool false,Y 0,.slice none 0 0,Y 0,Y 0,Y 0]) (#[.bool false,.bool false,Y 0,Y 0,Y 0,Y 0,Y 0,Y 0,Y 0,.bool false,Y 0,.slice none 0 0,Y 0,Y 0,Y 0]) hI Z ?_;rintro b7 w- -hI;refine Ou (u:=.agg (qC L s i).toArray) (vs:=(qC L s i).toArray) (n:=15) hI Z Z Z Z Z Z ai Z Z (ajN _<|ajX L s i) ?_;intro w hI;apply Wn;cases vz:(s.cl i).busy with
  |true=>
   rw[lq vz]at Pt;have hz:w.cell? ⟨b7,0,none⟩=some (.bool true):=by have:=hI.c0 (j:=0) (v:=.bool (s.cl i).busy) rfl;rw[vz]at this;exact this
   refine Wq<|V6 0 Z<|V4 (.bool _) Z hz<|Yt Z<|Wr<|V0 Z<|Vx Z<|Vb Z<|Wn<|Wr<|Vx Z<|V0 Z<|Wn ⟨⟨i+1,aa,⟨rfl,rfl,rfl,?_,trivial⟩,hI.d0⟩,by show s.k-((i+1:Nat):Int).toNat<s.k-(i:Int).toNat;omega⟩;rw[Pt];rfl
  |false=>
   rw[lp (by rw[vz];decide)]at Pt;have hz:w.cell? ⟨b7,0,none⟩=some (.bool false):=by have:=hI.c0 (j:=0) (v:=.bool (s.cl i).busy) rfl;rw[vz]at this;exact this
   refine Wq<|V6 0 Z<|V4 (.bool _) Z hz<|Yf Z<|Wk<|Wr<|Vx Z<|V0 Z<|Wn ⟨⟨i+1,aa,⟨rfl,rfl,rfl,?_,trivial⟩,hI.d0⟩,by show s.k-((i+1:Nat):Int).toNat<s.k-(i:Int).toNat;omega⟩;rw[Pt];rfl
 rintro ρ w ⟨hH,hI⟩;obtain⟨σ,rfl⟩:=hH.open;by_cases vh:s.evs.length+2+qT s s.k<=120
 .exact Ws<|Wq<|V0 Z<|Ti Z<|Yf Z<|Wk<|Wq<|Vh Z<|Wn<|WR<|lV 4 Z ⟨.inl ⟨Z,j,Z,hj,hb,FW,vh⟩,hI⟩
 exact Ws<|Wq<|V0 Z<|Ty Z<|Yt Z<|Wq<|T9 Z pd Z<|Vn Z<|Wn<|WR<|lV 4 Z ⟨.inr ⟨⟨_,Z⟩,fun c' hm=>vh hm.room⟩,hI⟩
theorem Lt{X:List lN}{L:ny}{s:l8}{x':qy}(hc:c<s.k)(CL:x'.counted=(s.cl c).counted)
  (hI:ly S w0 w (X++[B L.sb 135 (Iq L s),B L.nb 140 (nF (s.n*8) (zK s)),B L.cb 246 (xa s.k L s c x' (pn L s c)),np s.k (sE L s),lz 0 218 9 L.MA s.lU.length L.mc (s.lU.flatMap pb),
  lz 0 155 1 L.LA L.ln L.lc L.lv,oq L.lv L.LD L.lb,lz 0 66 7 L.EA s.evs.length L.ec (s.evs.flatMap nu),lz 0 137 2 L.SA s.sts.length L.sc (s.sts.flatMap qk)])):ly S w0 w (X++lR L (mJ s c x')):=by
 have h1:xa s.k L s c x' (pn L s c)=nF s.k (qC L (mJ s c x')):=aaH (by
  unfold qC
  rw[show(mJ s c x').cl c=x' from lq rfl];rfl) fun i _ hi=>by
  unfold qC;rw[show(mJ s c x').cl i=s.cl i from lp hi];rfl
 have h2:sE L s=sE L (mJ s c x'):=by
  funext i;unfold sE;by_cases hi:i=c
  .subst hi;rw[show(mJ s i x').cl i=x' from lq rfl,CL]
  rw[show(mJ s c x').cl i=s.cl i from lp hi]
 rw[h1,h2]at hI;exact hI
theorem aa7(L:ny)(s:l8)(c:Nat)(hc:c<s.k)(rY:s.k<=8)(xY:s.evs.length<=1000/\s.sts.length<=1000)(S:lF)(w0:lE)(hI:ly S w0 w0 (lR L s)):
  Cq 122 #[lJ L.sb 0,lI c] w0 fun en w'=>en=.returned (.tuple #[])/\∃EA ec SA sc,ly S w0 w' (lR {L with EA:=EA,ec:=ec,SA:=SA,sc:=sc}<|yA s c):=by
 refine Vo func122 Z<|Wq<|V8 Z<|Ve Z<|V6 6 Z<|V4 (.slice _ _ _) Z (hI.cell 0 Z Z)<|V0 Z<|Tu 15 Z xG Z<|Uf Z<|Wn<|Wq<|V8 Z<|Ve Z<|Tl 2 Z<|Uh 7 (nu (s.cl c).mz) Z (OI 2 Z hI hc 2 _ Z)<|T6 (.agg za) (za) hI Z ?_;rintro b5 w- -hI;refine Ta 7 ((nu (s.cl c).mz).toArray) (.agg (nu (s.cl c).mz).toArray) hI Z ?_;intro w hI;refine Wn<|Wq<|V6 1 Z<|xI (u:=Y 2) (j:=1) (cs':=(nu {(s.cl c).mz with ty:=2}).toArray) hI Z Z Z Z Z Z ai Z Z Z ?_;intro w hI;apply Wn;obtain⟨x,hx⟩:∃x,s.cl c=x:=⟨_,rfl⟩
 refine Wx (fun ρ w=>lA ρ [(0,lJ L.sb 0),(1,lI c),(4,lJ L.cb<|0+c*15),(5,lJ b5 0)]/\ly S w0 w ([B b5 66 (nu<|tB x).toArray]++lR L s)) ?_ ?_
 .by_cases hk:x.mz.kind=1
  .have hz:w.cell? ⟨b5,3,none⟩=some (Y 1):=by have:=hI.c0 (j:=3) (v:=Y (s.cl c).mz.kind) rfl;rw[hx,hk]at this;exact this
   refine Wq<|V6 3 Z<|V4 (Y _) Z hz<|Vz Z<|Yt Z<|Wr<|V8 Z<|Ve Z<|Tl 12 Z<|Tl 2 Z<|V4 (Y _) Z ((Lp 3 Z hI hc).xM)<|V6 6 Z<|xI (u:=Y (s.cl c).mF.v) (j:=6) (cs':=(nu {(s.cl c).mz with ty:=2,res:=(s.cl c).mF.v}).toArray) hI Z Z Z Z Z Z ai Z Z Z ?_;intro w hI;refine Wn ⟨oy,?_⟩;have:tB x={(s.cl c).mz with ty:=2,res:=(s.cl c).mF.v}:=by unfold tB;rw[lq hk,hx]
   rw[this];exact hI
  have hz:w.cell? ⟨b5,3,none⟩=some (Y x.mz.kind):=by have:=hI.c0 (j:=3) (v:=Y (s.cl c).mz.kind) rfl;rw[hx]at this;exact this
  refine Wq<|V6 3 Z<|V4 (Y _) Z hz<|Vv Z<|Yf Z<|Wk ⟨oy,?_⟩;have:tB x={(s.cl c).mz with ty:=2}:=by unfold tB;rw[lp hk,hx]
  rw[this];exact hI
 rintro ρ w ⟨hH,hI⟩;obtain⟨σ,rfl⟩:=hH.open;refine Ws<|Yj [7] hI fun Sx hY hZ hI=>?_;refine Vj 0 Z<|Ui 1 7 (nu<|tB x) Z (lL hY fun hI=>fun k u hk=>hI.cell 0 Z az) ?_;refine Vj 2 Z<|Vk 3 Z<|Td 4 12 Z<|U4 5 Z<|Ui 6 2 (qk (s.cl c).mF) Z (lL hY fun hI=>OI 3 Z hI hc 12 _ Z)<|qn ai ?_;refine Tc 7 Z<|V7 [.pointer _,.agg _,.agg _] Z func115 Z<|(YE L s (tB x) ⟨(s.cl c).mF.t,(s.cl c).mF.c,0⟩ (p9 _) _ (hI.n9 (X:=[_])) xY).mono ?_;rintro en w1 ⟨rfl,EA,ec,SA,sc,hJ⟩;apply rV;have hI:=hI.qB (X:=[_]) hJ;refine Wn<|qm ai ?_;have hI:=hI.d0;unfold lR at hI;rw[<-IY (c:=c)]at hI;refine Wr<|V8 Z<|Ve Z<|Tq Z<|sQ 2 Z (u:=.bool false) (j:=0+c*15) hI Z Z Z Z Z Z ai Z (SV hc) (SW (x:=(rN s (tB x) ⟨(s.cl c).mF.t,(s.cl c).mF.c,0⟩).cl c) (cv:=pn {L with EA:=EA,ec:=ec,SA:=SA,sc:=sc} (rN s (tB x) ⟨(s.cl c).mF.t,(s.cl c).mF.c,0⟩) c) (cv':=pn {L with EA:=EA,ec:=ec,SA:=SA,sc:=sc} (rN s (tB x) ⟨(s.cl c).mF.t,(s.cl c).mF.c,0⟩) c) (x':={(rN s (tB x) ⟨(s.cl c).mF.t,(s.cl c).mF.c,0⟩).cl c with busy:=false}) hc Z) ?_;intro w hI;refine Wn<|tj (.inl Z) Z ⟨Z,EA,ec,SA,sc,?_⟩;subst hx;exact Lt (X:=[]) (L:={L with EA:=EA,ec:=ec,SA:=SA,sc:=sc}) (s:=rN s (tB<|s.cl c) ⟨(s.cl c).mF.t,(s.cl c).mF.c,0⟩) hc Z hI
section
variable{S:lF}{w0 w:lE}{X:List lN}{L:ny}{s:l8}{c:Nat}
theorem Kt(hI:ly S w0 w (X++lR L s))(hc:c<s.k):GI w L.cb (0+c*15) (s.cl c) (pn L s c):=Lp 2 rfl hI.n9 hc
theorem YM(hI:ly S w0 w (X++lR L s))(hc:c<s.k)(off:Nat)(r:mb)(hl:(qC L s c).drop off=l++r):∀(j:Nat) (v:lH),l[j]?=some v->w.cell? ⟨L.cb,0+c*15+off+j,none⟩=some v:=OI 2 rfl hI.n9 hc off r hl
theorem agA(hI:ly S w0 w (X++lR L s))(hc:c<s.k)(hb:L.cw c=some b):mV w b 4 (qa (s.cl c).counted).toArray:=by have h:=(hI.n9.ok _<|mZ (i:=3) rfl).1.1 c hc;unfold sE at h;rw[hb]at h;exact h.1
theorem ava(hI:ly S w0 w (X++lR L s)):w.cell? ⟨L.sb,5,none⟩=some (me L.nb 0 s.n s.n):=hI.n9.cell 0 rfl rfl
theorem NL(hI:ly S w0 w (X++lR L s)):w.cell? ⟨L.sb,6,none⟩=some (me L.cb 0 s.k s.k):=hI.n9.cell 0 rfl rfl
theorem YK(hI:ly S w0 w (X++lR L s)):w.cell? ⟨L.sb,0,none⟩=some (lI s.n):=hI.n9.cell 0 rfl rfl
theorem Xx(j key off:Nat):0+j*24+key*3+off=(j*8+key)*3+off:=aa
theorem Xw{key:Nat}(hk:key<8):zK s (j*8+key)=oI (s.mG j key):=by unfold zK;rw[show(j*8+key)/8=j by omega,show(j*8+key)%8=key by omega]
theorem agB(hI:ly S w0 w (X++lR L s)){key:Nat}(hj:j<s.n)(hk:key<8):∀(off:Nat) (v:lH),(oI (s.mG j key))[off]?=some v->w.cell? ⟨L.nb,0+j*24+key*3+off,none⟩=some v:=fun off v hv=>by have hB:mV w L.nb 140 (nF (s.n*8)<|zK s):=(hI.n9.ok _<|mZ (i:=1) rfl).1;rw[hB.cell,Xx];exact TQ (fun i=>QH s i) aa (by rw[Xw hk];exact hv)
theorem arW{key:Nat}{e:qR}(hj:j<s.n)(hk:key<8):sd (nF (s.n*8) (zK s)) (0+j*24+key*3) (oI e)=nF (s.n*8) (zK (y6 s j key e)):=by
 have h0:=Xx j key 0;rw[j1]at h0;rw[h0];refine O0 (fun i=>QH s i) (fun i=>QH _ i) aa (by simp[oI]) (fun i hi=>?_) ?_
 .show oI ((y6 s j key e).mG (i/8)<|i%8)=oI (s.mG (i/8)<|i%8);congr 1;exact lp<|fun h=>hi (by have:=jg i 8;rw[h.1,h.2]at this;omega)
 rw[Xw hk,Xw hk];show oI ((y6 s j key e).mG j key)=_;rw[show(y6 s j key e).mG j key=e from lq ⟨rfl,rfl⟩]
 rfl
theorem au0(j key:Nat):y6 s j key (s.mG j key)=s:=by
 unfold y6;have:(fun a b=>if a=j/\b=key then s.mG j key else s.mG a b)=s.mG:=by
  funext a b;split
  .rename_i h;rw[h.1,h.2]
  rfl
 rw[this]
end
theorem amc(L:ny)(s:l8)(c:Int)(rY:s.k<=8)(xY:s.evs.length<=1000/\s.sts.length<=1000)(S:lF)(w0:lE)(hI:ly S w0 w0 (lR L s)):
  Cq 100 #[lJ L.sb 0,Y c] w0 fun en w'=>(∃v,en=.returned v)/\∃EA ec SA sc s',((s'=s/\∀c':Nat,c=(c':Int)->c'<s.k->(s.cl c').busy=false)\/∃c':Nat,c=(c':Int)/\c'<s.k/\(s.cl c').busy/\s'=Ae s c')/\ly S w0 w' (lR {L with EA:=EA,ec:=ec,SA:=SA,sc:=sc} s'):=by
 refine Vo func100 Z<|Wq<|Vh Z<|Wn ?_;by_cases hc:0<=c/\c<(s.k:Int);rotate_left
 .refine Ws<|Wq<|V8 Z<|V0 Z<|V7 [.pointer _,Y _] Z func114 Z<|(Rn L.sb c _ _ _ _<|NL (X:=[]) hI).mono ?_;rintro e w1 ⟨rfl,hp⟩;rw[jo hc];apply rV;have hI:=hI.pure hp;exact Tm Z<|Yt Z<|Wq<|T9 Z pd Z<|Vn Z<|Wn<|WR<|lV 4 Z ⟨⟨_,Z⟩,L.EA,L.ec,L.SA,L.sc,s,.inl ⟨Z,fun c' e h=>aa⟩,hI⟩
 obtain⟨j,rfl⟩:∃j:Nat,c=(j:Int):=⟨c.toNat,aa⟩
 have hj:j<s.k:=aa;refine Ws<|Wq<|V8 Z<|V0 Z<|V7 [.pointer _,Y _] Z func114 Z<|(Rn L.sb (j:Int) _ _ _ _<|NL (X:=[]) hI).mono ?_;rintro e w1 ⟨rfl,hp⟩;rw[jB hc];apply rV;have hI:=hI.pure hp;refine Th Z<|Yf Z<|Wk<|Wq<|V8 Z<|Ve Z<|V6 6 Z<|V4 (.slice _ _ _) Z (NL (X:=[]) hI)<|V0 Z<|Tu 15 Z xG Z<|Uf Z<|Wn ?_;cases hb:(s.cl j).busy with
 |false=>have hz:=(Kt (X:=[]) hI hj).c0;rw[hb]at hz;exact Ws<|Wq<|V8 Z<|Ve Z<|Tq Z<|V4 (.bool _) Z hz<|Tm Z<|Yt Z<|Wq<|T9 Z pd Z<|Vn Z<|Wn<|WR<|lV 4 Z ⟨⟨_,Z⟩,L.EA,L.ec,L.SA,L.sc,s,.inl ⟨Z,fun c' e h=>(by cases(show j=c' by omega);exact hb)⟩,hI⟩
 |true=>
 have hz:=(Kt (X:=[]) hI hj).c0;rw[hb]at hz;refine Ws<|Wq<|V8 Z<|Ve Z<|Tq Z<|V4 (.bool _) Z hz<|Th Z<|Yf Z<|Wk<|Wq<|V8 Z<|Ve Z<|Tl 2 Z<|Uh 7 (nu (s.cl j).mz) Z (YM (X:=[]) hI hj 2 _ Z)<|T6 (.agg za) (za) hI Z ?_;rintro b6 w- -hI;refine Ta 7 ((nu (s.cl j).mz).toArray) (.agg (nu (s.cl j).mz).toArray) hI Z ?_;intro w hI;refine Wn<|Wq<|V6 1 Z<|xI (u:=Y 4) (j:=1) (cs':=(nu {(s.cl j).mz with ty:=4}).toArray) hI Z Z Z Z Z Z ai Z Z Z ?_;intro w hI;apply Wn;obtain⟨ev,mj⟩:∃ev,{(s.cl j).mz with ty:=4}=ev:=⟨_,rfl⟩
 replace hI:ly S w0 w ([B b6 66 (nu ev).toArray]++lR L s):=by rw[<-mj];exact hI
 refine Wq<|V8 Z<|Uh 7 (nu ev) Z (fun k u hk=>hI.cell 0 Z az) ?_;refine Tf [] [Y 0,Y 0] Z [Y 0,Y 0] [] Z (fun _=>ai)<|V7 [.pointer _,.agg _,.agg _] rfl func115 rfl<|(YE L s ev ⟨0,0,0⟩ (p9 _) _ (hI.n9 (X:=[_])) xY).mono ?_;rintro en w1 ⟨rfl,EA,ec,SA,sc,hJ⟩;apply rV;have hI:=hI.qB (X:=[_]) hJ;apply Wn;have hI:=hI.d0;obtain⟨s1,nZ⟩:∃s1,rN s ev ⟨0,0,0⟩=s1:=⟨_,rfl⟩
 obtain⟨L1,vy⟩:∃L1:ny,{L with EA:=EA,ec:=ec,SA:=SA,sc:=sc}=L1:=⟨_,rfl⟩
 have sG:s1.k=s.k:=aJ;have UY:L1.cb=L.cb:=by rw[<-vy]
 have tD:s1.cl j=s.cl j:=aJ;have Ht:j<s1.k:=aa;rw[nZ,vy]at hI;unfold lR at hI;rw[<-IY (c:=j),UY]at hI;refine Wq<|V8 Z<|V8 Z<|Ve Z<|Tq Z<|sQ 2 Z (u:=.bool false) (j:=0+j*15) hI Z Z Z Z Z Z ai Z (SV Ht) (SW (x:=s1.cl j) (cv:=pn L1 s1 j) (cv':=pn L1 s1 j) (x':={s1.cl j with busy:=false}) Ht Z) ?_;intro w hI;refine Ve Z<|Tl 1 Z<|sQ 2 Z (u:=.bool true) (j:=0+j*15+1) hI Z Z Z Z Z Z ai Z (Lq Ht aa) (Ls (x:={s1.cl j with busy:=false}) (cv:=pn L1 s1 j) (cv':=pn L1 s1 j) (x':={s1.cl j with busy:=false,gone:=true}) Ht 1 aa Z) ?_;intro w hI;refine Wn<|Wq<|Vh Z<|Wn<|WR<|lV 4 Z ⟨⟨_,Z⟩,EA,ec,SA,sc,Ae s j,.inr ⟨j,Z,hj,hb,Z⟩,?_⟩;have rU:=Lt (X:=[]) (L:=L1) (s:=s1) (x':={s1.cl j with busy:=false,gone:=true}) Ht rfl (by rw[UY];exact hI);rw[<-vy]at rU;have hg:Ae s j=mJ s1 j {s1.cl j with busy:=false,gone:=true}:=by rw[<-nZ,<-mj];rfl
 rw[hg];exact rU
theorem IV(h:mV w b t l.toArray)(off:Nat){l':mb}(r:mb)(hl:l.drop off=l'++r):∀(j:Nat) (v:lH),l'[j]?=some v->w.cell? ⟨b,off+j,none⟩=some v:=fun j v hj=>by rw[h.cell,fG,<-gB,hl,eH (oS hj).1];exact hj
theorem awE{e:qR}(h:(qk e)[j]?=some v):(oI e)[j]?=some v:=by have:oI e=qk e++[Y e.v]:=rfl;rw[this,eH (oS h).1];exact h
theorem ar8(L:ny)(s:l8)(j:Nat)(m:wY)(hj:j<s.n)(hn:s.n<=7)(hk:m.key<8)(oz:m.mQ<=1000)(S:lF)(w0:lE)(hI:ly S w0 w0 (lR L s)):
  Cq 91 #[lJ L.sb 0,lI j,.agg (oY m).toArray] w0 fun en w'=>en=.returned (.tuple #[])/\∃MA mc,ly S w0 w' (lR {L with MA:=MA,mc:=mc}<|Gh s j m):=by
 refine Vo func91 Z<|Wq<|Tg (.agg (oY m).toArray) ((oY m).toArray) hI Z ?_;rintro b5 w- -hI;refine Wn<|Ws<|Yi hI fun Sx hY hZ hI=>?_;refine Vj 0 Z<|Vk 1 Z<|Vd 2 5 Z<|V9 3 (.slice _ _ _) Z (lL hY fun hI=>ava (X:=[_]) hI)<|Vw 4 Z<|Vd 5 3 Z<|Ye 6 hY Z Z<|Uk 7 24 Z underlying126 Z<|Wt 8 Z (lL hY fun hI=>(EJ (sz:=3) Z underlying140 ai Z Z Z aa))<|Wt 9 Z (lL hY fun hI=>(by exact Kg rfl rfl))<|Yz<|Wx (fun ρ w=>lA ρ [(0,lJ L.sb 0),(1,lI j),(5,lJ b5 0),(6,lJ L.nb<|0+j*24+m.key*3)]/\ly S w0 w ([B b5 216 (oY m).toArray]++lR L (y6 s j m.key<|vL s j m))) ?_ ?_
 .refine Wx (fun ρ w=>lA ρ [(28,.bool<|decide (m.what=2/\(s.mG j m.key).less m.e)),(0,lJ L.sb 0),(1,lI j),(5,lJ b5 0),(6,lJ L.nb<|0+j*24+m.key*3)]/\ly S w0 w ([B b5 216 (oY m).toArray]++lR L s)) ?_ ?_
  .by_cases hw:m.what=2
   .refine Yi hI fun Sx hY hZ hI=>?_;refine Vd 0 0 Z<|Ye 1 hY Z Z<|Wt 2 Z (lL hY fun hI=>(by exact Q4 rfl rfl rfl aa))<|Te 3 Z<|Vj 4 Z<|Vk 5 Z<|U4 6 Z<|Ui 7 2 (qk<|s.mG j m.key) Z (lL hY fun hI=>fun k u nO=>agB (X:=[_]) hI hj hk k u<|awE nO)<|Vd 8 4 Z<|U4 9 Z<|Ui 10 2 (qk m.e) Z (lL hY fun hI=>IV hI.g0 4 [_] Z)<|Vr 11 Z<|V7 [.agg _,.agg _] Z func120 Z<|(adW (s.mG j m.key) m.e _).mono ?_;rintro en w1 ⟨rfl,hp⟩;apply rV;have hI:=hI.pure hp;refine Wn ⟨hZ _ hI,(U6 12 Z<|Yz ⟨⟨?_,Z,Z,Z,Z,trivial⟩,hI⟩)⟩;rw[show decide (m.what=2/\(s.mG j m.key).less m.e)=decide ((s.mG j m.key).less m.e)from iL.2 ⟨fun h=>h.2,fun h=>⟨hw,h⟩⟩]
    rfl
   refine Yi hI fun Sx hY hZ hI=>?_;refine Vd 0 0 Z<|Ye 1 hY Z Z<|Wt 2 Z (lL hY fun hI=>(by exact Q3 rfl rfl rfl aa))<|Te 3 Z<|Vl 4 Z Z<|Vl 5 Z Z<|Vl 6 Z Z<|Vl 7 Z Z<|Vl 8 Z Z<|Vl 9 Z Z<|Vl 10 Z Z<|Vl 11 Z Z<|Ts 12 Z<|Yz ⟨⟨?_,Z,Z,Z,Z,trivial⟩,hI⟩;rw[jo (fun h=>hw h.1)]
   rfl
  rintro ρ w ⟨hH,hI⟩;obtain⟨σ,rfl⟩:=hH.open;by_cases hl:m.what=2/\(s.mG j m.key).less m.e
  .have qc:vL s j m=m.e:=lq hl;rw[jB hl];refine Wc true Z<|Wr<|V8 Z<|V6 4 Z<|Uh 3 (oI m.e) Z (IV hI.g0 4 [] Z)<|Ve Z<|GV 2 Z (u:=.agg (oI m.e).toArray) (vs:=(oI m.e).toArray) (n:=3) (j:=0+j*24+m.key*3) hI Z Z Z Z Z Z ai Z (by rw[D5 (fun i=>QH s i)];omega) Z (arW hj hk) ?_;intro w hI;apply Wn;rw[qc];exact⟨oy,hI⟩
  have qc:vL s j m=s.mG j m.key:=lp hl;rw[jo hl];refine Wc false Z<|Wk ?_;rw[qc,au0];exact⟨oy,hI⟩
 rintro ρ w ⟨hH,hI⟩;obtain⟨σ,rfl⟩:=hH.open;obtain⟨own,qc⟩:∃own,vL s j m=own:=⟨_,rfl⟩
 rw[qc]at hI;obtain⟨s1,nZ⟩:∃s1,y6 s j m.key own=s1:=⟨_,rfl⟩
 rw[nZ]at hI;have he1:s1.mG j m.key=own:=by rw[<-nZ];exact lq ⟨rfl,rfl⟩
 have rn:s1.n=s.n:=aJ;have Ht:j<s1.n:=aa;refine Ws<|Wd ai<|Wi (T:=[6]) hI.d0.drew ?_;intro Sx hY hZ;have hI:=hI.drew;refine Vj 0 Z<|Vk 1 Z<|Ui 2 3 (oI own) Z (lL hY fun hI=>fun k u nO=>agB (X:=[]) hI Ht hk k u<|by rw[he1];exact nO)<|Vd 3 0 Z<|Vr 4 Z<|xI (u:=Y 3) (j:=0) (cs':=(oY {m with what:=3}).toArray) hI Z Z Z Z Z Z ai Z Z Z ?_;intro w hI;refine Wn ⟨hZ _ hI.d0,(Vd 5 4 Z<|qn ai ?_)⟩;refine Tc 6 Z<|GV 0 Z (u:=.agg (oI own).toArray) (vs:=(oI own).toArray) (n:=3) (j:=4) (cs':=(oY {m with what:=3,e:=own}).toArray) hI Z Z Z Z Z Z ai Z (by show 4+3<=7;omega) Z Z ?_;intro w hI;refine Wn<|qm ai ?_;obtain⟨m',ve⟩:∃m':wY,{m with what:=3,e:=own}=m':=⟨_,rfl⟩
 have hmc:m'.mQ=m.mQ:=by rw[<-ve]
 replace hI:ly S w0 w ([B b5 216 (oY m').toArray]++lR L s1):=by rw[<-ve];exact hI
 have nU:∀w,ly S w0 w ([B b5 216 (oY m').toArray]++lR L s1)->w.cell? ⟨b5,1,none⟩=some (lI m.mQ):=fun w hI=>by rw[<-hmc];exact hI.c0 rfl
 refine Yj [14] hI fun Sx hY hZ hI=>?_;refine Vj 0 Z<|Vk 1 Z<|Vd 2 7 Z<|Vw 3 Z<|Vj 4 Z<|Vk 5 Z<|Vd 6 0 Z<|Vd 7 0 Z<|V9 8 (lI s1.n) Z (lL hY fun hI=>YK (X:=[_]) hI)<|Vd 9 1 Z<|V9 10 (lI m.mQ) Z (lL hY fun hI=>nU _ hI)<|Wt 11 Z (lL hY fun hI=>(XX Z Z Z aa))<|Ui 12 7 (oY m') Z (lL hY fun hI=>fun k u hk=>hI.cell 0 Z az) ?_;refine Ub 13 [(0,lI j),(1,Y ((s1.n+m.mQ:Nat):Int)),(2,.agg (oY m').toArray)] (pb ⟨j,s1.n+m.mQ,m'⟩) Z [Y 0,Y 0,Y 0,Y 0,Y 0,Y 0,Y 0,Y 0,Y 0] [0,1,2] Z (fun _ _=>fun _=>ai)<|qn ai ?_;refine Tc 14 Z<|V7 [.pointer _,.agg _] Z func121 Z<|(YG L s1 ⟨j,s1.n+m.mQ,m'⟩ (p9 _) _<|hI.n9 (X:=[_])).mono ?_;rintro en w1 ⟨⟨v,rfl⟩,MA,mc,hJ⟩;apply rV;have hI:=hI.qB (X:=[_]) hJ;refine Wn<|qm ai<|tj (.inl Z) Z ⟨Z,MA,mc,?_⟩;have rU:Gh s j m={s1 with lU:=vO s1.lU ⟨j,s1.n+m.mQ,m'⟩}:=by
  rw[<-ve,<-nZ];unfold Gh;rw[qc]
  rfl
 rw[rU];exact hI.d0
theorem aas{l:List Bool}(h:k<l.length):(qa l).toArray[k]?=some (.bool (l.getD k false)):=by simp[qa,List.getD,h]
theorem ajr{l:List Bool}{v:Bool}:(qa l).toArray.setIfInBounds k (.bool v)=(qa (l.set k v)).toArray:=by simp[qa,jY]
theorem ajs{l:List Bool}:(qa l).toArray.size=l.length:=by simp[qa]
theorem akk{l:List Bool}(h:k<l.length):xN (l.take (k+1))=xN (l.take k)+if l.getD k false then 1 else 0:=by
 unfold xN;have hg:l[k]?=some (l.getD k false):=by simp[List.getD,h]
 rw[gZ,hg,gz];simp
theorem aaK(l:List Bool):xN l<=l.length:=fD
section
variable{S:lF}{w0 w:lE}{H:List lN}
theorem ly.akl{L L':ny}{s s':l8}(h:ly S w0 w (B b 4 (qa (s'.cl c).counted).toArray::np s.k (fun j=>if j=c then lN.nil else sE L s j)::H))(hc:c<s.k)(hw:L'.cw c=some b)
  (ho:∀i,i<s.k->i≠c->sE L s i=sE L' s' i):ly S w0 w (np s.k (sE L' s')::H):=by
 refine(h.Xq hc<|lq Z).Qx fun i hi=>?_;by_cases om:i=c
 .subst om;rw[lq rfl];unfold sE;rw[hw]
 rw[lp om,lp om];exact ho i hi om
end
theorem avj{L:ny}{s:l8}(l:List Bool):nF s.k (qC L (mJ s c {s.cl c with counted:=l}))=nF s.k (qC L s):=I4 fun i _=>by
 unfold qC;by_cases hi:i=c
 .subst hi;rw[show(mJ s i {s.cl i with counted:=l}).cl i={s.cl i with counted:=l}from lq rfl];rfl
 rw[show(mJ s c {s.cl c with counted:=l}).cl i=s.cl i from lp hi];rfl
theorem uP{s:l8}{x:qy}:(mJ s c x).cl c=x:=lq rfl
theorem agt{s:l8}{x y:qy}:mJ (mJ s c x) c y=mJ s c y:=by unfold mJ;congr 1;funext i;show(if i=c then y else if i=c then x else s.cl i)=if i=c then y else s.cl i;split<;>rfl
theorem an5(L:ny)(s:l8)(j:Nat)(m:wY)(hj:j<s.n)(hn:1<=s.n/\s.n<=7)(rY:s.k<=8)(hc:m.mQ<s.k)(xY:s.evs.length<=1000/\s.sts.length<=1000)
  (hx:(s.cl m.mQ).busy->L.cw m.mQ≠none/\(s.cl m.mQ).counted.length=s.n/\0<=(s.cl m.mQ).mz.key) (hM:(s.cl m.mQ).round<=1000000/\(s.cl m.mQ).mF.t<=1000000/\m.e.t<=1000000) (S:lF) (w0:lE) (hI:ly S w0 w0 (lR L s)):
  Cq 92 #[lJ L.sb 0,lI j,.agg (oY m).toArray] w0 fun en w'=>en=.returned (.tuple #[])/\∃MA mc EA ec SA sc cw,ly S w0 w' (lR {L with MA:=MA,mc:=mc,EA:=EA,ec:=ec,SA:=SA,sc:=sc,cw:=cw}<|xi s j m)/\(∀c,c≠m.mQ->cw c=L.cw c)/\(cw m.mQ=none↔L.cw m.mQ=none):=by
 obtain⟨c,xV⟩:∃c,m.mQ=c:=⟨_,rfl⟩
 rw[xV]at hc hx hM|-;obtain⟨x,Eo⟩:∃x,s.cl c=x:=⟨_,rfl⟩
 rw[Eo]at hx hM;refine Vo func92 Z<|Wq<|Tg (.agg (oY m).toArray) ((oY m).toArray) hI Z ?_;rintro b5 w- -hI;apply Wn;have rm:∀w X,ly S w0 w (B b5 216 (oY m).toArray::X)->w.cell? ⟨b5,1,none⟩=some (lI c):=fun w X hI=>by rw[<-xV];exact hI.c0 rfl
 refine Ws<|Yi hI fun Sx hY hZ hI=>?_;refine Vj 0 Z<|Vk 1 Z<|Vd 2 6 Z<|V9 3 (.slice _ _ _) Z (lL hY fun hI=>NL (X:=[_]) hI)<|Vd 4 1 Z<|V9 5 (lI c) Z (lL hY fun hI=>rm _ _ hI)<|Uk 6 15 Z xG Z<|Wt 7 Z (lL hY fun hI=>(by exact Kg rfl rfl))<|Yz ?_;have Hm:∀w,xi s j m=s->ly S w0 w (lR L s)->∃MA mc EA ec SA sc cw,ly S w0 w (lR {L with MA:=MA,mc:=mc,EA:=EA,ec:=ec,SA:=SA,sc:=sc,cw:=cw}<|xi s j m)/\(∀i,i≠c->cw i=L.cw i)/\(cw c=none↔L.cw c=none):=fun w he hI=>by rw[he];exact⟨L.MA,L.mc,L.EA,L.ec,L.SA,L.sc,L.cw,hI,fun _ _=>rfl,Iff.rfl⟩
 have rT:(x.busy=false\/m.round≠x.round\/x.counted.getD j false)->xi s j m=s:=fun h=>by unfold xi;rw[xV,Eo,lq h]
 have hq:∀w,ly S w0 w ([B b5 216 (oY m).toArray]++lR L s)->GI w L.cb (0+c*15) x (pn L s c):=fun w hI=>by rw[<-Eo];exact Kt hI hc
 cases hb:x.busy with
 |false=>
  have CX:∀w,ly S w0 w ([B b5 216 (oY m).toArray]++lR L s)->w.cell? ⟨L.cb,0+c*15,none⟩=some (.bool false):=fun w hI=>by rw[<-hb];exact(hq w hI).c0
  refine Ws<|Ws<|Yi hI fun Sx hY hZ hI=>?_;exact Vj 0 Z<|Vk 1 Z<|U4 2 Z<|V9 3 (.bool _) Z (lL hY fun hI=>CX _ hI)<|Wt 4 Z (lL hY fun hI=>(by exact Re rfl rfl))<|Te 5 Z<|Vl 6 Z Z<|Vl 7 Z Z<|Vl 8 Z Z<|Vl 9 Z Z<|Vl 10 Z Z<|Vl 11 Z Z<|Vl 12 Z Z<|U6 13 Z<|Te 14 Z<|Vl 15 Z Z<|Vl 16 Z Z<|Vl 17 Z Z<|Vl 18 Z Z<|Vl 19 Z Z<|Vl 20 Z Z<|Vl 21 Z Z<|U6 22 Z<|Yz<|Wc true Z<|WR<|tj (.inr Z) Z ⟨Z,Hm _ (rT<|.inl hb) hI.d0⟩
 |true=>
 have CX:∀w,ly S w0 w ([B b5 216 (oY m).toArray]++lR L s)->w.cell? ⟨L.cb,0+c*15,none⟩=some (.bool true):=fun w hI=>by rw[<-hb];exact(hq w hI).c0
 have⟨BJ,oz,wD⟩:=hx hb;obtain⟨b,Ho⟩:∃b,L.cw c=some b:=by
  cases h:L.cw c with
  |none=>exact ll h BJ|some b=>exact⟨b,rfl⟩
 have FU:pn L s c=me b 0 s.n s.n:=by unfold pn;rw[Ho]
 by_cases hr:m.round=x.round;rotate_left
 .refine Ws<|Ws<|Yi hI fun Sx hY hZ hI=>?_;exact Vj 0 Z<|Vk 1 Z<|U4 2 Z<|V9 3 (.bool _) Z (lL hY fun hI=>CX _ hI)<|Wt 4 Z (lL hY fun hI=>(by exact Ic rfl rfl))<|Te 5 Z<|Vd 6 2 Z<|Ye 7 hY Z Z<|Vj 8 Z<|Vk 9 Z<|Td 10 10 Z<|V9 11 (Y _) Z (lL hY fun hI=>(hq _ hI).Lj)<|Ut 12 Z<|Ts 13 Z<|Te 14 Z<|Vl 15 Z Z<|Vl 16 Z Z<|Vl 17 Z Z<|Vl 18 Z Z<|Vl 19 Z Z<|Vl 20 Z Z<|Vl 21 Z Z<|U6 22 Z<|Yz<|Wc true Z<|WR<|tj (.inr Z) Z ⟨Z,Hm _ (rT<|.inr<|.inl hr) hI.d0⟩
 have ac3:∀w,ly S w0 w ([B b5 216 (oY m).toArray]++lR L s)->w.cell? ⟨L.cb,0+c*15+11,none⟩=some (me b 0 s.n s.n):=fun w hI=>by rw[<-FU];exact(hq w hI).SL
 have P1:∀w,ly S w0 w ([B b5 216 (oY m).toArray]++lR L s)->w.cell? ⟨b,j,none⟩=some (.bool<|x.counted.getD j false):=fun w hI=>by have h:=agA (X:=[_]) hI hc Ho;rw[Eo]at h;rw[h.cell,aas aa]
 cases Pv:x.counted.getD j false with
 |true=>rw[Pv]at P1;refine Ws<|Ws<|Yi hI fun Sx hY hZ hI=>?_;exact Vj 0 Z<|Vk 1 Z<|U4 2 Z<|V9 3 (.bool _) Z (lL hY fun hI=>CX _ hI)<|Wt 4 Z (lL hY fun hI=>(by exact Ic rfl rfl))<|Te 5 Z<|Vd 6 2 Z<|Ye 7 hY Z Z<|Vj 8 Z<|Vk 9 Z<|Td 10 10 Z<|V9 11 (Y _) Z (lL hY fun hI=>(hq _ hI).Lj)<|U7 12 Z<|Ts 13 Z<|Te 14 Z<|Vj 15 Z<|Vk 16 Z<|Td 17 11 Z<|V9 18 (.slice _ _ _) Z (lL hY fun hI=>ac3 _ hI)<|Vw 19 Z<|Uc 20 Z oZ Z<|V9 21 (.bool _) Z (lL hY fun hI=>P1 _ hI)<|Ts 22 Z<|Yz<|Wc true Z<|WR<|tj (.inr Z) Z ⟨Z,Hm _ (rT<|.inr<|.inr Pv) hI.d0⟩
 |false=>
 rw[Pv]at P1;have VK:xi s j m=if x.wR then(if xN (pN x j m).counted=s.tell then yA (mJ s c<|pN x j m) c else mJ s c (pN x j m))else if xN (pN x j m).counted<s.ask then mJ s c (pN x j m)
   else if x.mz.kind=2\/s.back then y5 (mJ s c<|vJ (pN x j m) c) c 2 (vJ (pN x j m) c).mF else yA (mJ s c<|vJ (pN x j m) c) c:=by
  unfold xi;rw[xV,Eo,lp (by rw[hb,Pv];exact fun h=>by rcases h with h|h|h;cases h;exact h hr;cases h)]
 rw[VK];refine Ws<|Ws<|Yi hI fun Sx hY hZ hI=>?_;refine Vj 0 Z<|Vk 1 Z<|U4 2 Z<|V9 3 (.bool _) Z (lL hY fun hI=>CX _ hI)<|Wt 4 Z (lL hY fun hI=>(by exact Ic rfl rfl))<|Te 5 Z<|Vd 6 2 Z<|Ye 7 hY Z Z<|Vj 8 Z<|Vk 9 Z<|Td 10 10 Z<|V9 11 (Y _) Z (lL hY fun hI=>(hq _ hI).Lj)<|U7 12 Z<|Ts 13 Z<|Te 14 Z<|Vj 15 Z<|Vk 16 Z<|Td 17 11 Z<|V9 18 (.slice _ _ _) Z (lL hY fun hI=>ac3 _ hI)<|Vw 19 Z<|Uc 20 Z oZ Z<|V9 21 (.bool _) Z (lL hY fun hI=>P1 _ hI)<|Ts 22 Z<|Yz<|Wc false Z<|Wk ?_;have FR:sE L s c=B b 4 (qa x.counted).toArray:=by unfold sE;rw[Ho,Eo]
 unfold lR at hI;replace hI:=(hI.pull 4 rfl).ad6 (i:=c) hc;rw[FR]at hI;have apm:w.cell? ⟨L.cb,0+c*15+11,none⟩=some (me b 0 s.n s.n):=by rw[<-FU];exact(Lp 5 rfl hI hc).SL
 refine Wq<|V8 Z<|Ve Z<|Tl 11 Z<|V4 (.slice _ _ _) Z apm<|V0 Z<|Tx Z oZ Z<|xI (u:=.bool true) (j:=j) (cs':=(qa<|x.counted.set j true).toArray) hI Z Z Z Z Z Z ai Z (by rw[ajs,Nat.blt_eq];omega) ajr ?_;intro w hI;apply Wn;obtain⟨tW,tD⟩:∃l,x.counted.set j true=l:=⟨_,rfl⟩
 rw[tD]at hI;have Mp:tW.length=s.n:=by rw[<-tD,ja];exact oz
 obtain⟨s1,nZ⟩:∃s1,mJ s c {s.cl c with counted:=tW}=s1:=⟨_,rfl⟩
 have sI:s1.cl c={x with counted:=tW}:=by rw[<-nZ,uP,Eo]
 have sG:s1.k=s.k:=aJ;have rn:s1.n=s.n:=aJ;have oT:c<s1.k:=aa;replace hI:ly S w0 w ([B b5 216 (oY m).toArray]++lR L s1):=by
  have h1:=(ly.akl (L':=L) (s':=s1) (c:=c) (b:=b) (by rw[sI];exact hI) hc Ho (fun i _ hi=>by
   unfold sE
   rw[<-nZ,show(mJ s c {s.cl c with counted:=tW}).cl i=s.cl i from lp hi])).back 4
  rw[<-avj (c:=c) tW,nZ]at h1;subst nZ;exact h1
 have VE:pn L s1 c=me b 0 s.n s.n:=by unfold pn;rw[Ho,rn]
 have wI:∀w,ly S w0 w ([B b5 216 (oY m).toArray]++lR L s1)->GI w L.cb (0+c*15) {x with counted:=tW} (me b 0 s.n s.n):=fun w hI=>by rw[<-VE,<-sI];exact Kt hI oT
 have hrb:∀w,ly S w0 w ([B b5 216 (oY m).toArray]++lR L s1)->∀i,i<s.n->w.cell? ⟨b,i,none⟩=some (.bool<|tW.getD i false):=fun w hI i hi=>by have h:=agA (X:=[_]) hI oT Ho;rw[sI]at h;rw[h.cell];exact aas (by show i<tW.length;omega)
 refine Wq<|Vb Z<|Wn<|Wx (fun ρ w=>lA ρ [(7,Y ((xN tW:Nat):Int)),(0,lJ L.sb 0),(5,lJ b5 0),(6,lJ L.cb<|0+c*15)]/\ly S w0 w ([B b5 216 (oY m).toArray]++lR L s1)) ?_ ?_
 .refine Wq<|V8 Z<|Ve Z<|Tl 11 Z<|V4 (.slice _ _ _) Z ((wI _ hI).SL)<|Vp Z oZ Z<|V0 Z<|Wn<|Wb ?_;refine zk (fun ρ w=>∃i:Nat,i<=s.n/\lA ρ [(52,lI i),(51,lI s.n),(50,me b 0 s.n s.n),(7,Y ((xN (tW.take i):Nat):Int)),(0,lJ L.sb 0),(5,lJ b5 0),(6,lJ L.cb<|0+c*15)]/\ly S w0 w ([B b5 216 (oY m).toArray]++lR L s1)) (fun ρ _=>s.n-cnt (ρ 52))
   ⟨0,aa,⟨rfl,rfl,rfl,rfl,rfl,rfl,rfl,trivial⟩,hI⟩ ?_
  rintro ρ w ⟨i,hi,hH,hI⟩;obtain⟨σ,rfl⟩:=hH.open;have CL:xN (tW.take i)<=i:=j5 (aaK _)<|List.length_take_le _ _;by_cases xk:i<s.n;rotate_left
  .obtain rfl:i=s.n:=aa;rw[fq aa];exact Wq<|Vq Z<|Yg Z<|WE ⟨oy,hI⟩
  have mL:=akk (l:=tW) (k:=i) aa;refine Wq<|Vt Z<|Yu Z<|Wk<|Ws<|Wb ?_;cases ui:tW.getD i false with
  |true=>rw[lq ui]at mL;have hz:=hrb w hI i xk;rw[ui]at hz;refine Wq<|Tx Z oZ Z<|V4 (.bool _) Z hz<|V5 Z<|Wn<|Wq<|V3 Z<|Yt Z<|Wr<|V0 Z<|Vx Z<|Vb Z<|Wn<|Wr<|Vx Z<|V0 Z<|Wn ⟨⟨i+1,aa,⟨rfl,rfl,rfl,?_,rfl,rfl,rfl,trivial⟩,hI⟩,by show s.n-((i+1:Nat):Int).toNat<s.n-(i:Int).toNat;omega⟩;rw[mL];rfl
  |false=>rw[lp (by rw[ui];decide)]at mL;have hz:=hrb w hI i xk;rw[ui]at hz;refine Wq<|Tx Z oZ Z<|V4 (.bool _) Z hz<|V5 Z<|Wn<|Wq<|V3 Z<|Yf Z<|Wk<|Wr<|Vx Z<|V0 Z<|Wn ⟨⟨i+1,aa,⟨rfl,rfl,rfl,?_,rfl,rfl,rfl,trivial⟩,hI⟩,by show s.n-((i+1:Nat):Int).toNat<s.n-(i:Int).toNat;omega⟩;rw[mL];rfl
 rintro ρ w ⟨hH,hI⟩;obtain⟨σ,rfl⟩:=hH.open;have CL:=aaK tW;have hhc:(pN x j m).counted=tW:=by
  unfold pN;rw[<-tD];split
  .rfl
  split<;>rfl
 rw[hhc];have ac8:∀(w:lE) (s':l8),ly S w0 w (lR L s')->∃MA mc EA ec SA sc cw,ly S w0 w (lR {L with MA:=MA,mc:=mc,EA:=EA,ec:=ec,SA:=SA,sc:=sc,cw:=cw} s')/\(∀i,i≠c->cw i=L.cw i)/\(cw c=none↔L.cw c=none):=fun w s' hI=>⟨L.MA,L.mc,L.EA,L.ec,L.SA,L.sc,L.cw,hI,fun _ _=>rfl,Iff.rfl⟩
 cases yP:x.wR with
 |true=>
  have hh1:mJ s c (pN x j m)=s1:=by unfold pN;rw[lq yP,tD,<-nZ,Eo]
  rw[lq rfl,hh1];have hz:=(wI w hI).c9;have hz:w.cell? ⟨L.cb,0+c*15+9,none⟩=some (.bool true):=by rw[<-yP];exact hz
  refine Ws<|Wq<|V8 Z<|Ve Z<|Tl 9 Z<|V4 (.bool _) Z hz<|Yt Z ?_;have F6:w.cell? ⟨L.sb,3,none⟩=some (lI s.tell):=by have:w.cell? ⟨L.sb,3,none⟩=some (lI s1.tell):=hI.n9.cell 0 rfl rfl;rw[<-nZ]at this;exact this
  by_cases hte:xN tW=s.tell
  .rw[lq hte];refine Ws<|Wq<|V0 Z<|V8 Z<|Ve Z<|V6 0 Z<|V6 3 Z<|V4 (Y _) Z F6<|Vz Z<|Yt Z<|Wr<|V8 Z<|V6 1 Z<|V4 (lI c) Z (rm _ _ hI)<|V7 [.pointer _,Y _] Z func122 Z<|(aa7 L s1 c oT aa (by rw[<-nZ];exact xY) (p9 _) _<|hI.n9 (X:=[_])).mono ?_;rintro en w1 ⟨rfl,EA,ec,SA,sc,hJ⟩;apply rV;have hI:=hI.qB (X:=[_]) hJ;exact Wn<|WR<|tj (.inr Z) Z ⟨Z,L.MA,L.mc,EA,ec,SA,sc,L.cw,hI.d0,fun _ _=>Z,Iff.rfl⟩
  rw[lp hte];exact Ws<|Wq<|V0 Z<|V8 Z<|Ve Z<|V6 0 Z<|V6 3 Z<|V4 (Y _) Z F6<|Vv Z<|Yf Z<|Wk<|WR<|tj (.inr Z) Z ⟨Z,ac8 _ _ hI.d0⟩
 |false=>
 rw[lp aw];have hz:w.cell? ⟨L.cb,0+c*15+9,none⟩=some (.bool false):=by rw[<-yP];exact(wI w hI).c9
 refine Ws<|Wq<|V8 Z<|Ve Z<|Tl 9 Z<|V4 (.bool _) Z hz<|Yf Z<|Wk ?_;have wC:pN x j m=if x.mF.less m.e then {x with counted:=tW,mF:=m.e}else {x with counted:=tW}:=by unfold pN;rw[yP,lp aw,tD]
 obtain⟨x2,xv⟩:∃x2,pN x j m=x2:=⟨_,rfl⟩
 rw[xv]at wC|-;have az1:x2.counted=tW:=by rw[wC];split<;>rfl
 have Qb:x2.mz=x.mz:=by rw[wC];split<;>rfl
 have az2:x2.mF.t<=1000000:=by rw[wC];split;exact hM.2.2;exact hM.2.1
 have apX:x2.round=x.round:=by rw[wC];split<;>rfl
 obtain⟨s2,tF⟩:∃s2,mJ s c x2=s2:=⟨_,rfl⟩
 rw[tF];have nO:s2.k=s.k:=by rw[<-tF];rfl
 have FY:s2.n=s.n:=by rw[<-tF];rfl
 have rJ:c<s2.k:=aa;have W6:s2.cl c=x2:=by rw[<-tF,uP]
 refine Wx (fun ρ w=>lA ρ [(7,Y ((xN tW:Nat):Int)),(0,lJ L.sb 0),(5,lJ b5 0),(6,lJ L.cb<|0+c*15)]/\ly S w0 w ([B b5 216 (oY m).toArray]++lR L s2)) ?_ ?_
 .refine Wx (fun ρ w=>lA ρ [(83,.bool<|decide (x.mF.less m.e)),(7,Y ((xN tW:Nat):Int)),(0,lJ L.sb 0),(5,lJ b5 0),(6,lJ L.cb<|0+c*15)]/\ly S w0 w ([B b5 216 (oY m).toArray]++lR L s1)) ?_ ?_
  .have anG:∀w,ly S w0 w ([B b5 216 (oY m).toArray]++lR L s1)->∀(k:Nat) (v:lH),(qk x.mF)[k]?=some v->w.cell? ⟨L.cb,0+c*15+12+k,none⟩=some v:=fun w hI=>by
    have:=YM (X:=[_]) hI oT 12 (l:=qk (s1.cl c).mF) [Y (s1.cl c).mF.v] rfl;rw[sI]at this;exact this
   refine Yi hI fun Sx hY hZ hI=>?_;refine Vj 0 Z<|Vk 1 Z<|Td 2 12 Z<|U4 3 Z<|Ui 4 2 (qk x.mF) Z (lL hY fun hI=>anG _ hI)<|Vd 5 4 Z<|U4 6 Z<|Ui 7 2 (qk m.e) Z (lL hY fun hI=>IV hI.g0 4 [_] Z)<|Vr 8 Z<|V7 [.agg _,.agg _] Z func120 Z<|(adW x.mF m.e _).mono ?_;rintro en w1 ⟨rfl,hp⟩;apply rV;have hI:=hI.pure hp;exact Wn ⟨hZ _ hI,(Yz ⟨ug,hI⟩)⟩
  rintro ρ w ⟨hH,hI⟩;obtain⟨σ,rfl⟩:=hH.open;by_cases hl:x.mF.less m.e
  .rw[jB hl];rw[lq hl]at wC;apply Wc true Z;unfold lR at hI;rw[<-IY (c:=c)]at hI;refine Wr<|V8 Z<|V6 4 Z<|Uh 3 (oI m.e) Z (IV hI.g0 4 [] Z)<|Ve Z<|Tl 12 Z<|GV 3 Z (u:=.agg (oI m.e).toArray) (vs:=(oI m.e).toArray) (n:=3) (j:=0+c*15+12) hI Z Z Z Z Z Z ai Z (by have:=Lr (L:=L) (s:=s1) (x:=s1.cl c) (cv:=pn L s1 c) oT (j:=14) aa;omega) Z (OJ (x:=s1.cl c) (cv:=pn L s1 c) (cv':=pn L s1 c) (x':={s1.cl c with mF:=m.e}) oT 12 (by simp[oI]) Z) ?_;intro w hI;apply Wn;have rU:=Lt (X:=[B b5 216 (oY m).toArray]) (L:=L) (s:=s1) (x':={s1.cl c with mF:=m.e}) oT rfl hI;have hg:mJ s1 c {s1.cl c with mF:=m.e}=s2:=by rw[sI,<-nZ,agt,<-tF,wC]
   rw[hg]at rU;exact⟨oy,rU⟩
  rw[jo hl];rw[lp hl]at wC;refine Wc false Z<|Wk ?_;have hg:s1=s2:=by rw[<-nZ,<-tF,wC,Eo]
  rw[hg]at hI;exact⟨oy,hI⟩
 rintro ρ w ⟨hH,hI⟩;obtain⟨σ,rfl⟩:=hH.open;have xw:w.cell? ⟨L.sb,2,none⟩=some (lI s.ask):=by have:w.cell? ⟨L.sb,2,none⟩=some (lI s2.ask):=hI.n9.cell 0 rfl rfl;rw[<-tF]at this;exact this
 by_cases ab6:xN tW<s.ask
 .rw[lq ab6];exact Ws<|Wq<|V0 Z<|V8 Z<|Ve Z<|V6 0 Z<|V6 2 Z<|V4 (Y _) Z xw<|Vt Z<|Yt Z<|WR<|tj (.inr Z) Z ⟨Z,ac8 _ _ hI.d0⟩
 rw[lp ab6];refine Ws<|Wq<|V0 Z<|V8 Z<|Ve Z<|V6 0 Z<|V6 2 Z<|V4 (Y _) Z xw<|Vq Z<|Yf Z<|Wk ?_;obtain⟨x3,hx3⟩:∃x3,vJ x2 c=x3:=⟨_,rfl⟩
 have JC:x3=if x.mz.kind=2 then {x2 with mF:=⟨x2.mF.t+1,c,x.mz.a⟩}else x2:=by rw[<-hx3];unfold vJ;rw[Qb]
 rw[hx3];obtain⟨s3,zC⟩:∃s3,mJ s c x3=s3:=⟨_,rfl⟩
 rw[zC];have apZ:x3.round=x.round:=by rw[JC];split<;>exact apX
 have apY:x3.mz=x.mz:=by rw[JC];split<;>exact Qb
 have BO:s3.k=s.k:=by rw[<-zC];rfl
 have hn3:s3.n=s.n:=by rw[<-zC];rfl
 have UU:c<s3.k:=aa;have W7:s3.cl c=x3:=by rw[<-zC,uP]
 have hz5:w.cell? ⟨L.cb,0+c*15+5,none⟩=some (Y x.mz.kind):=by have:=(Kt (X:=[_]) hI rJ).c5;rw[W6,Qb]at this;exact this
 have hkb:∀(bw:Bool),bw=decide (x.mz.kind=2)->True:=fun _ _=>trivial;refine Wx (fun ρ w=>lA ρ [(10,.bool<|decide (x.mz.kind=2)),(0,lJ L.sb 0),(5,lJ b5 0),(6,lJ L.cb<|0+c*15)]/\ly S w0 w ([B b5 216 (oY m).toArray]++lR L s2)) ?_ ?_
 .by_cases rZ:x.mz.kind=2
  .refine Wr<|V8 Z<|Ve Z<|Tl 2 Z<|Tl 3 Z<|V4 (Y _) Z hz5<|Vz Z<|V5 Z<|Wn ?_;rw[jB rZ];exact⟨oy,hI⟩
  refine Wr<|V8 Z<|Ve Z<|Tl 2 Z<|Tl 3 Z<|V4 (Y _) Z hz5<|Vv Z<|V5 Z<|Wn ?_;rw[jo rZ];exact⟨oy,hI⟩
 rintro ρ w ⟨hH,hI⟩;obtain⟨σ,rfl⟩:=hH.open;refine Wx (fun ρ w=>lA ρ [(10,.bool<|decide (x.mz.kind=2)),(0,lJ L.sb 0),(5,lJ b5 0),(6,lJ L.cb<|0+c*15)]/\ly S w0 w ([B b5 216 (oY m).toArray]++lR L s3)) ?_ ?_
 .by_cases rZ:x.mz.kind=2
  .rw[lq rZ]at JC;rw[jB rZ];refine Wq<|V3 Z<|Yt Z ?_;have yG:∀w,ly S w0 w ([B b5 216 (oY m).toArray]++lR L s2)->w.cell? ⟨L.cb,0+c*15+12,none⟩=some (Y ((x2.mF.t:Nat):Int))/\w.cell? ⟨L.cb,0+c*15+6,none⟩=some (Y x.mz.a):=fun w hI=>by
    have h:=Kt (X:=[_]) hI rJ;have rk:=h.c12;have h6:=h.c6;rw[W6]at rk h6;rw[Qb]at h6;exact⟨rk,h6⟩
   refine Yj [19] hI fun Sx hY hZ hI=>?_;refine Vj 0 Z<|Vj 1 Z<|Vk 2 Z<|Td 3 12 Z<|U4 4 Z<|U4 5 Z<|V9 6 (Y ((x2.mF.t:Nat):Int)) Z (lL hY fun hI=>(yG _ hI).1)<|Wt 7 Z (lL hY fun hI=>(by exact afn rfl rfl rfl aa))<|Vd 8 1 Z<|V9 9 (lI c) Z (lL hY fun hI=>rm _ _ hI)<|Ub 10 [(0,Y _),(1,Y _)] [_,_] Z [Y 0,Y 0] [0,1] Z (fun _ _=>fun _=>ai)<|Vj 11 rfl<|Vk 12 rfl<|Td 13 2 rfl<|Td 14 4 rfl<|V9 15 (Y x.mz.a) rfl (lL hY fun hI=>(yG _ hI).2)<|Ub 16 [(0,.agg #[Y ((x2.mF.t+1:Nat):Int),lI c]),(1,Y x.mz.a)] (oI ⟨x2.mF.t+1,c,x.mz.a⟩) rfl [Y 0,Y 0,Y 0] [0,2] rfl (fun _ _=>fun _=>ai)<|Vk 17 rfl<|Td 18 12 rfl<|qn ai ?_;apply Tc 19 Z;unfold lR at hI;rw[<-IY (c:=c)]at hI;refine GV 3 Z (u:=.agg (oI ⟨x2.mF.t+1,c,x.mz.a⟩).toArray) (vs:=(oI ⟨x2.mF.t+1,c,x.mz.a⟩).toArray) (n:=3) (j:=0+c*15+12) hI Z Z Z Z Z Z ai Z (by have:=Lr (L:=L) (s:=s2) (x:=s2.cl c) (cv:=pn L s2 c) rJ (j:=14) aa;omega) Z (OJ (x:=s2.cl c) (cv:=pn L s2 c) (cv':=pn L s2 c) (x':={s2.cl c with mF:=⟨x2.mF.t+1,c,x.mz.a⟩}) rJ 12 (by simp[oI]) Z) ?_;intro w hI;refine Wn<|qm ai ?_;have rU:=Lt (X:=[B b5 216 (oY m).toArray]) (L:=L) (s:=s2) (x':={s2.cl c with mF:=⟨x2.mF.t+1,c,x.mz.a⟩}) rJ rfl hI;have hg:mJ s2 c {s2.cl c with mF:=⟨x2.mF.t+1,c,x.mz.a⟩}=s3:=by rw[W6,<-tF,agt,<-zC,JC]
   rw[hg]at rU;exact⟨oy,rU⟩
  rw[lp rZ]at JC;rw[jo rZ];refine Wq<|V3 Z<|Yf Z<|Wk ?_;have hg:s2=s3:=by rw[<-tF,<-zC,JC]
  rw[hg]at hI;exact⟨oy,hI⟩
 rintro ρ w ⟨hH,hI⟩;obtain⟨σ,rfl⟩:=hH.open;have F7:w.cell? ⟨L.sb,4,none⟩=some (.bool s.back):=by have:w.cell? ⟨L.sb,4,none⟩=some (.bool s3.back):=hI.n9.cell 0 rfl rfl;rw[<-zC]at this;exact this
 have hbe:∀w,ly S w0 w ([B b5 216 (oY m).toArray]++lR L s3)->∀(k:Nat) (v:lH),(oI x3.mF)[k]?=some v->w.cell? ⟨L.cb,0+c*15+12+k,none⟩=some v:=fun w hI=>by have:=YM (X:=[_]) hI UU 12 (l:=oI (s3.cl c).mF) [] rfl;rw[W7]at this;exact this
 by_cases MF:x.mz.kind=2\/s.back
 .rw[lq MF];refine Wx (fun ρ w=>lA ρ [(129,.bool true),(0,lJ L.sb 0),(5,lJ b5 0),(6,lJ L.cb<|0+c*15)]/\ly S w0 w ([B b5 216 (oY m).toArray]++lR L s3)) ?_ ?_
  .by_cases rZ:x.mz.kind=2
   .rw[jB rZ];exact Wr<|V3 Z<|V3 Z<|V2 Z<|V2 Z<|V2 Z<|V2 Z<|V2 Z<|Vg Z<|Wn ⟨oy,hI⟩
   rw[jo rZ];rw[MF.resolve_left rZ]at F7;exact Wr<|V3 Z<|V3 Z<|V8 Z<|Ve Z<|V6 0 Z<|V6 4 Z<|V4 (.bool _) Z F7<|Va Z<|Wn ⟨oy,hI⟩
  rintro ρ w ⟨hH,hI⟩;obtain⟨σ,rfl⟩:=hH.open;refine Wc true Z<|Yj [7] hI fun Sx hY hZ hI=>?_;refine Vj 0 Z<|Vd 1 1 Z<|V9 2 (lI c) Z (lL hY fun hI=>rm _ _ hI)<|Vj 3 Z<|Vk 4 Z<|Td 5 12 Z<|Ui 6 3 (oI x3.mF) Z (lL hY fun hI=>hbe _ hI)<|qn ai ?_;refine Tc 7 Z<|V7 [.pointer _,Y _,Y _,.agg _] Z func116 Z<|(ag5 L s3 c 2 x3.mF UU aa aa (by rw[W7,apZ];exact hM.1) (by rw[W7,apY];exact wD) (p9 _) _<|hI.n9 (X:=[_])).mono ?_;rintro en w1 ⟨rfl,b',MA,mc,hJ⟩;apply rV;have hI:=hI.qB (X:=[_]) hJ;refine Wn<|qm ai<|tj (.inl Z) Z ⟨Z,MA,mc,L.EA,L.ec,L.SA,L.sc,_,hI.d0,fun i hi=>lp hi,⟨fun h=>(by rw[lq rfl]at h;cases h),fun h=>(by rw[Ho]at h;cases h)⟩⟩
 rw[lp MF];have rZ:x.mz.kind≠2:=fun h=>MF<|.inl h;have FQ:s.back=false:=by cases h:s.back;rfl;exact ll (.inr h) MF
 refine Wx (fun ρ w=>lA ρ [(129,.bool false),(0,lJ L.sb 0),(5,lJ b5 0),(6,lJ L.cb<|0+c*15)]/\ly S w0 w ([B b5 216 (oY m).toArray]++lR L s3)) ?_ ?_
 .rw[jo rZ];rw[FQ]at F7;exact Wr<|V3 Z<|V3 Z<|V8 Z<|Ve Z<|V6 0 Z<|V6 4 Z<|V4 (.bool _) Z F7<|Va Z<|Wn ⟨oy,hI⟩
 rintro ρ w ⟨hH,hI⟩;obtain⟨σ,rfl⟩:=hH.open;refine Wc false Z<|Wr<|V8 Z<|V6 1 Z<|V4 (lI c) Z (rm _ _ hI)<|V7 [.pointer _,Y _] Z func122 Z<|(aa7 L s3 c UU aa (by rw[<-zC];exact xY) (p9 _) _<|hI.n9 (X:=[_])).mono ?_;rintro en w1 ⟨rfl,EA,ec,SA,sc,hJ⟩;apply rV;have hI:=hI.qB (X:=[_]) hJ;exact Wn<|tj (.inl Z) Z ⟨Z,L.MA,L.mc,EA,ec,SA,sc,L.cw,hI.d0,fun _ _=>Z,Iff.rfl⟩
end
section
open Tryz
open Go
variable{l xs:mb}{b base c e i j k n s:Nat}{S:lF}{y:mN}{A:lO}{t:lT}{u v:lH}{w w0:lE}
def DL(l:List lN):Nat->Prop:=fun k=>∃e∈l,e.D k
section
variable{S:lF}{w0 w w':lE}{H H' l:List lN}
theorem ly.from(h:ly S w0 w (l++H)):ly (DL l) w w l:=⟨mC.refl _ w,fun e he=>h.ok e cS,fun e he k hk=>.inl ⟨e,he,hk⟩,(fW.1 h.apart).1⟩
theorem ly.Gx(h:ly S w0 w (l++H))(h':ly (DL l) w w' H'):ly S w0 w' (H'++H):=by
 have⟨p1,p2,p3⟩:=fW.1 h.apart;refine⟨h.ni.trans' h'.ni fun k sG nO=>?_,fun x hx=>?_,fun x hx k hk=>?_,fW.2 ⟨h'.apart,p2,fun a ha b hb k h1 h2=>?_⟩⟩
 .obtain⟨e,he,nO⟩:=nO;rcases h.own e cS k nO with h1|h1
  .exact h1
  omega
 .rcases jc.1 hx with hx|hx
  .exact h'.ok x hx
  exact(h.ok x bH).ni h'.ni (fun k hk nO=>by obtain⟨e,he,nO⟩:=nO;exact p3 e he x hx k nO hk)
 .rcases jc.1 hx with hx|hx
  .rcases h'.own x hx k hk with⟨e,he,h1⟩|h1
   .exact h.own e cS k h1
   exact .inr<|j5 h.ni.size h1
  exact h.own x bH k hk
 rcases h'.own a ha k h1 with⟨e,he,h3⟩|h3
 .exact p3 e he b hb k h3 h2
 have:=(h.ok b<|by simp[hb]).2.1 k h2;omega
end
open Go Go.RowKit
def Lf(e size:Nat)(A:lO)(n c:Nat)(xs:mb)(w:lE):Prop:=xs.length=n*size/\n<=c/\c<=9223372036854775807/\((A=none/\c=0)\/∃(g o:Nat) (aBl:lW),A=some ⟨g,o,none⟩/\mV w g e aBl/\o+c*size<=aBl.size/\∀j u,xs[j]?=some u->aBl[o+j]?=some u)
def rS(e size:Nat)(A:lO)(n c:Nat)(xs:mb):lN:=⟨fun k=>A.map (·.block)=some k,Lf e size A n c xs⟩
theorem rS.ok{size:Nat}(h:Lf e size A n c xs w):(rS e size A n c xs).ok w:=by
 refine lN.C8 h (fun k hk=>?_)<|fun S w1 w2 hc hS h1=>?_
 .rcases h.2.2.2 with⟨rfl,_⟩|⟨g,o,aBl,rfl,hb,_⟩
  .simp at hk
  simp at hk;subst hk;exact mV.lt hb
 refine⟨h1.1,h1.2.1,h1.2.2.1,?_⟩;rcases h1.2.2.2 with h2|⟨g,o,aBl,rfl,hb,h3⟩
 .exact .inl h2
 exact .inr ⟨g,o,aBl,Z,mV.ni hb hc<|hS g Z,h3⟩
section
variable{P:lY}{N:Nat}{aBi:nI}{Q:pg}{rest:List Oper}{ρ:lB}{o:Oper}{w0 w:lE}{S:lF}{H:List lN}{d t:Nat}
theorem ly.axA{size:Nat}(hI:ly S w0 w (lz base e size A n c xs::H)):ly S w0 w (rS e size A n c xs::H):=by
 have h1:w.ownsRow base e size (.slice A n c) n xs:=(hI.ok _<|gE ..).1;refine hI.u0 (e':=rS e size A n c xs) (mC.refl _ _) (rS.ok ?_)<|fun k hk=>.inl hk;rcases h1.2 with⟨hv,h0⟩|⟨g,cap,aBl,hv,hb,hh,sn,qb,mL,uv⟩
 .injection hv with q1 q2 q3;subst q1 q2 q3;exact⟨h1.1,ku _,aa,.inl ⟨rfl,rfl⟩⟩
 injection hv with q1 q2 q3;subst q1 q3;refine⟨h1.1,sn,qb,.inr ⟨g,0,aBl,Z,hh,aa,fun j u hj=>?_⟩⟩;rw[<-uv]at hj;have:=(oS hj)
 obtain⟨hl,he⟩:=this;rw[List.getElem_take]at he;rw[kg];rw[iz]at hl
 rw[eB (by
  have:j<aBl.toList.length:=aa
  simpa using this)]
 rw[<-he];simp
theorem ly.ahL(hI:ly S w0 w (rS e 1 A n c xs::H))(hj:xs[j]?=some u):∃g o,A=some ⟨g,o,none⟩/\w.cell? ⟨g,o+j,none⟩=some u:=by
 have⟨h1,h2,h3,h4⟩:=(hI.ok _<|gE ..).1;have hl:=(oS hj).1;rcases h4 with⟨_,rfl⟩|⟨g,o,aBl,rfl,hb,hc,hx⟩
 .omega
 exact⟨g,o,Z,by rw[hb.cell];exact hx j u hj⟩
theorem ly.axB{x:lH}(hI:ly S w0 w (rS e 1 A (n+1) c (x::xs)::H)):ly S w0 w (rS e 1 (if c=1 then A else A.map (·.add (1*1))) n (c-1) xs::H):=by
 have⟨h1,h2,h3,h4⟩:=(hI.ok _<|gE ..).1;rcases h4 with⟨_,rfl⟩|⟨g,o,aBl,rfl,hb,hc,hx⟩
 .omega
 refine hI.u0 (mC.refl _ _) (rS.ok ⟨by simpa using h1,aa,aa,.inr ?_⟩)<|fun k hk=>.inl ?_
 .by_cases h:c=1
  .rw[lq h];refine⟨g,o,aBl,Z,hb,aa,fun j u hj=>?_⟩;have:=(oS hj).1;have:xs.length+1=(n+1)*1:=by simpa using h1
   omega
  rw[lp h];refine⟨g,o+1,aBl,by simp[jU],hb,aa,fun j u hj=>?_⟩;have:=hx (j+1) u (by simpa using hj);rw[<-this];congr 1;omega
 have hk:((if c=1 then some (⟨g,o,none⟩:Addr)else(some (⟨g,o,none⟩:Addr)).map (·.add (1*1)))).map (·.block)=some k:=hk;show(some (⟨g,o,none⟩:Addr)).map (·.block)=some k;rw[<-hk];split<;>simp[jU]
theorem atk(w:lE)(o:Obj):Pure w (w.drew.alloc o):=by
 have h:mC NF w w.drew:=⟨rfl,rfl,rfl,ku _,fun k hk _=>rfl⟩
 exact(h.toPure).trans<|(Pure.refl _).alloc _
theorem aiA{u:lT}{x:mN}{size m by_:Nat}{aBp:mb}{z:lH}(yv:lH)(hI:ly S w0 w (rS e size A n c xs::H))(hw:nH aBi ρ o)(hd:o.dst=some d)(hN:Nat.blt d N)
  (ho:o.op=.call {callee:=.builtin .append,args:= #[x,y],argTypes:= #[t,u]}) (hx:ev ρ x=.slice A n c) (hy:ev ρ y=yv) (ht:P.underlying t=some (.slice e))
  (pE:(P.info? e).map (fun i=>(i.zero,i.size,i.bytes))=some (some z,size,by_)) (pF:z.cells.size=size) (mR:0<size) (hs:Src P size u yv m aBp w)
  (sS:n+m<=9223372036854775807) (xT:(n+m)*by_<=140737488355328)
  (h:∀A' c' w',n+m<=c'->c'<=9223372036854775807->ly S w0 w' (rS e size A' (n+m) c' (xs++aBp)::H)->WL P N aBi Q rest (upd ρ d<|.slice A' (n+m) c') w'):WL P N aBi Q (o::rest) ρ w:=by
 cases hp:P.info? e with
 |none=>simp[hp]at pE|some q=>
  simp only[hp,jk,ia,jP]at pE;obtain⟨q1,q2,q3⟩:=pE;subst q2 q3;have⟨h1,h2,h3,h4⟩:=(hI.ok _<|gE ..).1;have uL:=hs.newsLen;have VC:∀(A':lO) (c':Nat) (w':lE),(Builtin.append_ #[t,u] o.type #[.slice A n c,yv]).run P w=.ok (.slice A' (n+m) c') w'->n+m<=c'->c'<=9223372036854775807->ly S w0 w' (rS e q.size A' (n+m) c' (xs++aBp)::H)->WL P N aBi Q (o::rest) ρ w:=fun A' c' w' nK oT rJ si=>zi hw hd hN (v:=.slice A' (n+m) c') (w':=w') (by simp[execOp,ho,resolve,invoke,builtin,hx,hy,nK]) (h A' c' w' oT rJ si)
  have aBn:(xs++aBp).length=(n+m)*q.size:=by rw[gD,h1,uL,kr]
  by_cases vh:n+m<=c
  .rcases h4 with⟨rfl,rfl⟩|⟨g,of,aBl,rfl,hb,mL,W8⟩
   .have Av:m=0:=aa;have Mw:n=0:=aa;subst Av Mw;have mK:aBp=[]:=dX (by simpa using uL);subst mK;refine VC none 0 w (run_append_nothing w t u o.type e q ht hp none 0 0 (ku _) yv hs) aa aa ?_;rw[iU];exact hI
   have adf:n*q.size+m*q.size<=c*q.size:=by rw[<-kr];exact fX _ vh
   have UD:=hb.setCells aBp<|of+n*q.size;refine VC (some ⟨g,of,none⟩) c (w.setCells g (of+n*q.size) aBp) (run_append_room_src w t u o.type e q ht hp g of n c yv m aBp hs vh (fun j hj=>?_)<|fun j hj=>hb.frozen _) aa h3 ?_
   .rw[hb.cell,eB aa];rfl
   refine hI.u0 (e':=rS e q.size (some ⟨g,of,none⟩) (n+m) c<|xs++aBp) (mC.setCells (S:=(rS e q.size (some ⟨g,of,none⟩) n c xs).D) (b:=g) (.inl Z) _ _<|mC.refl _ _) (rS.ok ⟨aBn,vh,h3,.inr ⟨g,of,_,Z,UD,by rw[uQ];exact mL,fun j u hj=>?_⟩⟩)<|fun k hk=>.inl hk;rw[ET _ _ _ _ aa];by_cases FX:j<n*q.size
   .rw[lp aa];rw[eH aa]at hj;exact W8 j u hj
   have BN:=(oS hj).1;rw[lq (by rw[aBn,kr]at BN;omega)];rw[ey aa,h1]at hj;rw[<-hj];congr 1;omega
  have hold:(Builtin.firstCells q.size n<|.slice A n c).run P w.drew=.ok xs.toArray w.drew:=by
   rcases h4 with⟨rfl,rfl⟩|⟨g,of,aBl,rfl,hb,mL,W8⟩
   .have Mw:n=0:=aa;subst Mw;have mK:xs=[]:=dX (by simpa using h1);subst mK;exact run_firstCells_none _ _ _ _ _
   refine run_firstCells_some w.drew q.size n ⟨g,of,none⟩ n c xs h1 fun j v hj=>?_;rw[jU];have sV:mV w.drew g e aBl:=hb;rw[sV.cell];exact W8 j v hj
  have nK:=run_append_grow_src (P:=P) w t u o.type e q z ht hp q1 A n c xs hold yv m aBp hs aa aa<|growslice_fits aa xT;have oh:=kC w (n+m) c e;have qb:=gM w (n+m) c e (by simpa[maxLen]using sS);refine VC _ _ _ nK oh (by simpa[maxLen]using qb) ?_;have Hy:mV (w.drew.alloc<|.cells ((xs++aBp).toArray++Builtin.zeroCells z.cells (grownCap w (n+m) c e-(n+m))) e) w.heap.size e ((xs++aBp).toArray++Builtin.zeroCells z.cells (grownCap w (n+m) c e-(n+m))):=heap_alloc_new w.drew _;refine hI.d0.fresh (atk w _) (rS.ok ⟨aBn,oh,by simpa[maxLen]using qb,.inr ⟨w.heap.size,0,_,rfl,Hy,?_,fun j u hj=>?_⟩⟩)<|fun k hk=>?_
  .have e1:(n+m)+(grownCap w (n+m) c e-(n+m))=grownCap w (n+m) c e:=aa;rw[gO,gY,aBn,size_zeroCells,pF,<-kr,e1,kg];exact ku _
  .have BN:=(oS hj).1;rw[kg,ef<|by simpa using BN];simpa using hj
  have hk:some w.heap.size=some k:=hk;injection hk with hk;omega
end
open Go.RowKit
section
variable{P:lY}{ρ:lB}{w:lE}{o:Oper}{x:mN}{t t' e:lT}
theorem atQ(ho:o.op=.binOp .eql t x (.const (.slice none 0 0)) t')(ht:P.underlying t=some (.slice e))(hx:ev ρ x=.slice none n c):lQ P ρ o w (.bool true):=by have h:=yh (P:=P) (w:=w) (t:=t) (x:=.slice none n c) (y:=.slice none 0 0) (r:=true)<|fun d=>aB;simp[lQ,execOp,ho,hx,show ev ρ (.const<|.slice none 0 0)=.slice none 0 0 from rfl,eqGuard,binOp,h]
theorem atP{p:Addr}(ho:o.op=.binOp .eql t x (.const (.slice none 0 0)) t')(ht:P.underlying t=some (.slice e))(hx:ev ρ x=.slice (some p) n c):lQ P ρ o w (.bool false):=by have h:=yh (P:=P) (w:=w) (t:=t) (x:=.slice (some p) n c) (y:=.slice none 0 0) (r:=false)<|fun d=>aB;simp[lQ,execOp,ho,hx,show ev ρ (.const<|.slice none 0 0)=.slice none 0 0 from rfl,eqGuard,binOp,h]
end
theorem aqq(l:mq):(l.map (Value.int .i64)).all (·.oneCell'):=by simp[Value.oneCell']
theorem ajS(A:lO)(n c:Nat)(l:mq)(D:lF)(w0:lE)(h:pL w0 D (.slice A n c) l)(hb:l.length<=1000000):
  Cq 19 #[.slice A n c] w0 fun en w'=>∃A' c',en=.returned (.slice A' n c')/\ly NF w0 w' [lz 0 3 1 A' n c' (l.map<|Value.int .i64)]:=by
 obtain⟨A1,c1,hv,sn,qb,aBn,nU⟩:=h;injection hv with e1 e2 e3;subst e1 e2 e3;have hI:=ly.start (fun _=>False) w0;refine Vo func19 Z<|Wq<|Vm Z<|Wn ?_;cases A with
 |none=>
  have hl:l=[]:=by
   rcases gJ l.length with h0|h0
   .exact dX h0
   have⟨b,o,qo,_⟩:=nU h0;cases qo
  subst hl;exact Ws<|Wq<|Vf Z<|Wv Z (atQ Z nz Z)<|Yt Z<|Wq<|Vm Z<|Wn<|WR<|lV 2 Z ⟨none,0,Z,hI.fresh (Pure.refl _) (lz.nil _ 0 3 1)<|fun k hk=>by simp[lz]at hk⟩
 |some p=>
  refine Ws<|Wq<|Vf Z<|Wv Z (atP Z nz Z)<|Yf Z<|Wk<|Wq<|T7 [] [] [] [] hI Z nz (fun _=>ai) ?_;rintro b5 w- -hI;apply Vf Z;have hI:=hI.u0 (e':=lz 0 3 1 (some ⟨b5,0,none⟩) 0 0 []) (mC.refl _ _) (lz.HZ hI.g0 (kz _) aq aa)<|fun k hk=>.inl (by have:some b5=some k:=hk;injection this with this;exact this.symm);rcases gJ l.length with h0|h0
  .have hl:l=[]:=dX h0;subst hl;exact Wv Z (QZ Z nz (sz:=1) ai Z Z<|ku _)<|Vm Z<|Wn<|WR<|lV 2 Z ⟨_,_,Z,hI⟩
  have⟨b,o,qo,_,oz⟩:=nU h0;injection qo with qo;subst qo;refine K8 (z:=Y 0) (by_:=8) (aBp:=l.map<|Value.int .i64) hI Z Z Z Z Z Z nz ai Z aa (by rw[aBn]) (fun k u hk=>hI.my<|oz k u hk) (aqq l) aF aF (kz _) ?_;rintro A2 c2 w _ _ hI;refine Vm Z<|Wn<|WR<|lV 2 Z ⟨A2,c2,?_,?_⟩
  .show Ending.returned (.slice A2 (0+l.length) c2)=_;rw[kg]
  have h':ly NF w0 w [lz 0 3 1 A2 (0+l.length) c2 ([]++l.map (Value.int .i64))]:=hI;rw[kg,je]at h';exact h'
end
end Go.Proofs.YtfjcghhjlmfggaaGreatDoor
namespace Go.Proofs.YtfjcghhjlmfggaaGreatDoor
theorem aK{p:Prop}(h:p:=by rw[<-nZ];rfl):p:=h
theorem cP{p:Prop}(h:p:=by have:=x6.1;omega):p:=h
theorem cm{p:Prop}(h:p:=by rw[<-vy]):p:=h
theorem aA{p:Prop}(h:p:=by rw[Nat.zero_add,List.getElem?_toArray];exact hk):p:=h
theorem aW{p:Prop}(h:p:=by simp[lz]at hk):p:=h
theorem aC{p:Prop}(h:p:=by simp[Op.equalIn,run_underlying ht]):p:=h
theorem ax{p:Prop}(h:p:=by refine congrArg (fun b=>Ending.returned (Value.bool b)) ?_;unfold Li;rw[Bool.eq_iff_iff];simp;omega):p:=h
theorem bj{p:Prop}(h:p:=by exact Kl rfl rfl rfl (by omega)):p:=h
theorem aZ{p:Prop}(h:p:=by refine congrArg (fun b=>Ending.returned (Value.bool b)) ?_;unfold Lh;rw[Bool.eq_iff_iff];simp;omega):p:=h
theorem aS{p:Prop}(h:p:=by exact NC rfl mY rfl):p:=h
section
open Tryz
open Go.RowKit
variable{H:List lN}{vals:mb}{a c j n:Nat}{D S:lF}{v:lH}{w w0:lE}
theorem GX{s:l8}{c:Nat}{x:qy}:∀{k:Nat},(c<k->qT (mJ s c x) k+(if(s.cl c).busy then 1 else 0)=qT s k+(if x.busy then 1 else 0))/\(k<=c->qT (mJ s c x) k=qT s k)
 |0=>⟨fun h=>aa,fun _=>rfl⟩
 |k+1=>by
  have⟨h1,h2⟩:=GX (s:=s) (c:=c) (x:=x) (k:=k);rw[SJ,SJ];refine⟨fun h=>?_,fun h=>?_⟩
  .by_cases Pw:c<k
   .rw[show(mJ s c x).cl k=s.cl k from lp aa];have:=h1 Pw;omega
   obtain rfl:c=k:=aa;rw[h2 (ku _),uP];omega
  rw[h2 aa,show(mJ s c x).cl k=s.cl k from lp aa]
theorem SI{s s':l8}(h:s'.cl=s.cl)(k:Nat):qT s' k=qT s k:=by unfold qT;rw[h]
theorem XW{ms:List ou}{m:ou}(h:ms.length<=500):(vO ms m).length<=500:=by
 unfold vO;split
 .simp;omega
 exact h
theorem YF{s:l8}{c what:Nat}{e:qR}(h:s.lU.length<=500):∀j,(wQ s c what e j).length<=500
 |0=>h|j+1=>by rw[agr];exact XW<|YF h j
section
variable{L L':ny}{s:l8}{M M':Nat}
theorem nw.mono(h:nw L s M)(hM:M<=M'):nw L s M':=⟨h.n1,h.k1,h.ask,h.tell,h.vG,h.yB,h.zQ,h.free,fun m hm=>by have:=h.zJ m hm;exact⟨this.1,this.2.1,aa,aa,this.2.2.2.2⟩,fun c hc=>by have:=h.wj c hc;exact⟨aa,aa,this.2.2⟩,h.Ac,fun j k hj hk=>j5 (h.Bm j k hj hk) hM⟩
theorem nw.loc(h:nw L s M)(hw:L'.cw=L.cw):nw L' s M:=⟨h.n1,h.k1,h.ask,h.tell,h.vG,h.yB,h.zQ,h.free,h.zJ,fun c hc=>by rw[hw];exact h.wj c hc,fun c b hc hb=>h.Ac c b hc (by rw[<-hw];exact hb),h.Bm⟩
theorem nw.lU(h:nw L s M){ms:List ou}(hm:∀m∈ms,m∈s.lU)(hl:ms.length<=500):nw L {s with lU:=ms} M:=⟨h.n1,h.k1,h.ask,h.tell,hl,h.yB,h.zQ,h.free,fun m hx=>h.zJ m<|hm m hx,h.wj,h.Ac,h.Bm⟩
theorem nw.cl(h:nw L s M)(hc:c<s.k){x:qy}(h1:x.round<=M)(h2:x.mF.t<=M)(h3:x.busy->L'.cw c≠none/\x.counted.length=s.n/\0<=x.mz.key/\x.mz.key<8)(h4:∀b,L'.cw c=some b->x.counted.length=s.n)(ho:∀i,i≠c->L'.cw i=L.cw i)
  (h5:s.evs.length+qT (mJ s c x) s.k<=120):nw L' (mJ s c x) M:=by
 have oz:∀i,i≠c->(mJ s c x).cl i=s.cl i:=fun i hi=>lp hi;refine⟨h.n1,h.k1,h.ask,h.tell,h.vG,h.yB,h.zQ,h5,h.zJ,fun i hi=>?_,fun i b hi hb=>?_,h.Bm⟩
 .by_cases om:i=c
  .subst om;rw[uP];exact⟨h1,h2,h3⟩
  rw[oz i om,ho i om];exact h.wj i hi
 by_cases om:i=c
 .subst om;rw[uP];exact h4 b hb
 rw[oz i om];exact h.Ac i b hi (by rw[<-ho i om];exact hb)
theorem nw.node(h:nw L s M){m:wY}(hj:j<s.n)(hc:m.mQ<s.k)(hk:m.key<8)(hr:m.round<=M)(ht:m.e.t<=M):nw L (Gh s j m) M:=by
 have qc:(vL s j m).t<=M:=by
  unfold vL;split
  .exact ht
  exact h.Bm j m.key hj hk
 refine⟨h.n1,h.k1,h.ask,h.tell,XW h.vG,h.yB,h.zQ,h.free,fun x hx=>?_,h.wj,h.Ac,fun a b ha hb=>?_⟩
 .rcases mem_push hx with hx|rfl
  .exact h.zJ x hx
  exact⟨hc,hk,hr,qc,ku _,.inr ⟨hj,Z⟩⟩
 show(if a=j/\b=m.key then vL s j m else s.mG a b).t<=M;split
 .exact qc
 exact h.Bm a b ha hb
theorem nw.send(h:nw L s M){what:Nat}{e:qR}(hc:c<s.k)(hw:what<=3)(hr:(s.cl c).round+1<=M)(he:e.t<=M)(hk:0<=(s.cl c).mz.key/\(s.cl c).mz.key<8)(BJ:L'.cw c≠none)(ho:∀i,i≠c->L'.cw i=L.cw i):nw L' (y5 s c what e) M:=by
 have hb:=(GX (s:=s) (c:=c) (x:=tI s c what) (k:=s.k)).1 hc;have yI:(tI s c what).busy=(s.cl c).busy:=rfl;rw[yI]at hb;have h1:nw L' (mJ s c<|tI s c what) M:=h.cl hc hr (h.wj c hc).2.1 (fun _=>⟨BJ,by simp[tI],hk⟩) (fun _ _=>by simp[tI]) ho (by have:=h.free;omega);refine⟨h1.n1,h1.k1,h1.ask,h1.tell,YF h.vG _,h1.yB,h1.zQ,h1.free,fun x hx=>?_,h1.wj,h1.Ac,h1.Bm⟩;rcases Xr hx with hx|⟨i,hi,rfl⟩
 .exact h.zJ x hx
 exact⟨hc,by show Gb s c<8;unfold Gb;omega,hr,he,hw,.inl ⟨hi,rfl⟩⟩
theorem nw.done(h:nw L s M)(hc:c<s.k)(hb:(s.cl c).busy)(hw:L'.cw=L.cw):nw L' (yA s c) M:=by
 have xg:=(GX (s:=rN s (tB<|s.cl c) ⟨(s.cl c).mF.t,(s.cl c).mF.c,0⟩) (c:=c) (x:={s.cl c with busy:=false}) (k:=s.k)).1 hc;rw[SI (s:=s) (s':=rN s (tB<|s.cl c) ⟨(s.cl c).mF.t,(s.cl c).mF.c,0⟩) rfl]at xg;rw[lq (show((rN s (tB<|s.cl c) ⟨(s.cl c).mF.t,(s.cl c).mF.c,0⟩).cl c).busy from hb),lp aq]at xg;have hf:=h.free;have he:(s.evs++[tB (s.cl c)]).length=s.evs.length+1:=aq;have anE:qT (yA s c) s.k+1=qT s s.k+0:=xg;have xh:=h.wj c hc;refine⟨h.n1,h.k1,h.ask,h.tell,h.vG,by show(s.evs++[tB (s.cl c)]).length<=120;omega,by show(s.sts++[_]).length=(s.evs++[tB (s.cl c)]).length;simp[h.zQ],by show(s.evs++[tB (s.cl c)]).length+qT (yA s c) s.k<=120;omega,h.zJ,fun i hi=>?_,fun i b hi yI=>?_,h.Bm⟩
 .by_cases om:i=c
  .subst om;rw[show(yA s i).cl i={s.cl i with busy:=false}from uP];exact⟨xh.1,xh.2.1,fun h=>by cases h⟩
  rw[show(yA s c).cl i=s.cl i from lp om,hw];exact h.wj i hi
 rw[hw]at yI;by_cases om:i=c
 .subst om;rw[show(yA s i).cl i={s.cl i with busy:=false}from uP];exact h.Ac i b hi yI
 rw[show(yA s c).cl i=s.cl i from lp om];exact h.Ac i b hi yI
theorem nw.give(h:nw L s M)(hc:c<s.k)(hb:(s.cl c).busy)(hw:L'.cw=L.cw):nw L' (Ae s c) M:=by
 have xg:=(GX (s:=rN s {(s.cl c).mz with ty:=4} ⟨0,0,0⟩) (c:=c) (x:={s.cl c with busy:=false,gone:=true}) (k:=s.k)).1 hc;rw[SI (s:=s) (s':=rN s {(s.cl c).mz with ty:=4} ⟨0,0,0⟩) rfl]at xg;rw[lq (show((rN s {(s.cl c).mz with ty:=4} ⟨0,0,0⟩).cl c).busy from hb),lp aq]at xg;have hf:=h.free;have he:(s.evs++[{(s.cl c).mz with ty:=4}]).length=s.evs.length+1:=aq;have xh:=h.wj c hc;refine⟨h.n1,h.k1,h.ask,h.tell,h.vG,by show(s.evs++[{(s.cl c).mz with ty:=4}]).length<=120;omega,by show(s.sts++[_]).length=(s.evs++[{(s.cl c).mz with ty:=4}]).length;simp[h.zQ],by show(s.evs++[{(s.cl c).mz with ty:=4}]).length+qT (Ae s c) s.k<=120;have anE:qT (Ae s c) s.k+1=qT s s.k+0:=xg;omega,h.zJ,fun i hi=>?_,fun i b hi yI=>?_,h.Bm⟩
 .by_cases om:i=c
  .subst om;rw[show(Ae s i).cl i={s.cl i with busy:=false,gone:=true}from uP];exact⟨xh.1,xh.2.1,fun h=>by cases h⟩
  rw[show(Ae s c).cl i=s.cl i from lp om,hw];exact h.wj i hi
 rw[hw]at yI;by_cases om:i=c
 .subst om;rw[show(Ae s i).cl i={s.cl i with busy:=false,gone:=true}from uP];exact h.Ac i b hi yI
 rw[show(Ae s c).cl i=s.cl i from lp om];exact h.Ac i b hi yI
theorem nw.begin(h:nw L s M){key:Nat}{write:Bool}{value:Int}(hc:c<s.k)(hb:(s.cl c).busy=false)(vh:s.evs.length+2+qT s s.k<=120)(hk:key<8)(BJ:L'.cw c≠none)(ho:∀i,i≠c->L'.cw i=L.cw i):nw L' (wi s c key write value) (M+1):=by
 have xh:=h.wj c hc;have xg:=(GX (s:=rN s (u6 c key write value) ⟨0,0,0⟩) (c:=c) (x:={(rN s (u6 c key write value) ⟨0,0,0⟩).cl c with busy:=true,mz:=u6 c key write value,mF:=⟨0, -2,0⟩}) (k:=s.k)).1 hc;rw[SI (s:=s) (s':=rN s (u6 c key write value) ⟨0,0,0⟩) rfl]at xg;rw[lp (show ¬((rN s (u6 c key write value) ⟨0,0,0⟩).cl c).busy=true by show ¬(s.cl c).busy;rw[hb];decide),lq rfl]at xg;have he:(s.evs++[u6 c key write value]).length=s.evs.length+1:=aq;obtain⟨s1,nZ⟩:∃s1,rN s (u6 c key write value) ⟨0,0,0⟩=s1:=⟨_,rfl⟩
 have Ah:=(GX (s:=mJ s1 c {s1.cl c with busy:=true,mz:=u6 c key write value,mF:=⟨0, -2,0⟩}) (c:=c) (x:=tI (mJ s1 c {s1.cl c with busy:=true,mz:=u6 c key write value,mF:=⟨0, -2,0⟩}) c 1) (k:=s.k)).1 hc;have yI:(tI (mJ s1 c {s1.cl c with busy:=true,mz:=u6 c key write value,mF:=⟨0, -2,0⟩}) c 1).busy:=by show((mJ s1 c _).cl c).busy;rw[uP]
 rw[uP,lq rfl,lq yI]at Ah;rw[nZ]at xg;have tD:s1.cl=s.cl:=aK;have Jm:s1.evs=s.evs++[u6 c key write value]:=aK;have WN:s1.sts=s.sts++[⟨0,0,0⟩]:=aK;have rm:s1.lU=s.lU:=aK;have rn:s1.n=s.n/\s1.k=s.k/\s1.ask=s.ask/\s1.tell=s.tell/\s1.mG=s.mG:=by rw[<-nZ];exact⟨rfl,rfl,rfl,rfl,rfl⟩
 have Ec:wi s c key write value=y5 (mJ s1 c {s1.cl c with busy:=true,mz:=u6 c key write value,mF:=⟨0, -2,0⟩}) c 1 ⟨0,0,0⟩:=aK;rw[Ec];obtain⟨x1,sI⟩:∃x1,{s1.cl c with busy:=true,mz:=u6 c key write value,mF:=⟨0, -2,0⟩}=x1:=⟨_,rfl⟩
 rw[sI]at Ah xg|-;have hxr:x1.round<=M:=by rw[<-sI,tD];exact xh.1
 have Qc:x1.mF.t=0:=by rw[<-sI]
 have Ep:x1.mz.key=(key:Int):=by rw[<-sI];rfl
 have hR:tI (mJ s1 c x1) c 1={x1 with round:=x1.round+1,wR:=decide ((1:Nat)=2),counted:=List.replicate s1.n false}:=by unfold tI;rw[uP];rfl
 refine⟨by show 1<=s1.n/\s1.n<=7;rw[rn.1];exact h.n1,by show 1<=s1.k/\s1.k<=8;rw[rn.2.1];exact h.k1,by show 1<=s1.ask/\s1.ask<=s1.n;rw[rn.2.2.1,rn.1];exact h.ask,by show 1<=s1.tell/\s1.tell<=s1.n;rw[rn.2.2.2.1,rn.1];exact h.tell,YF (by show s1.lU.length<=500;rw[rm];exact h.vG) _,by show s1.evs.length<=120;rw[Jm];omega,by show s1.sts.length=s1.evs.length;rw[WN,Jm];simp[h.zQ],?_,fun x hx=>?_,fun i hi=>?_,fun i b hi hbc=>?_,fun a b ha sV=>?_⟩
 .show s1.evs.length+qT (mJ (mJ s1 c x1) c<|tI (mJ s1 c x1) c 1) s1.k<=120;rw[Jm,rn.2.1];omega
 .rcases Xr hx with hx|⟨i,hi,rfl⟩
  .have hx:x∈s1.lU:=hx;rw[rm]at hx;have:=h.zJ x hx;refine⟨by show x.m.mQ<s1.k;rw[rn.2.1];exact this.1,this.2.1,aa,aa,this.2.2.2.2.1,?_⟩;show(x.dst<s1.n/\x.src=s1.n+_)\/(x.src<s1.n/\x.dst=s1.n+_);rw[rn.1];exact this.2.2.2.2.2
  refine⟨by show c<s1.k;rw[rn.2.1];exact hc,?_,?_,kz _,by show 1<=3;omega,.inl ⟨hi,rfl⟩⟩
  .show Gb (mJ s1 c x1) c<8;unfold Gb;rw[uP,Ep];omega
  show((mJ s1 c x1).cl c).round+1<=M+1;rw[uP];omega
 .have hi:i<s1.k:=hi;rw[rn.2.1]at hi;by_cases om:i=c
  .subst om;rw[show(y5 (mJ s1 i x1) i 1 ⟨0,0,0⟩).cl i=tI (mJ s1 i x1) i 1 from uP,hR];refine⟨by show x1.round+1<=M+1;omega,by show x1.mF.t<=M+1;omega,fun _=>⟨BJ,?_,?_⟩⟩
   .show(List.replicate s1.n false).length=s1.n;simp
   show 0<=x1.mz.key/\x1.mz.key<8;omega
  rw[show(y5 (mJ s1 c x1) c 1 ⟨0,0,0⟩).cl i=(mJ s1 c x1).cl i from lp om,show(mJ s1 c x1).cl i=s1.cl i from lp om,tD,ho i om];have:=h.wj i hi;refine⟨aa,aa,fun hb=>?_⟩;have:=this.2.2 hb;refine⟨this.1,?_,this.2.2⟩;show _=s1.n;rw[rn.1];exact this.2.1
 .have hi:i<s1.k:=hi;rw[rn.2.1]at hi;show _=s1.n;by_cases om:i=c
  .subst om;rw[show(y5 (mJ s1 i x1) i 1 ⟨0,0,0⟩).cl i=tI (mJ s1 i x1) i 1 from uP,hR];simp
  rw[show(y5 (mJ s1 c x1) c 1 ⟨0,0,0⟩).cl i=(mJ s1 c x1).cl i from lp om,show(mJ s1 c x1).cl i=s1.cl i from lp om,tD,rn.1];exact h.Ac i b hi (by rw[<-ho i om];exact hbc)
 have ha:a<s1.n:=ha;show(s1.mG a b).t<=M+1;rw[rn.2.2.2.2];exact j5 (h.Bm a b aa sV) aa
theorem nw.aqT(h:nw L s M)(ho:∀i,i≠c->L'.cw i=L.cw i)(hi:L'.cw c=none↔L.cw c=none):nw L' s M:=by
 have acE:∀i,L'.cw i=none↔L.cw i=none:=fun i=>by
  by_cases om:i=c
  .subst om;exact hi
  rw[ho i om]
 refine⟨h.n1,h.k1,h.ask,h.tell,h.vG,h.yB,h.zQ,h.free,h.zJ,fun i hk=>?_,fun i b hk hb=>?_,h.Bm⟩
 .have:=h.wj i hk;exact⟨this.1,this.2.1,fun hb=>⟨fun hn=>(this.2.2 hb).1<|(acE i).1 hn,(this.2.2 hb).2⟩⟩
 cases hl:L.cw i with
 |none=>rw[(acE i).2 hl]at hb;cases hb
 |some b'=>exact h.Ac i b' hk hl
theorem nw.clB(h:nw L s M)(hc:c<s.k)(hb:(s.cl c).busy){x:qy}(h0:x.busy)(h1:x.round<=M)(h2:x.mF.t<=M)(h3:L'.cw c≠none/\x.counted.length=s.n/\0<=x.mz.key/\x.mz.key<8)(ho:∀i,i≠c->L'.cw i=L.cw i):nw L' (mJ s c x) M:=by refine h.cl hc h1 h2 (fun _=>h3) (fun _ _=>h3.2.1) ho ?_;have xg:=(GX (s:=s) (c:=c) (x:=x) (k:=s.k)).1 hc;rw[lq hb,lq h0]at xg;have:=h.free;omega
theorem an7(x:qy)(j:Nat)(m:wY):(pN x j m).busy=x.busy/\(pN x j m).gone=x.gone/\(pN x j m).mz=x.mz/\(pN x j m).wR=x.wR/\(pN x j m).round=x.round/\(pN x j m).counted=x.counted.set j true/\((pN x j m).mF=x.mF\/(pN x j m).mF=m.e):=by
 unfold pN;dsimp only;split
 .exact⟨Z,Z,Z,Z,Z,Z,.inl Z⟩
 split
 .exact⟨Z,Z,Z,Z,Z,Z,.inr Z⟩
 exact⟨Z,Z,Z,Z,Z,Z,.inl Z⟩
theorem nw.hear(h:nw L s M){m:wY}(hc:m.mQ<s.k)(ht:m.e.t<=M)(ho:∀i,i≠m.mQ->L'.cw i=L.cw i)(hi:L'.cw m.mQ=none↔L.cw m.mQ=none):nw L' (xi s j m) (M+1):=by
 obtain⟨c,xV⟩:∃c,m.mQ=c:=⟨_,rfl⟩
 unfold xi;rw[xV]at hc ho hi|-;have xh:=h.wj c hc;obtain⟨x,hx⟩:∃x,s.cl c=x:=⟨_,rfl⟩
 dsimp only;split
 .exact(h.aqT ho hi).mono aa
 rename_i rT;rw[hx]at rT xh|-;have hb:x.busy:=by
  cases hb:x.busy with
  |true=>rfl|false=>exact ll (.inl hb) rT
 have pU:(s.cl c).busy:=by rw[hx];exact hb
 have⟨f1,f2,f3,f4,f5,f6,f7⟩:=an7 x j m;have g:=xh.2.2 hb;obtain⟨x1,sI⟩:∃x1,pN x j m=x1:=⟨_,rfl⟩
 rw[sI]at f1 f2 f3 f4 f5 f6 f7|-;have yH:x1.mF.t<=M:=by
  rcases f7 with e|e<;>rw[e]
  .exact xh.2.1
  exact ht
 have acm:L'.cw c≠none:=fun hn=>g.1<|hi.1 hn;have h3:L'.cw c≠none/\x1.counted.length=s.n/\0<=x1.mz.key/\x1.mz.key<8:=by rw[f3,f6,ja];exact⟨acm,g.2⟩
 have hS:nw L' (mJ s c x1) M:=h.clB hc pU (f1.trans hb) (by rw[f5];exact xh.1) yH h3 ho;have L6:(mJ s c x1).cl c=x1:=uP;split
 .split
  .exact(hS.done (L':=L') hc (by rw[L6];exact f1.trans hb) Z).mono aa
  exact hS.mono aa
 split
 .exact hS.mono aa
 obtain⟨x2,xv⟩:∃x2,vJ x1 c=x2:=⟨_,rfl⟩
 rw[xv];have k1:x2.busy=x1.busy/\x2.mz=x1.mz/\x2.round=x1.round/\x2.counted=x1.counted/\x2.mF.t<=M+1:=by
  rw[<-xv];unfold vJ;split
  .exact⟨Z,Z,Z,Z,by show x1.mF.t+1<=M+1;omega⟩
  exact⟨Z,Z,Z,Z,aa⟩
 obtain⟨k1,k2,k3,k4,k5⟩:=k1;have hT:nw L' (mJ s c x2) (M+1):=(h.mono (M':=M+1) aa).clB hc pU (k1.trans<|f1.trans hb) (by rw[k3,f5];have:=xh.1;omega) k5 (by rw[k2,k4];exact h3) ho;have UM:(mJ s c x2).cl c=x2:=uP;split
 .exact hT.send (L':=L') hc aa (by rw[UM,k3,f5];have:=xh.1;omega) k5 (by rw[UM,k2];exact h3.2.2) acm<|fun _ _=>Z
 exact hT.done (L':=L') hc (by rw[UM];exact k1.trans<|f1.trans hb) Z
end
def Mv(s s':l8):Prop:=
 (∃ms:List ou,(∀m∈ms,m∈s.lU)/\s'={s with lU:=ms})\/
 (∃(c key:Nat) (write:Bool) (value:Int),c<s.k/\(s.cl c).busy=false/\(s.cl c).gone=false/\key<8/\(-1000000<=value/\value<=1000000)/\s'=wi s c key write value)\/
 (∃c,c<s.k/\(s.cl c).busy=true/\s'=Ae s c)\/
 (∃(j:Nat) (m:ou),s.lU[j]?=some m/\s'=tX s j m)
theorem Mv.refl(s:l8):Mv s s:=.inl ⟨s.lU,fun _ h=>h,rfl⟩
def Uw(s:l8)(c:Int):l8:=if 0<=c/\c.toNat<s.k/\(s.cl c.toNat).busy=true then Ae s c.toNat else s
def OQ(s:l8)(i:Int):l8:=if 0<=i/\i<(s.lU.length:Int)then {s with lU:=s.lU.eraseIdx i.toNat}else s
def OK(s:l8)(i:Int):l8:=if 0<=i then(match s.lU[i.toNat]? with|some m=>{s with lU:=vO s.lU m}|none=>s)else s
def G0(cut:Bool)(lb:rD)(s:l8)(i:Int):l8:=if 0<=i then(match s.lU[i.toNat]? with|some m=>if w9 cut lb m.src m.dst=true then tX s i.toNat m else s|none=>s)else s
theorem akY{cut:Bool}{lb:rD}{s:l8}{m:ou}(hm:s.lU[j]?=some m):G0 cut lb s (j:Int)=if w9 cut lb m.src m.dst then tX s j m else s:=by unfold G0;rw[lq aa,gQ,hm]
theorem akX{cut:Bool}{lb:rD}{s:l8}{i:Int}(h:∀(j:Nat) (m:ou),i=(j:Int)->s.lU[j]?=some m->w9 cut lb m.src m.dst=false):G0 cut lb s i=s:=by
 unfold G0;by_cases h0:0<=i
 .rw[lq h0];cases hm:s.lU[i.toNat]? with
  |none=>rfl|some m=>have:=h i.toNat m aa hm;simp[this]
 rw[lp h0]
def R6(L:ny)(s:l8)(M:Nat)(S:lF)(w0:lE)(sx:l8)(en:Ending)(w':lE):Prop:=(∃v,en=.returned v)/\∃L' s',Mv s s'/\nw L' s' (M+1)/\L'.sb=L.sb/\ly S w0 w' (lR L' s')/\s'=sx/\L'.cut=L.cut/\L'.lb=L.lb
theorem amb(L:ny)(s:l8)(M:Nat)(h:nw L s M)(S:lF)(w0:lE)(hI:ly S w0 w0 (lR L s))(c:Int):Cq 100 #[lJ L.sb 0,Y c] w0 (R6 L s M S w0 (Uw s c)):=by
 refine(amc L s c h.k1.2 ⟨by have:=h.yB;omega,by have:=h.yB;have:=h.zQ;omega⟩ S w0 hI).mono ?_;rintro e w' ⟨hv,EA,ec,SA,sc,s',hs,hJ⟩;refine⟨hv,{L with EA:=EA,ec:=ec,SA:=SA,sc:=sc},s',?_,?_,Z,hJ,?_,Z,Z⟩
 .rcases hs with⟨rfl,_⟩|⟨c',_,h1,h2,rfl⟩
  .exact Mv.refl _
  exact .inr<|.inr<|.inl ⟨c',h1,h2,Z⟩
 .rcases hs with⟨rfl,_⟩|⟨c',_,h1,h2,rfl⟩
  .exact(h.loc (L':={L with EA:=EA,ec:=ec,SA:=SA,sc:=sc}) Z).mono aa
  exact(h.give (L':={L with EA:=EA,ec:=ec,SA:=SA,sc:=sc}) h1 h2 Z).mono aa
 unfold Uw;rcases hs with⟨rfl,h0⟩|⟨c',rfl,h1,h2,rfl⟩
 .rw[lp];rintro⟨g1,g2,g3⟩;rw[h0 c.toNat aa g2]at g3;cases g3
 rw[gQ,lq ⟨aa,h1,h2⟩]
theorem ak7(L:ny)(s:l8)(M:Nat)(h:nw L s M)(S:lF)(w0:lE)(hI:ly S w0 w0 (lR L s))(i:Int):Cq 60 #[lJ L.sb 0,Y i] w0 (R6 L s M S w0 (OQ s i)):=by
 refine Vo func60 Z<|Wq<|Vh Z<|Wn<|Ws<|Wq<|V8 Z<|Wv Z (Dg Z Du Z Z)<|Yf Z<|Wk<|Wq<|V8 Z<|Ve Z<|V6 7 Z<|V0 Z<|V7 [.pointer _,Y _] Z func94 Z<|(ar2 L s i h.vG (p9 _) _<|hI.n9 (X:=[])).mono ?_;rintro en w1 ⟨⟨v,rfl⟩,MA,mc,ms,uo,hJ⟩;apply rV;have hI:=hI.qB (X:=[]) hJ;refine Tt Z<|Wn<|WR ?_;have AA:∀m∈ms,m∈s.lU:=by
  rcases uo with⟨rfl,_⟩|⟨j,_,_,rfl⟩
  .exact fun _ h=>h
  exact fun m hm=>eN hm
 have aBn:ms.length<=500:=by
  rcases uo with⟨rfl,_⟩|⟨j,_,hj,rfl⟩
  .exact h.vG
  rw[fS,lq hj];have:=h.vG;omega
 have hx:{s with lU:=ms}=OQ s i:=by
  unfold OQ;rcases uo with⟨rfl,h0⟩|⟨j,rfl,hj,rfl⟩
  .rw[lp h0]
  rw[lq ⟨aa,aa⟩,gQ]
 exact lV 4 Z ⟨⟨_,Z⟩,_,_,.inl ⟨ms,AA,Z⟩,((h.lU AA aBn).loc (L':={L with MA:=MA,mc:=mc}) Z).mono aa,Z,hI,hx,Z,Z⟩
theorem ak6(L:ny)(s:l8)(M:Nat)(h:nw L s M)(S:lF)(w0:lE)(hI:ly S w0 w0 (lR L s))(i:Int):Cq 61 #[lJ L.sb 0,Y i] w0 (R6 L s M S w0 (OK s i)):=by
 refine Vo func61 Z<|Wq<|Vh Z<|Wn<|Ws<|Wq<|V8 Z<|Wv Z (Dg Z Du Z Z)<|Yf Z<|Wk<|Wq<|V8 Z<|Ve Z<|V6 7 Z<|V0 Z<|V7 [.pointer _,Y _] Z func95 Z<|(ar1 L s i (p9 _) _<|hI.n9 (X:=[])).mono ?_;rintro en w1 ⟨⟨v,rfl⟩,MA,mc,ms,uo,hJ⟩;apply rV;have hI:=hI.qB (X:=[]) hJ;refine Tt Z<|Wn<|WR ?_;have AA:∀m∈ms,m∈s.lU:=by
  rcases uo with⟨rfl,_⟩|⟨j0,m0,_,h0,rfl⟩
  .exact fun _ h=>h
  exact fun m hm=>by rcases mem_push hm with hm|rfl;exact hm;exact mZ h0
 have aBn:ms.length<=500:=by
  rcases uo with⟨rfl,_⟩|⟨j0,m0,_,h0,rfl⟩
  .exact h.vG
  exact XW h.vG
 have hx:{s with lU:=ms}=OK s i:=by
  unfold OK;rcases uo with⟨rfl,h0⟩|⟨j,m,rfl,hj,rfl⟩
  .by_cases hi:0<=i
   .rw[lq hi,fF aa]
   rw[lp hi]
  rw[lq aa,gQ,hj]
 exact lV 4 Z ⟨⟨_,Z⟩,_,_,.inl ⟨ms,AA,Z⟩,((h.lU AA aBn).loc (L':={L with MA:=MA,mc:=mc}) Z).mono aa,Z,hI,hx,Z,Z⟩
theorem aa0(L:ny)(s:l8)(M:Nat)(h:nw L s M)(hM:M<=100000)(S:lF)(w0:lE)(hI:ly S w0 w0 (lR L s))(i:Int):Cq 58 #[lJ L.sb 0,Y i] w0 fun en w'=>∃v L' s',en=.returned v/\Mv s s'/\nw L' s' (M+1)/\L'.sb=L.sb/\L'.cut=L.cut/\L'.lb=L.lb/\ly S w0 w' (lR L' s')/\s'=G0 L.cut L.lb s i/\(∀(j:Nat) (m:ou),L.cut=false->i=(j:Int)->s.lU[j]?=some m->v=.nilIface/\s'=tX s j m):=by
 have hn:=h.n1;have hk:=h.k1;apply Vo func58 rfl;refine Wq<|Vh rfl<|Wn<|Ws<|Wq<|V8 rfl ?_;apply Wv rfl (Dg rfl Du rfl rfl);refine Wn<|Wc false rfl<|Wk ?_;have Hw:∀m∈s.lU,m.src<1000/\m.dst<1000:=fun m hm=>by have:=h.zJ m hm;omega
 have hz9:rQ.size=9:=rfl;refine Wq<|V8 rfl<|Ve rfl<|V6 7 rfl<|V0 rfl<|V7 [.pointer _,Y _] rfl func90 rfl ?_;refine(awW L s i h.vG Hw (p9 _) _<|hI.n9 (X:=[])).mono ?_;rintro en w1 Al;obtain⟨ag,er,L1,s1,rfl,hag,MD,pU,mL,hJ⟩:∃(ag:lW) (er:lH) (L1:ny) (s1:l8),en=.returned (.tuple #[.agg ag,er])/\ag.size=9/\ag.toList.all (·.oneCell')/\L1.sb=L.sb/\
   (((∃n,er=.iface 36 (Y n))/\(∀(j:Nat) (m:ou),i=(j:Int)->s.lU[j]?=some m->w9 L.cut L.lb m.src m.dst=false)/\L1=L/\s1=s)\/(er=.nilIface/\∃(j:Nat) (m:ou) (MA:lO) (mc:Nat),i=(j:Int)/\s.lU[j]?=some m/\w9 L.cut L.lb m.src m.dst/\ag=(pb m).toArray/\L1={L with MA:=MA,mc:=mc}/\s1={s with lU:=s.lU.eraseIdx j}))/\ly (p9<|lR L s) w0 w1 (lR L1 s1):=by
  rcases Al with⟨n,rfl,CL,hJ⟩|⟨j,m,MA,mc,sX,hm,BI,rfl,hJ⟩
  .exact⟨_,_,L,s,rfl,rfl,rfl,rfl,.inl ⟨⟨n,rfl⟩,CL,rfl,rfl⟩,hJ⟩
  exact⟨_,_,{L with MA:=MA,mc:=mc},{s with lU:=s.lU.eraseIdx j},rfl,rfl,rfl,rfl,.inr ⟨rfl,j,m,MA,mc,sX,hm,BI,rfl,rfl,rfl⟩,hJ⟩
 refine⟨_,rfl,?_⟩;replace hI:=hI.qB (X:=[]) hJ;refine Vy rfl<|Vi rfl<|Vi rfl<|T6 (.agg rQ) rQ hI rfl ?_;clear hI;rintro b5 w- -hI;apply Ou (u:=.agg ag) (vs:=ag) (n:=9) hI rfl rfl rfl rfl rfl rfl ai hag rfl MD;clear hI;intro w hI;refine Tt rfl<|Wn ?_;rcases mL with⟨⟨n,rfl⟩,CL,rfl,rfl⟩|⟨rfl,j,m,MA,mc,sX,hm,BI,rfl,rfl,rfl⟩
 .refine Ws<|Wq<|Vs rfl<|Tp rfl mY rfl<|Wn<|Wc true rfl<|Wq<|Vs rfl<|Vn rfl<|Wn ?_;exact WR<|lV 4 rfl ⟨_,L1,s1,rfl,Mv.refl _,h.mono aa,rfl,rfl,rfl,hI.d0,(akX CL).symm,fun j m hc hj hm=>by have:=CL j m hj hm;rw[hc]at this;cases this⟩
 have Aq:∀(j':Nat) (m':ou),L.cut=false->i=(j':Int)->s.lU[j']?=some m'->(Value.nilIface:lH)=.nilIface/\tX s j m=tX s j' m':=fun j' m' _ xl ve=>by obtain rfl:j=j':=aa;rw[hm]at ve;injection ve with ve;exact⟨rfl,by rw[ve]⟩
 have hdx:tX s j m=G0 L.cut L.lb s i:=by rw[sX,akY hm,lq BI]
 have x6:=h.zJ m<|List.mem_of_getElem? hm;obtain⟨s1,nZ⟩:∃s1:l8,{s with lU:=s.lU.eraseIdx j}=s1:=⟨_,rfl⟩
 obtain⟨L1,vy⟩:∃L1:ny,{L with MA:=MA,mc:=mc}=L1:=⟨_,rfl⟩
 have h1:nw L1 s1 M:=by rw[<-nZ,<-vy];exact(h.lU (fun x hx=>eN hx) (by rw[fS];have:=h.vG;split<;>omega)).loc rfl
 have rn:s1.n=s.n/\s1.k=s.k:=by rw[<-nZ];exact⟨rfl,rfl⟩
 rw[nZ,vy]at hI;have WJ:L1.sb=L.sb:=cm;have ack:L1.cut=L.cut:=cm;have acP:L1.lb=L.lb:=cm;have Am:tX s j m=if m.dst<s.n then Gh s1 m.dst m.m else xi s1 m.src m.m:=aK;have xU:∀w,ly S w0 w ([B b5 218 (pb m).toArray]++lR L1 s1)->w.cell? ⟨L.sb,0,none⟩=some (lI s.n):=fun w hI=>by have:=YK (X:=[_]) hI;rw[WJ,rn.1]at this;exact this
 have tD:=h1.wj m.m.mQ cP;refine Ws<|Wq<|Tb rfl<|Tn rfl mY rfl<|Wn<|Wc false rfl<|Wk ?_;by_cases hd:m.dst<s.n
 .rw[lq hd]at Am;refine Ws<|Ws<|Wd ai ?_;apply Wi (T:=[]) hI.drew;intro Sx hY hZ;replace hI:=hI.drew;refine Vd 0 1 rfl<|V9 1 (Y _) rfl (lL hY fun h=>h.c0 rfl)<|Vj 2 rfl<|Vk 3 rfl<|Vd 4 0 rfl<|Vd 5 0 rfl<|V9 6 (lI s.n) rfl (lL hY fun hI=>xU _ hI) ?_;refine Wt 7 rfl (lL hY fun hI=>(by exact Ra rfl rfl rfl aa)) ?_;refine We ai<|Wc true rfl<|Wr<|V8 rfl<|V6 1 rfl<|V4 (Y _) rfl (hI.c0 rfl)<|V6 2 rfl<|Uh 7 (oY m.m) rfl (IV hI.g0 2 [] rfl)<|V7 [.pointer _,Y _,.agg _] rfl func91 rfl ?_;rw[<-WJ];refine(ar8 L1 s1 m.dst m.m aa aa x6.2.1 cP (p9 _) _<|hI.n9 (X:=[_])).mono ?_;rintro en w1 ⟨rfl,IH,JO,hJ⟩;refine⟨_,rfl,?_⟩;replace hI:=hI.qB (X:=[_]) hJ;refine Wn<|Wq<|Vh rfl<|Wn ?_;exact WR<|lV 4 rfl ⟨_,{L1 with MA:=IH,mc:=JO},tX s j m,rfl,.inr<|.inr<|.inr ⟨j,m,hm,rfl⟩,by rw[Am];exact((h1.node (j:=m.dst) (m:=m.m) aa cP x6.2.1 x6.2.2.1 x6.2.2.2.1).loc (L':={L1 with MA:=IH,mc:=JO}) rfl).mono aa,rfl,ack,acP,by rw[Am];exact hI.d0,hdx,Aq⟩
 rw[lp hd]at Am;have P7:m.src<s.n:=by rcases x6.2.2.2.2.2 with h|h;exact ll h.1 hd;exact h.1
 refine Ws<|Ws<|Wd ai ?_;apply Wi (T:=[]) hI.drew;intro Sx hY hZ;replace hI:=hI.drew;refine Vd 0 1 rfl<|V9 1 (Y _) rfl (lL hY fun h=>h.c0 rfl)<|Vj 2 rfl<|Vk 3 rfl<|Vd 4 0 rfl<|Vd 5 0 rfl<|V9 6 (lI s.n) rfl (lL hY fun hI=>xU _ hI) ?_;refine Wt 7 rfl (lL hY fun hI=>(by exact Q9 rfl rfl rfl aa)) ?_;refine We ai<|Wc false rfl<|Wr<|V8 rfl<|V6 0 rfl<|V4 (Y _) rfl (hI.c0 rfl)<|V6 2 rfl<|Uh 7 (oY m.m) rfl (IV hI.g0 2 [] rfl)<|V7 [.pointer _,Y _,.agg _] rfl func92 rfl ?_;rw[<-WJ];refine(an5 L1 s1 m.src m.m aa aa aa cP ⟨by have:=h1.yB;omega,by have:=h1.yB;have:=h1.zQ;omega⟩ (fun hb=>⟨(tD.2.2 hb).1,(tD.2.2 hb).2.1,(tD.2.2 hb).2.2.1⟩) ⟨by have:=tD.1;omega,by have:=tD.2.1;omega,by have:=x6.2.2.2.1;omega⟩ (p9 _) _<|hI.n9 (X:=[_])).mono ?_;rintro en w1 ⟨rfl,IH,JO,EA,ec,SA,sc,cw,hJ,ho,hi⟩;refine⟨_,rfl,?_⟩;replace hI:=hI.qB (X:=[_]) hJ;refine Wn<|Wq<|Vh rfl<|Wn ?_;exact WR<|lV 4 rfl ⟨_,{L1 with MA:=IH,mc:=JO,EA:=EA,ec:=ec,SA:=SA,sc:=sc,cw:=cw},tX s j m,rfl,.inr<|.inr<|.inr ⟨j,m,hm,rfl⟩,by rw[Am];exact h1.hear cP x6.2.2.2.1 ho hi,rfl,ack,acP,by rw[Am];exact hI.d0,hdx,Aq⟩
theorem aak(L:ny)(s:l8)(M:Nat)(h:nw L s M)(hM:M<=100000)(S:lF)(w0:lE)(hI:ly S w0 w0 (lR L s))(c key:Int)(write:Bool)(value:Int):
  Cq 89 #[lJ L.sb 0,Y c,Y key,.bool write,Y value] w0 fun en w'=>∃v L' s',en=.returned v/\Mv s s'/\nw L' s' (M+1)/\L'.sb=L.sb/\L'.cut=L.cut/\L'.lb=L.lb/\ly S w0 w' (lR L' s')/\(∀c' kn:Nat,zX s c c'->key=(kn:Int)->kn<8-> -1000000<=value->value<=1000000->(write=false->value=0)->v=.nilIface/\s'=wi s c' kn write value)/\(((∃n:Int,v=.iface 36 (Y n))/\s'=s/\L'=L)\/(v=.nilIface/\∃c' kn:Nat,zX s c c'/\key=(kn:Int)/\kn<8/\(-1000000<=value/\value<=1000000)/\(write=false->value=0)/\s'=wi s c' kn write value)):=by
 have xY:=h.yB;refine Vo func89 Z<|Wq<|Vh Z<|Wn ?_;by_cases rT:key<0\/8<=key\/value< -1000000\/1000000<value\/(write=false/\value≠0)
 .refine Ws<|Wx (fun ρ w=>ρ 35=.bool true/\ly S w0 w (lR L s)) ?_ ?_
  .by_cases h1:key<0
   .exact Wr<|V0 Z<|Vt Z<|V3 Z<|V2 Z<|V2 Z<|Vg Z<|V3 Z<|V2 Z<|V2 Z<|Vg Z<|V3 Z<|V2 Z<|V2 Z<|Vg Z<|V3 Z<|V2 Z<|V2 Z<|V2 Z<|V2 Z<|V2 Z<|V2 Z<|Vg Z<|Wn ⟨Z,hI⟩
   by_cases h2:8<=key
   .exact Wr<|V0 Z<|Vq Z<|V3 Z<|V0 Z<|Tw Z<|Va Z<|V3 Z<|V2 Z<|V2 Z<|Vg Z<|V3 Z<|V2 Z<|V2 Z<|Vg Z<|V3 Z<|V2 Z<|V2 Z<|V2 Z<|V2 Z<|V2 Z<|V2 Z<|Vg Z<|Wn ⟨Z,hI⟩
   by_cases h3:value< -1000000
   .exact Wr<|V0 Z<|Vq Z<|V3 Z<|V0 Z<|Ua Z<|Va Z<|V3 Z<|V0 Z<|Vt Z<|Va Z<|V3 Z<|V2 Z<|V2 Z<|Vg Z<|V3 Z<|V2 Z<|V2 Z<|V2 Z<|V2 Z<|V2 Z<|V2 Z<|Vg Z<|Wn ⟨Z,hI⟩
   by_cases h4:1000000<value
   .exact Wr<|V0 Z<|Vq Z<|V3 Z<|V0 Z<|Ua Z<|Va Z<|V3 Z<|V0 Z<|Vq Z<|Va Z<|V3 Z<|V0 Z<|Ty Z<|Va Z<|V3 Z<|V2 Z<|V2 Z<|V2 Z<|V2 Z<|V2 Z<|V2 Z<|Vg Z<|Wn ⟨Z,hI⟩
   obtain⟨rfl,h5⟩:write=false/\value≠0:=by
    rcases rT with h|h|h|h|h
    .exact ll h h1
    .exact ll h h2
    .exact ll h h3
    .exact ll h h4
    exact h
   exact Wr<|V0 Z<|Vq Z<|V3 Z<|V0 Z<|Ua Z<|Va Z<|V3 Z<|V0 Z<|Vq Z<|Va Z<|V3 Z<|V0 Z<|Ti Z<|Va Z<|V3 Z<|V3 Z<|Tm Z<|V3 Z<|V0 Z<|Ug Z<|Vg Z<|Va Z<|Wn ⟨Z,hI⟩
  rintro ρ w ⟨h35,hI⟩;refine Wc true h35<|Wq<|T9 Z pd Z<|Vn Z<|Wn<|WR ?_
  exact lV 10 Z ⟨_,L,s,Z,Mv.refl _,h.mono aa,Z,Z,Z,hI,fun c' kn _ h1 h2 h3 h4 h5=>ll rT (fun hb=>by
   rcases hb with h|h|h|h|h
   .omega
   .omega
   .omega
   .omega
   exact h.2 (h5 h.1)),.inl ⟨⟨_,Z⟩,Z,Z⟩⟩
 have yK:0<=key/\key<8/\ -1000000<=value/\value<=1000000:=aa;have apQ:write=false->value=0:=fun hw=>eD fun hv=>rT<|.inr<|.inr<|.inr<|.inr ⟨hw,hv⟩;refine Wx (fun ρ w=>lA ρ [(0,lJ L.sb 0),(1,Y c),(2,Y key),(3,.bool write),(4,Y value)]/\ly S w0 w (lR L s)) ?_ ?_
 .cases write with
  |true=>exact Wq<|V0 Z<|Vq Z<|V3 Z<|V0 Z<|Ua Z<|Va Z<|V3 Z<|V0 Z<|Vq Z<|Va Z<|V3 Z<|V0 Z<|Ti Z<|Va Z<|V3 Z<|V3 Z<|Th Z<|V3 Z<|V2 Z<|V2 Z<|Va Z<|Va Z<|Yf Z<|Wk ⟨ug,hI⟩|false=>have h0:value=0:=eD fun hv=>rT<|.inr<|.inr<|.inr<|.inr ⟨rfl,hv⟩;exact Wq<|V0 Z<|Vq Z<|V3 Z<|V0 Z<|Ua Z<|Va Z<|V3 Z<|V0 Z<|Vq Z<|Va Z<|V3 Z<|V0 Z<|Ti Z<|Va Z<|V3 Z<|V3 Z<|Tm Z<|V3 Z<|V0 Z<|U3 Z<|Vg Z<|Va Z<|Yf Z<|Wk ⟨ug,hI⟩
 rintro ρ w ⟨hH,hI⟩;obtain⟨σ,rfl⟩:=hH.open;obtain⟨kn,rfl⟩:∃kn:Nat,key=(kn:Int):=⟨key.toNat,aa⟩
 have nC:kn<8:=aa;refine Ws<|Wq<|V8 Z<|V0 Z<|V7 [.pointer _,Y _] Z func88 Z<|(abE L s c h.k1.2 aa (p9 _) _<|hI.n9 (X:=[])).mono ?_;rintro en w1 ⟨Al,hJ⟩;obtain⟨v,rfl,hv⟩:∃v,en=.returned v/\((v=.nilIface/\∃c',zX s c c')\/((∃n,v=.iface 36 (Y n))/\∀c',¬zX s c c')):=by
  rcases Al with⟨rfl,hm⟩|⟨⟨n,rfl⟩,mI⟩
  .exact⟨_,Z,.inl ⟨Z,hm⟩⟩
  exact⟨_,Z,.inr ⟨⟨n,Z⟩,mI⟩⟩
 apply rV;have hI:=hI.qB (X:=[]) hJ;refine Tt Z<|Wn ?_;rcases hv with⟨rfl,c',yM⟩|⟨⟨n,rfl⟩,mI⟩
 rotate_left
 .exact Wq<|Vs Z<|Tp Z mY Z<|Yt Z<|Wq<|Vs Z<|Vn Z<|Wn<|WR<|lV 10 Z ⟨_,L,s,Z,Mv.refl _,h.mono aa,Z,Z,Z,hI,fun c' _ hm=>ll hm<|mI c',.inl ⟨⟨_,Z⟩,Z,Z⟩⟩
 obtain⟨rfl,hc,hb,FW,vh⟩:=yM;have xh:=h.wj c' hc;refine Wq<|Tb Z<|Tn Z mY Z<|Yf Z<|Wk<|Wq<|V0 Z<|V0 Z<|Tf [(0,Y _),(1,Y _),(2,Y _),(3,Y _)] [_,_,_,_,_,_,_] Z [Y 0,Y 0,Y 0,Y 0,Y 0,Y 0,Y 0] [0,1,2,3] Z (fun _=>ai)<|T6 (.agg za) (za) hI rfl ?_;rintro Bf w- -hI;apply Ta 7 (#[_,_,_,_,_,_,_]) (.agg _) hI Z;intro w hI;refine Wn<|Wx (fun ρ w=>lA ρ [(12,lJ Bf 0),(0,lJ L.sb 0),(1,lI c')]/\ly S w0 w ([B Bf 66 (nu<|u6 c' kn write value).toArray]++lR L s)) ?_ ?_
 .cases write with
  |true=>refine Wq<|V3 Z<|Yt Z<|Wr<|V0 Z<|V6 3 Z<|xI (u:=Y _) hI Z Z Z Z Z Z ai Z Z Z ?_;intro w hI;refine V6 4 Z<|xI (u:=Y _) hI Z Z Z Z Z Z ai Z Z Z ?_;intro w hI;exact Wn ⟨sf,hI⟩
  |false=>exact Wq<|V3 Z<|Yf Z<|Wk ⟨sf,hI⟩
 rintro ρ w ⟨hH,hI⟩;obtain⟨σ,rfl⟩:=hH.open;obtain⟨ev,mj⟩:∃ev,u6 c' kn write value=ev:=⟨_,rfl⟩
 rw[mj]at hI;refine Wq<|V8 Z<|Uh 7 (nu ev) Z (fun k u hk=>hI.cell 0 Z aA) ?_;refine Tf [] [Y 0,Y 0] Z [Y 0,Y 0] [] Z (fun _=>ai)<|V7 [.pointer _,.agg _,.agg _] rfl func115 rfl<|(YE L s ev ⟨0,0,0⟩ (p9 _) _ (hI.n9 (X:=[_])) ⟨aa,by have:=h.zQ;omega⟩).mono ?_;rintro en w1 ⟨rfl,EA,ec,SA,sc,hJ⟩;apply rV;have hI:=hI.qB (X:=[_]) hJ;apply Wn;obtain⟨s1,nZ⟩:∃s1,rN s ev ⟨0,0,0⟩=s1:=⟨_,rfl⟩
 obtain⟨L1,vy⟩:∃L1:ny,{L with EA:=EA,ec:=ec,SA:=SA,sc:=sc}=L1:=⟨_,rfl⟩
 have sG:s1.k=s.k:=aK;have rn:s1.n=s.n:=aK;have UY:L1.cb=L.cb:=cm;have Az:L1.sb=L.sb:=cm;have tD:s1.cl=s.cl:=aK;have oT:c'<s1.k:=aa;rw[nZ,vy]at hI;have h6:∀w,ly S w0 w ([B Bf 66 (nu ev).toArray]++lR L1 s1)->w.cell? ⟨L.sb,6,none⟩=some (me L1.cb 0 s1.k s1.k):=fun w hI=>by rw[<-Az];exact NL hI
 refine Wq<|V8 Z<|Ve Z<|V6 6 Z<|V4 (.slice _ _ _) Z (h6 _ hI)<|V0 Z<|Tu 15 Z xG Z<|Uf Z<|Wn ?_;unfold lR at hI;rw[<-IY (c:=c')]at hI;refine Ws<|Wd ai<|Wi (T:=[]) hI.d3.drew ?_;intro Sx hY hZ;have hI:=hI.drew;refine Vj 0 Z<|Vj 1 Z<|Vj 2 Z<|Ui 3 7 (nu ev) Z (lL hY fun hI=>fun k u hk=>hI.cell 0 Z aA) ?_;refine Ub 4 [(1,Y _)] [_,_] Z [Y 0,Y 0] [1] Z (fun _ _=>fun _=>ai)<|Ub 5 [(0,.agg #[_,_])] [_,_,_] rfl [Y 0,Y 0,Y 0] [0] rfl (fun _ _=>fun _=>ai)<|Vk 6 rfl<|U4 7 rfl<|Vr 8 rfl<|sQ 3 rfl (u:=.bool true) (j:=0+c'*15) hI rfl rfl rfl rfl rfl rfl ai rfl (SV oT) (SW (x:=s1.cl c') (cv:=pn L1 s1 c') (cv':=pn L1 s1 c') (x':={s1.cl c' with busy:=true}) oT rfl) ?_;intro w hI;refine Wn ⟨hZ _ hI.d3,(Vk 9 Z<|Td 10 2 Z<|Vr 11 Z<|GV 3 Z (u:=.agg (nu ev).toArray) (vs:=(nu ev).toArray) (n:=7) (j:=0+c'*15+2) hI Z Z Z Z Z Z ai Z (by have:=Lr (L:=L1) (s:=s1) (x:={s1.cl c' with busy:=true}) (cv:=pn L1 s1 c') oT (j:=14) aa;omega) Z (OJ (x:={s1.cl c' with busy:=true}) (cv:=pn L1 s1 c') (cv':=pn L1 s1 c') (x':={s1.cl c' with busy:=true,mz:=ev}) oT 2 (by simp[nu]) Z) ?_)⟩;intro w hI;refine Wn ⟨hZ _ hI.d3,(Vk 12 Z<|Td 13 12 Z<|Vr 14 Z<|GV 3 Z (u:=.agg (oI ⟨0, -2,0⟩).toArray) (vs:=(oI ⟨0, -2,0⟩).toArray) (n:=3) (j:=0+c'*15+12) hI Z Z Z Z Z Z ai Z (by have:=Lr (L:=L1) (s:=s1) (x:={s1.cl c' with busy:=true,mz:=ev}) (cv:=pn L1 s1 c') oT (j:=14) aa;omega) Z (OJ (x:={s1.cl c' with busy:=true,mz:=ev}) (cv:=pn L1 s1 c') (cv':=pn L1 s1 c') (x':={s1.cl c' with busy:=true,mz:=ev,mF:=⟨0, -2,0⟩}) oT 12 (by simp[oI]) Z) ?_)⟩;intro w hI;refine Wn ⟨hZ _ hI.d3,(Yz ?_)⟩;replace hI:=Lt (X:=[B Bf 66 (nu ev).toArray]) (L:=L1) (s:=s1) (x':={s1.cl c' with busy:=true,mz:=ev,mF:=⟨0, -2,0⟩}) oT rfl hI;obtain⟨s2,tF⟩:∃s2,mJ s1 c' {s1.cl c' with busy:=true,mz:=ev,mF:=⟨0, -2,0⟩}=s2:=⟨_,rfl⟩
 rw[tF]at hI;have nO:s2.k=s.k:=by rw[<-tF];exact sG
 have FY:s2.n=s.n:=by rw[<-tF];exact rn
 have xv:s2.cl c'={s1.cl c' with busy:=true,mz:=ev,mF:=⟨0, -2,0⟩}:=by rw[<-tF,uP]
 have Ec:wi s c' kn write value=y5 s2 c' 1 ⟨0,0,0⟩:=by rw[<-tF,<-nZ,<-mj];rfl
 have hn:=h.n1;have rY:=h.k1;refine Wq<|V8 Z<|V0 Z<|Tf [] [Y 0,Y 0,Y 0] Z [Y 0,Y 0,Y 0] [] Z (fun _=>ai)<|V7 [.pointer _,Y _,Y _,.agg _] rfl func116 rfl ?_;rw[<-Az];refine(ag5 L1 s2 c' 1 ⟨0,0,0⟩ aa aa aa (by rw[xv];show(s1.cl c').round<=1000000;rw[tD];have:=xh.1;omega) (by rw[xv,<-mj];show(0:Int)<=(kn:Int);omega) (p9 _) _<|hI.n9 (X:=[_])).mono ?_;rintro en w1 ⟨rfl,b',MA,mc,hJ⟩;apply rV;have hI:=hI.qB (X:=[_]) hJ;refine Wn<|Wq<|Vh Z<|Wn<|WR ?_
 refine lV 10 Z ⟨_,{L1 with cw:=fun i=>if i=c' then some b' else L1.cw i,MA:=MA,mc:=mc},wi s c' kn write value,Z,.inr (.inl ⟨c',kn,write,value,hc,hb,FW,nC,⟨yK.2.2.1,yK.2.2.2⟩,Z⟩),?_,Z,cm,cm,by rw[Ec];exact hI.d0,fun c2 k2 rK nO _ _ _ _=>by
  obtain rfl:c'=c2:=by have:=rK.eq;omega
  obtain rfl:kn=k2:=aa
  exact⟨Z,Z⟩,.inr ⟨Z,c',kn,⟨Z,hc,hb,FW,vh⟩,Z,nC,⟨yK.2.2.1,yK.2.2.2⟩,apQ,Z⟩⟩
 exact(h.loc (L':=L1) cm).begin hc hb vh nC (by show(if c'=c' then some b' else L1.cw c')≠none;rw[lq rfl];exact fun h=>by cases h)<|fun i hi=>lp hi
section
variable{P:lY}{N:Nat}{aBi:nI}{Q:pg}{rest:List Oper}{ρ:lB}{o:Oper}{w0 w w':lE}{S:lF}{H:List lN}{d g t tt:Nat}{cs:lW}{v:lH}
theorem arc(zs:mb)(n:Nat)(h:0<zs.length):madeCells zs.toArray (n*zs.length)=nF n (fun _=>zs):=by
 apply kU
 .simp[madeCells,D5 (m:=zs.length) (f:=fun _=>zs)<|fun _=>rfl]
 intro j h1 h2;have hj:j<n*zs.length:=by simpa[madeCells]using h1
 have hm:j%zs.length<zs.length:=kL _ h;have hd:j/zs.length<n:=Nat.div_lt_of_lt_mul (by rw[j7];exact hj);have h3:=G7 (f:=fun _=>zs) (m:=zs.length) (n:=n) (fun _=>rfl) hd hm;rw[show j/zs.length*zs.length+j%zs.length=j by rw[j7];exact jg _ _,eB h2,nM hm]at h3;injection h3 with h3;rw[h3];simp[madeCells,hm]
theorem IP{x y:mN}{e m by_:Nat}{z:lH}(zs:mb)(hI:ly S w0 w H)(hw:nH aBi ρ o)(hd:o.dst=some d)(hN:Nat.blt d N)(ho:o.op=.makeSlice t x y)(hx:ev ρ x=lI n)(hy:ev ρ y=lI n)
  (ht:P.underlying t=some (.slice e)) (hi:(P.info? e).map (fun i=>(i.zero,i.size,i.bytes))=some (some z,m,by_)) (hz:z.cells=zs.toArray) (hzl:zs.length=m) (hm:0<m) (hb:by_*n<=281474976710656) (sS:n<=9223372036854775807)
  (h:∀g w',Pure w w'->g=w.heap.size->ly S w0 w' (B g e (nF n fun _=>zs)::H)->WL P N aBi Q rest (upd ρ d<|me g 0 n n) w'):WL P N aBi Q (o::rest) ρ w:=by
 cases hp:P.info? e with
 |none=>simp[hp]at hi|some i=>
  simp only[hp,jk,ia,jP]at hi;obtain⟨h1,h2,h3⟩:=hi;subst h2 h3;have hb:(i.bytes:Int)*(n:Int)<=281474976710656:=by
   have h:((i.bytes*n:Nat):Int)<=281474976710656:=aa
   rwa [iT]at h
  have hr:=run_make (P:=P) w t e i z ht hp h1 .i64 .i64 n n aa aa hb aa;rw[hz,gQ,<-hzl,arc zs n aa]at hr;exact zi hw hd hN (by simp[execOp,ho,hx,hy,hr])<|h _ _ ((Pure.refl w).alloc _) Z<|hI.box e _
end
def we(n k a t:Int):Prop:=(1<=n/\n<=7)/\(1<=k/\k<=8)/\(1<=a/\a<=n)/\(1<=t/\t<=n)
instance (n k a t:Int):Decidable (we n k a t):=inferInstanceAs (Decidable (_/\_))
def Kp(n k:Int):Int:=if n<1\/7<n\/k<1\/8<k then 4 else 2
theorem YD(n k a t:Int)(b:Bool)(w0:lE):
  Cq 48 #[.agg #[Y n,Y k,Y a,Y t,.bool b]] w0 fun en w'=>((we n k a t/\en=.returned .nilIface)\/(¬we n k a t/\en=.returned (.iface 36<|Y<|Kp n k)))/\Pure w0 w':=by
 have hI:=ly.start (fun _=>False) w0;refine Vo func48 Z<|Wq<|Tg (.agg _) (#[_,_,_,_,_]) hI Z ?_;rintro b1 w- -hI;refine Vh Z<|Wn<|Ws<|Wb ?_;by_cases h1:n<1\/7<n\/k<1\/8<k
 .refine Wx (fun ρ w=>ρ 3=.bool true/\Pure w0 w) ?_ ?_
  .by_cases q1:n<1
   .exact Wr<|V6 0 Z<|Yc hI Z Z<|Vt Z<|V3 Z<|V2 Z<|V2 Z<|V2 Z<|Vg Z<|V3 Z<|V2 Z<|V2 Z<|V2 Z<|Vg Z<|V3 Z<|V2 Z<|V2 Z<|V2 Z<|Vg Z<|V5 Z<|Wn ⟨Z,hI.pu⟩
   by_cases q2:7<n
   .exact Wr<|V6 0 Z<|Yc hI Z Z<|Vq Z<|V3 Z<|V6 0 Z<|Yc hI Z Z<|Ty Z<|Va Z<|V3 Z<|V2 Z<|V2 Z<|V2 Z<|Vg Z<|V3 Z<|V2 Z<|V2 Z<|V2 Z<|Vg Z<|V5 Z<|Wn ⟨Z,hI.pu⟩
   by_cases q3:k<1
   .exact Wr<|V6 0 Z<|Yc hI Z Z<|Vq Z<|V3 Z<|V6 0 Z<|Yc hI Z Z<|Ti Z<|Va Z<|V3 Z<|V6 1 Z<|Yc hI Z Z<|Vt Z<|Va Z<|V3 Z<|V2 Z<|V2 Z<|V2 Z<|Vg Z<|V5 Z<|Wn ⟨Z,hI.pu⟩
   have q4:8<k:=aa;exact Wr<|V6 0 Z<|Yc hI Z Z<|Vq Z<|V3 Z<|V6 0 Z<|Yc hI Z Z<|Ti Z<|Va Z<|V3 Z<|V6 1 Z<|Yc hI Z Z<|Vq Z<|Va Z<|V3 Z<|V6 1 Z<|Yc hI Z Z<|Ty Z<|Va Z<|V5 Z<|Wn ⟨Z,hI.pu⟩
  rintro ρ w ⟨h3,hp⟩;exact Wc true h3<|Wq<|T9 Z pd Z<|Vn Z<|Wn<|WR<|lV 2 Z ⟨.inr ⟨fun h=>by unfold we at h;omega,by unfold Kp;rw[lq h1];rfl⟩,hp⟩
 refine Wq<|V6 0 Z<|Yc hI Z Z<|Vq Z<|V3 Z<|V6 0 Z<|Yc hI Z Z<|Ti Z<|Va Z<|V3 Z<|V6 1 Z<|Yc hI Z Z<|Vq Z<|Va Z<|V3 Z<|V6 1 Z<|Yc hI Z Z<|Ti Z<|Va Z<|V5 Z<|Yf Z ?_;by_cases h2:a<1\/n<a\/t<1\/n<t
 .refine Wx (fun ρ w=>ρ 23=.bool true/\Pure w0 w) ?_ ?_
  .by_cases q1:a<1
   .exact Wr<|V6 2 Z<|Yc hI Z Z<|Vt Z<|V3 Z<|V2 Z<|V2 Z<|V2 Z<|V2 Z<|V2 Z<|Vg Z<|V3 Z<|V2 Z<|V2 Z<|V2 Z<|Vg Z<|V3 Z<|V2 Z<|V2 Z<|V2 Z<|V2 Z<|V2 Z<|Vg Z<|V5 Z<|Wn ⟨Z,hI.pu⟩
   by_cases q2:n<a
   .exact Wr<|V6 2 Z<|Yc hI Z Z<|Vq Z<|V3 Z<|V6 2 Z<|Yc hI Z Z<|V6 0 Z<|Yc hI Z Z<|Ty Z<|Va Z<|V3 Z<|V2 Z<|V2 Z<|V2 Z<|Vg Z<|V3 Z<|V2 Z<|V2 Z<|V2 Z<|V2 Z<|V2 Z<|Vg Z<|V5 Z<|Wn ⟨Z,hI.pu⟩
   by_cases q3:t<1
   .exact Wr<|V6 2 Z<|Yc hI Z Z<|Vq Z<|V3 Z<|V6 2 Z<|Yc hI Z Z<|V6 0 Z<|Yc hI Z Z<|Ti Z<|Va Z<|V3 Z<|V6 3 Z<|Yc hI Z Z<|Vt Z<|Va Z<|V3 Z<|V2 Z<|V2 Z<|V2 Z<|V2 Z<|V2 Z<|Vg Z<|V5 Z<|Wn ⟨Z,hI.pu⟩
   have q4:n<t:=aa;exact Wr<|V6 2 Z<|Yc hI Z Z<|Vq Z<|V3 Z<|V6 2 Z<|Yc hI Z Z<|V6 0 Z<|Yc hI Z Z<|Ti Z<|Va Z<|V3 Z<|V6 3 Z<|Yc hI Z Z<|Vq Z<|Va Z<|V3 Z<|V6 3 Z<|Yc hI Z Z<|V6 0 Z<|Yc hI Z Z<|Ty Z<|Va Z<|V5 Z<|Wn ⟨Z,hI.pu⟩
  rintro ρ w ⟨h3,hp⟩;exact Wc true h3<|Wq<|T9 Z pd Z<|Vn Z<|Wn<|WR<|lV 2 Z ⟨.inr ⟨fun h=>by unfold we at h;omega,by unfold Kp;rw[lp h1];rfl⟩,hp⟩
 exact Wq<|V6 2 Z<|Yc hI Z Z<|Vq Z<|V3 Z<|V6 2 Z<|Yc hI Z Z<|V6 0 Z<|Yc hI Z Z<|Ti Z<|Va Z<|V3 Z<|V6 3 Z<|Yc hI Z Z<|Vq Z<|Va Z<|V3 Z<|V6 3 Z<|Yc hI Z Z<|V6 0 Z<|Yc hI Z Z<|Ti Z<|Va Z<|V5 Z<|Yf Z<|Wk<|Wq<|Vh Z<|Wn<|WR<|lV 2 Z ⟨.inl ⟨by unfold we;omega,Z⟩,hI.pu⟩
def x0C:qy:=⟨false,false,⟨0,0,0,0,0,0,0⟩,false,0,[],⟨0,0,0⟩⟩
def s0(n k a t:Nat)(b:Bool):l8:=⟨n,k,a,t,b,fun _ _=>⟨0, -1,0⟩,fun _=>x0C,[],[],[]⟩
def E8:List Value:=[.int .i64 0,.int .i64 0,.int .i64 0,.int .i64 0,.int .i64 0,.int .i64 0,.int .i64 0,.int .i64 0,.int .i64 0,.int .i64 0,.int .i64 0,.int .i64 0,.int .i64 0,.int .i64 0,.int .i64 0,.int .i64 0,.int .i64 0,.int .i64 0,.int .i64 0,.int .i64 0,.int .i64 0,.int .i64 0,.int .i64 0,.int .i64 0]
theorem ly.arw(h:ly S w0 w H)(n:Nat){es:Nat->lN}(he:∀i,es i=lN.nil):ly S w0 w (np n es::H):=h.fresh (Pure.refl _) (np.ok (fun i _=>by rw[he];exact lN.XA _)<|fun i j _ _ _ k hk=>by rw[he]at hk;exact hk.elim) (fun k ⟨i,_,hk⟩=>by rw[he]at hk;exact hk.elim)
def uO(j key:Nat)(i:Nat):List Value:=if i<j*8+key then oI ⟨0, -1,0⟩else oI ⟨0,0,0⟩
theorem arY{key:Nat}(hj:j<n)(hk:key<8):sd (nF (n*8) (uO j key)) (0+j*24+key*3) (oI ⟨0, -1,0⟩)=nF (n*8) (uO j (key+1)):=by
 have h0:=Xx j key 0;rw[j1]at h0;have hl:∀a b i,(uO a b i).length=3:=fun a b i=>by unfold uO;split<;>rfl
 rw[h0];refine O0 (fun i=>hl _ _ i) (fun i=>hl _ _ i) aa (by simp[oI]) (fun i hi=>?_) ?_
 .unfold uO;by_cases h1:i<j*8+key
  .rw[lq h1,lq aa]
  rw[lp h1,lp aa]
 unfold uO;rw[lq aa,lp aa]
 rfl
theorem arX:nF (n*8) (uO j 8)=nF (n*8) (uO (j+1) 0):=I4 fun i _=>by unfold uO;rw[show j*8+8=(j+1)*8+0 by omega]
theorem ar0(n:Nat):nF n (fun _=>E8)=nF (n*8) (uO 0 0):=by
 have h1:nF (n*8) (uO 0 0)=nF (n*8) (fun _=>oI ⟨0,0,0⟩):=I4 fun i _=>by unfold uO;rw[lp aa]
 rw[h1];apply Array.ext_getElem?;intro x;by_cases hx:x<n*24
 .have a1:=G7 (f:=fun _=>E8) (m:=24) (n:=n) (fun _=>rfl) (i:=x/24) (j:=x%24) aa aa;have a2:=G7 (f:=fun _=>oI ⟨0,0,0⟩) (m:=3) (n:=n*8) (fun _=>rfl) (i:=x/3) (j:=x%3) aa aa;rw[show x/24*24+x%24=x by omega]at a1;rw[show x/3*3+x%3=x by omega]at a2;rw[a1,a2];have e1:∀(l:mb) (i:Nat),(∀v∈l,v=Y 0)->i<l.length->l[i]?=some (Y 0):=fun l i hl hi=>by
   rw[nM hi,hl _<|iw _]
  rw[e1 E8 _ (by simp[E8]) (by show x%24<24;omega),e1 (oI ⟨0,0,0⟩) _ (by simp[oI])<|by show x%3<3;omega]
 rw[fg (by rw[D5 (m:=24) (fun _=>rfl)];omega),fg<|by rw[D5 (m:=3) (fun _=>rfl)];omega]
theorem arZ{k t:Nat}{b:Bool}:nF (n*8) (uO n 0)=nF (n*8) (zK (s0 n k a t b)):=I4 fun i hi=>by
 unfold uO;rw[lq aa]
 rfl
def E7:List Value:=u5 x0C (.slice none 0 0)
def EW(n k a t:Nat)(b:Bool)(nb cb:Nat):Array Value:= #[.int .i64 (n:Int),.int .i64 (k:Int),.int .i64 (a:Int),.int .i64 (t:Int),.bool b,.slice (some ⟨nb,0,none⟩) n n,.slice (some ⟨cb,0,none⟩) k k,.slice none 0 0,.slice none 0 0,.bool false,.slice none 0 0,.slice none 0 0]
def zL(sb nb cb:Nat):ny:=⟨sb,nb,cb,fun _=>none,none,0,none,0,0,false,[],fun _=>False,[],none,0,none,0⟩
theorem auJ{k t sb nb cb:Nat}{b:Bool}(hI:ly S w0 w [B sb 135 (EW n k a t b nb cb),B nb 140 (nF (n*8) (uO n 0)),B cb 246 (nF k fun _=>E7)]):ly S w0 w (lR (zL sb nb cb) (s0 n k a t b)):=by rw[arZ (n:=n) (k:=k) (a:=a) (t:=t) (b:=b)]at hI;have h1:=(hI.arw k (es:=sE (zL sb nb cb)<|s0 n k a t b)<|fun i=>rfl).back 3;have h2:=(h1.fresh (Pure.refl _) (lz.nil _ 0 218 9)<|fun k hk=>aW).back 4;have h3:=(h2.fresh (Pure.refl _) (lz.nil _ 0 155 1)<|fun k hk=>aW).back 5;have h4:=(h3.fresh (Pure.refl _) (oq.ok (w:=w) (vals:=[]) (D:=fun _=>False) (bs:=[]) (fun _ h=>h.elim) rfl<|fun i v b hv=>by simp at hv)<|fun k hk=>hk.elim).back 6;have h5:=(h4.fresh (Pure.refl _) (lz.nil _ 0 66 7)<|fun k hk=>aW).back 7;exact(h5.fresh (Pure.refl _) (lz.nil _ 0 137 2)<|fun k hk=>aW).back 8
theorem ar4(n k a t:Nat)(b:Bool)(hs:we n k a t)(w0:lE):
  Cq 17 #[.agg #[lI n,lI k,lI a,lI t,.bool b]] w0 fun en w'=>∃sb nb cb,en=.returned (.tuple #[lJ sb 0,.nilIface])/\ly NF w0 w' (lR (zL sb nb cb)<|s0 n k a t b):=by
 have hI:=ly.start (fun _=>False) w0;have r8:=hs;unfold we at r8;refine Vo func17 Z<|Wq<|Tg (.agg _) (#[_,_,_,_,_]) hI Z ?_;rintro b1 w- -hI;refine Uf Z<|Vh Z<|Wn<|Ws<|Wq<|U1 5 Z hI.g0<|V7 [.agg _] Z func48 Z<|(YD n k a t b _).mono ?_;rintro e w1 ⟨⟨_,rfl⟩|⟨hb,_⟩,hp⟩;rotate_left
 .exact ll hs hb
 apply rV;have hI:=hI.pure hp;refine Vh Z<|Wn<|Wq<|Tb Z<|Tn Z mY Z<|Yf Z<|Wk<|Wx (fun ρ w=>∃sb nb cb,lA ρ [(5,lJ sb 0)]/\ly NF w0 w [B sb 135 (EW n k a t b nb cb),B nb 140<|nF n fun _=>E8,B cb 246<|nF k fun _=>E7]) ?_ ?_
 .refine Yi hI fun Sx hY hZ hI=>?_;refine Wt 0 Z (lL hY fun hI=>(by exact Q7 (n:=5) rfl ai ai rfl rfl hI.g0))<|Vd 1 0 Z<|Ye 2 hY Z Z<|Vd 4 1 Z<|Ye 5 hY Z Z<|DN 3 6 Z Z ai Z Z ?_ ?_
  .apply IP (m:=24) (by_:=192) (z:=.agg E8.toArray) E8 hI Z Z Z Z Z Z underlying126 ai Z Z aa aa aa;rintro tz w- -hI;refine Wn ⟨hZ _ hI.d0,(Vr 6 Z<|IP (m:=15) (by_:=128) (z:=.agg E7.toArray) E7 hI Z Z Z Z Z Z xG ai Z Z aa aa aa ?_)⟩;rintro DT w- -hI;refine Wn ⟨hZ _ hI.d0.d0,(Ub 7 [(0,.agg #[_,_,_,_,_]),(1,.slice _ _ _),(2,.slice _ _ _)] [_,_,_,_,_,_,_,_,_,_,_,_] Z [Y 0,Y 0,Y 0,Y 0,.bool false,.slice none 0 0,.slice none 0 0,.slice none 0 0,.slice none 0 0,.bool false,.slice none 0 0,.slice none 0 0] [0,5,6] Z (fun _ _=>fun _=>ai)<|Vr 8 rfl<|Tg (.agg<|EW n k a t b tz DT) (EW n k a t b tz DT) hI rfl ?_)⟩;rintro Sw w- -hI;exact Wn ⟨hZ _ hI.d0.d0.d0,(Wt 9 Z (hS:=hZ _ hI.d0.d0.d0) (lL hY fun hI=>(by exact Kg rfl rfl))<|Yz ⟨Sw,tz,DT,zu,hI.vR.erase 3⟩)⟩
  apply IP (m:=15) (by_:=128) (z:=.agg E7.toArray) E7 hI Z Z Z Z Z Z xG ai Z Z aa aa aa;rintro DT w- -hI;refine Wn ⟨hZ _ hI.d0,(Vr 3 Z<|IP (m:=24) (by_:=192) (z:=.agg E8.toArray) E8 hI Z Z Z Z Z Z underlying126 ai Z Z aa aa aa ?_)⟩;rintro tz w- -hI;refine Wn ⟨hZ _ hI.d0.d0,(Ub 7 [(0,.agg #[_,_,_,_,_]),(1,.slice _ _ _),(2,.slice _ _ _)] [_,_,_,_,_,_,_,_,_,_,_,_] Z [Y 0,Y 0,Y 0,Y 0,.bool false,.slice none 0 0,.slice none 0 0,.slice none 0 0,.slice none 0 0,.bool false,.slice none 0 0,.slice none 0 0] [0,5,6] Z (fun _ _=>fun _=>ai)<|Vr 8 rfl<|Tg (.agg<|EW n k a t b tz DT) (EW n k a t b tz DT) hI rfl ?_)⟩;rintro Sw w- -hI;exact Wn ⟨hZ _ hI.d0.d0.d0,(Wt 9 Z (hS:=hZ _ hI.d0.d0.d0) (lL hY fun hI=>(by exact Kg rfl rfl))<|Yz ⟨Sw,tz,DT,zu,hI.erase 3⟩)⟩
 rintro ρ w ⟨sb,nb,cb,hH,hI⟩;obtain⟨σ,rfl⟩:=hH.open;rw[ar0]at hI;refine Wx (fun ρ w=>lA ρ [(5,lJ sb 0)]/\ly NF w0 w [B sb 135 (EW n k a t b nb cb),B nb 140<|nF (n*8)<|uO n 0,B cb 246<|nF k fun _=>E7]) ?_ ?_
 .refine Wq<|V8 Z<|Ve Z<|V6 5 Z<|V4 (.slice _ _ _) Z (hI.c0 Z)<|Vp Z underlying126 Z<|V0 Z<|Wn<|Wb ?_;refine zk (fun ρ w=>∃j:Nat,j<=n/\lA ρ [(27,lI j),(26,lI n),(5,lJ sb 0)]/\ly NF w0 w [B sb 135 (EW n k a t b nb cb),B nb 140<|nF (n*8)<|uO j 0,B cb 246<|nF k fun _=>E7]) (fun ρ _=>n-cnt (ρ 27))
   ⟨0,aa,⟨rfl,rfl,rfl,trivial⟩,hI⟩ ?_
  rintro ρ w ⟨j,hj,hH,hI⟩;obtain⟨σ,rfl⟩:=hH.open;by_cases FX:j<n;rotate_left
  .obtain rfl:j=n:=aa;exact Wq<|Vq Z<|Yg Z<|WE ⟨zu,hI⟩
  refine Wq<|Vt Z<|Yu Z<|Wk<|Ws<|Wb<|Wq<|V0 Z<|Vb Z<|Wn<|Wq<|V0 Z<|Wn<|Wb ?_;refine zk (fun ρ w=>∃key:Nat,key<=8/\lA ρ [(30,lI key),(6,lI j),(27,lI j),(26,lI n),(5,lJ sb 0)]/\ly NF w0 w [B sb 135 (EW n k a t b nb cb),B nb 140<|nF (n*8)<|uO j key,B cb 246<|nF k fun _=>E7]) (fun ρ _=>8-cnt (ρ 30))
   ⟨0,aa,⟨rfl,rfl,rfl,rfl,rfl,trivial⟩,hI⟩ ?_
  rintro ρ w ⟨key,hk,hH,hI⟩;obtain⟨σ,rfl⟩:=hH.open;by_cases rY:key<8;rotate_left
  .obtain rfl:key=8:=aa;rw[arX]at hI;exact Wq<|Vq Z<|Yg Z<|WE<|Wr<|Vx Z<|V0 Z<|Wn ⟨⟨j+1,aa,sf,hI⟩,by show n-((j+1:Nat):Int).toNat<n-(j:Int).toNat;omega⟩
  have lX:∀i,(uO j key i).length=3:=fun i=>by unfold uO;split<;>rfl
  refine Wq<|Vt Z<|Yu Z<|Wk<|Ws<|Wb<|Wq<|V0 Z<|Vb Z<|Wn<|Wr<|V8 Z<|Ve Z<|V6 5 Z<|V4 (.slice _ _ _) Z (hI.c0 Z)<|V0 Z<|V0 Z<|Tf [(1,Y _)] [_,_] Z [Y 0,Y 0] [1] Z (fun _=>ai)<|Tf [(0,.agg #[_,_])] [_,_,_] rfl [Y 0,Y 0,Y 0] [0] rfl (fun _=>ai)<|Tu 24 rfl underlying126 rfl<|Wv rfl (EJ (sz:=3) rfl underlying140 ai rfl rfl rfl aa)<|GV 1 rfl (u:=.agg (oI ⟨0, -1,0⟩).toArray) (vs:=(oI ⟨0, -1,0⟩).toArray) (n:=3) (j:=0+j*24+key*3) hI rfl rfl rfl rfl rfl rfl ai rfl (by rw[D5 lX];omega) rfl (arY FX rY) ?_;intro w hI;exact Wn<|Wr<|Vx Z<|V0 Z<|Wn ⟨⟨key+1,aa,ug,hI⟩,by show 8-((key+1:Nat):Int).toNat<8-(key:Int).toNat;omega⟩
 rintro ρ w ⟨hH,hI⟩;obtain⟨σ,rfl⟩:=hH.open;exact Wq<|V8 Z<|Uf Z<|Vh Z<|Wn<|WR<|nD 2 3 Z ⟨sb,nb,cb,Z,auJ hI⟩
theorem ar5(n k a t:Int)(b:Bool)(hs:¬we n k a t)(w0:lE):
  Cq 17 #[.agg #[Y n,Y k,Y a,Y t,.bool b]] w0 fun en w'=>en=.returned (.tuple #[.pointer none,.iface 36<|Y<|Kp n k])/\Pure w0 w':=by
 have hI:=ly.start (fun _=>False) w0;refine Vo func17 Z<|Wq<|Tg (.agg _) (#[_,_,_,_,_]) hI Z ?_;rintro b1 w- -hI;refine Uf Z<|Vh Z<|Wn<|Ws<|Wq<|U1 5 Z hI.g0<|V7 [.agg _] Z func48 Z<|(YD n k a t b _).mono ?_;rintro e w1 ⟨⟨hb,_⟩|⟨_,rfl⟩,hp⟩
 .exact ll hb hs
 apply rV;have hI:=hI.pure hp;exact Vn Z<|Wn<|Wq<|Vs Z<|Tp Z mY Z<|Yt Z<|Wq<|Vs Z<|Uf Z<|Vn Z<|Wn<|WR<|nD 2 3 Z ⟨Z,hI.pu⟩
theorem auI{k t:Nat}{b:Bool}(hs:we n k a t)(sb nb cb:Nat):nw (zL sb nb cb) (s0 n k a t b) 0:=by unfold we at hs;refine⟨by show 1<=n/\n<=7;omega,by show 1<=k/\k<=8;omega,by show 1<=a/\a<=n;omega,by show 1<=t/\t<=n;omega,kz _,kz _,rfl,?_,fun m hm=>(by cases hm),fun c _=>⟨ku _,ku _,fun h=>(by cases h)⟩,fun c b _ h=>(by cases h),fun _ _ _ _=>ku _⟩;show 0+qT (s0 n k a t b) k<=120;have:=aau (s0 n k a t b) k;omega
section
variable{P:lY}{ρ:lB}{w:lE}{o:Oper}{x:mN}{t t' e:lT}
theorem Yn(ho:o.op=.binOp .eql t x (.const (.slice none 0 0)) t')(ht:P.underlying t=some (.slice e))(hx:ev ρ x=.slice none n c):lQ P ρ o w (.bool true):=by have h:=yh (P:=P) (w:=w) (t:=t) (x:=.slice none n c) (y:=.slice none 0 0) (r:=true)<|fun d=>aC;simp[lQ,execOp,ho,hx,show ev ρ (.const<|.slice none 0 0)=.slice none 0 0 from rfl,eqGuard,binOp,h]
theorem Ym{p:Addr}(ho:o.op=.binOp .eql t x (.const (.slice none 0 0)) t')(ht:P.underlying t=some (.slice e))(hx:ev ρ x=.slice (some p) n c):lQ P ρ o w (.bool false):=by have h:=yh (P:=P) (w:=w) (t:=t) (x:=.slice (some p) n c) (y:=.slice none 0 0) (r:=false)<|fun d=>aC;simp[lQ,execOp,ho,hx,show ev ρ (.const<|.slice none 0 0)=.slice none 0 0 from rfl,eqGuard,binOp,h]
end
theorem alG(l:List Ev):(l.flatMap nu).all (·.oneCell'):=by rw[iq];intro u hu;have⟨m,_,h⟩:=iA.1 hu;simp only[nu,jM,iD,ld]at h;rcases h with h|h|h|h|h|h|h<;>rw[h]<;>rfl
theorem ajR(A:lO)(c:Nat)(l:List Ev)(D:lF)(w0:lE)(h:Rd w0 D 7 (.slice A l.length c) l.length (l.flatMap nu))(hb:l.length<=1000000):
  Cq 64 #[.slice A l.length c] w0 fun en w'=>∃A' c',en=.returned (.slice A' l.length c')/\ly NF w0 w' [lz 0 66 7 A' l.length c' (l.flatMap nu)]:=by
 obtain⟨A1,c1,hv,sn,qb,aBn,nU⟩:=h;injection hv with e1 e2 e3;subst e1 e3;have hI:=ly.start (fun _=>False) w0;refine Vo func64 Z<|Wq<|Vm Z<|Wn ?_;cases A with
 |none=>
  have hl:l=[]:=by
   rcases gJ l.length with h0|h0
   .exact dX h0
   have⟨b,o,qo,_⟩:=nU h0;cases qo
  subst hl;exact Ws<|Wq<|Vf Z<|Wv Z (Yn Z sN Z)<|Yt Z<|Wq<|Vm Z<|Wn<|WR<|lV 2 Z ⟨none,0,Z,hI.fresh (Pure.refl _) (lz.nil _ 0 66 7)<|fun k hk=>aW⟩
 |some p=>
  refine Ws<|Wq<|Vf Z<|Wv Z (Ym Z sN Z)<|Yf Z<|Wk<|Wq<|T7 [] [] [] [] hI Z sN (fun _=>ai) ?_;rintro b5 w- -hI;apply Vf Z;have hI:=hI.u0 (e':=lz 0 66 7 (some ⟨b5,0,none⟩) 0 0 []) (mC.refl _ _) (lz.HZ hI.g0 (kz _) aq aa)<|fun k hk=>.inl (by have:some b5=some k:=hk;injection this with this;exact this.symm);rcases gJ l.length with h0|h0
  .have hl:l=[]:=dX h0;subst hl;exact Wv Z (QZ Z sN (sz:=7) ai Z Z<|ku _)<|Vm Z<|Wn<|WR<|lV 2 Z ⟨_,_,Z,hI⟩
  have⟨b,o,qo,_,oz⟩:=nU h0;injection qo with qo;subst qo;refine K8 (z:=.agg za) (by_:=56) (aBp:=l.flatMap nu) hI Z Z Z Z Z Z sN ai Z aa aBn (fun k u hk=>hI.my<|oz k u hk) (alG l) aF aF (kz _) ?_;rintro A2 c2 w _ _ hI;refine Vm Z<|Wn<|WR<|lV 2 Z ⟨A2,c2,?_,?_⟩
  .show Ending.returned (.slice A2 (0+l.length) c2)=_;rw[kg]
  have h':ly NF w0 w [lz 0 66 7 A2 (0+l.length) c2 ([]++l.flatMap nu)]:=hI;rw[kg,je]at h';exact h'
theorem alE(L:ny)(s:l8)(S:lF)(w0:lE)(hI:ly S w0 w0 (lR L s))(hb:s.evs.length<=1000000):
  Cq 23 #[lJ L.sb 0] w0 fun en w'=>∃A c,en=.returned (.slice A s.evs.length c)/\ly S w0 w' (lz 0 66 7 A s.evs.length c (s.evs.flatMap nu)::lR L s):=by
 refine Vo func23 Z<|Wq<|Vm Z<|Wn<|Ws<|Wq<|V8 Z<|Wv Z (Dg Z Du Z Z)<|Yf Z<|Wk ?_;have hz:w0.cell? ⟨L.sb,10,none⟩=some (.slice L.EA s.evs.length L.ec):=hI.cell 0 rfl rfl;refine Wq<|V8 Z<|Ve Z<|V6 10 Z<|V4 (.slice _ _ _) Z hz<|V7 [.slice _ _ _] Z func64 Z<|(ajR L.EA L.ec s.evs (fun _=>True) _ (Rd.wP (hI.ok _<|mZ (i:=7) Z).1<|fun _ _ _=>trivial) hb).mono ?_;rintro en w1 ⟨A,c,rfl,hJ⟩;apply rV;have hI:=hI.app1 hJ;exact Vm Z<|Wn<|WR<|lV 2 Z ⟨A,c,Z,hI⟩
section
variable{P:lY}{ρ:lB}{w:lE}{o:Oper}{x y:mN}{t t':lT}
theorem atL{b:Nat}(ho:o.op=.binOp .quo t x y t')(hx:ev ρ x=lI a)(hy:ev ρ y=lI b)(hb:0<b)(ha:a<=9223372036854775807):lQ P ρ o w (Y ((a/b:Nat):Int)):=by have h:=Rf (P:=P) (w:=w) ho hx hy aa;have e:Int.tdiv (a:Int) (b:Int)=((a/b:Nat):Int):=(Int.ofNat_tdiv a b).symm;have hq:=Nat.div_le_self a b;generalize a/b=q at e hq|-;rw[e,wrap64_in aa aa]at h;exact h
theorem U2{N_:Nat}{lK:nI}{Q_:pg}{mh:List Oper}{d_:Nat}(b:Nat)(lG:@Eq _ (nH lK ρ o,o.dst,Nat.blt d_ N_,o.op,ev ρ x,ev ρ y) (true,some d_,true,.binOp .quo t x y t',lI a,lI b))(K_:WL P N_ lK Q_ mh (upd ρ d_ (Y ((a/b:Nat):Int))) w)(h1_:0<b:=by omega)(po:a<=9223372036854775807:=by omega):WL P N_ lK Q_ (o::mh) ρ w:=DM (q1 lG) (q1 (q2 lG)) (q1 (q2 (q2 lG))) (atL (b:=b) (q1 (q2 (q2 (q2 lG)))) (q1 (q2 (q2 (q2 (q2 lG))))) (q2 (q2 (q2 (q2 (q2 lG))))) h1_ po) K_
theorem atN{b:Nat}(ho:o.op=.binOp .rem t x y t')(hx:ev ρ x=lI a)(hy:ev ρ y=lI b)(hb:0<b)(ha:a<=9223372036854775807):lQ P ρ o w (Y ((a%b:Nat):Int)):=by have h:=Yl (P:=P) (w:=w) ho hx hy aa;have e:Int.tmod (a:Int) (b:Int)=((a%b:Nat):Int):=(Int.ofNat_tmod a b).symm;rw[e]at h;exact h
theorem atZ{b:Nat}(ho:o.op=.binOp .sub t x y t')(hx:ev ρ x=lI a)(hy:ev ρ y=lI b)(hb:b<=a)(ha:a<=9223372036854775807):lQ P ρ o w (Y ((a-b:Nat):Int)):=by have h:=Kl (P:=P) (w:=w) ho hx hy aa;rw[show(a:Int)-(b:Int)=((a-b:Nat):Int) by omega]at h;exact h
end
theorem ajt(l:List Bool):(qa l).all (·.oneCell'):=by simp[qa,Value.oneCell']
theorem aat(l:List Bool):(qa l).length=l.length:=by simp[qa]
theorem ly.Yy{A:lO}{m:Nat}{l:List Bool}{bs:rD}(h:ly S w0 w (lz 0 4 1 A m c (qa l)::oq vals D bs::H))(hm:m=l.length)(hl:l.length<=1000):
  ly S w0 w (oq (vals++[.slice A m c]) (fun k=>A.map (·.block)=some k\/D k) (bs++[l])::H):=by
 subst hm;have h0:=h.ok _<|mZ (i:=0) rfl;have h1:=h.ok _<|mZ (i:=1) rfl;have aBn:=h1.1.2.1;refine h.join.u0 (mC.refl _ _) (oq.ok (fun k hk=>?_) (by simp[aBn]) fun i v b hv hb=>?_)<|fun k hk=>.inl hk
 .rcases hk with hk|hk
  .exact h0.2.1 k hk
  exact h1.2.1 k hk
 by_cases hi:i<vals.length
 .rw[eH hi]at hv;rw[eH aa]at hb;have⟨Hv,sV⟩:=h1.1.2.2 i v b hv hb;exact⟨Rd.mono Hv fun k hk=>.inr hk,sV⟩
 rw[ey aa]at hv;rw[ey aa,aBn]at hb;obtain⟨e1,e2⟩:i-vals.length=0/\Value.slice A l.length c=v:=by
  cases hq:i-vals.length with
  |zero=>rw[hq]at hv;exact⟨rfl,by simpa using hv⟩|succ q=>rw[hq]at hv;simp at hv
 rw[e1]at hb;obtain rfl:l=b:=by simpa using hb
 rw[<-e2];exact⟨Rd.wP h0.1 fun k hk _=>.inl (by rw[<-EF A l.length c];exact hk),hl⟩
theorem ajQ(A:lO)(n c:Nat)(l:List Bool)(D:lF)(w0:lE)(h:Rd w0 D 1 (.slice A n c) n (qa l))(hb:l.length<=1000000):
  Cq 129 #[.slice A n c] w0 fun en w'=>∃A' c',en=.returned (.slice A' n c')/\n=l.length/\ly NF w0 w' [lz 0 4 1 A' n c' (qa l)]:=by
 obtain⟨A1,c1,hv,sn,qb,aBn,nU⟩:=h;injection hv with e1 e2 e3;subst e1 e3;rw[aat,kv]at aBn;subst aBn;have hI:=ly.start (fun _=>False) w0;refine Vo func129 Z<|Wq<|Vm Z<|Wn ?_;cases A with
 |none=>
  have hl:l=[]:=by
   rcases gJ l.length with h0|h0
   .exact dX h0
   have⟨b,o,qo,_⟩:=nU h0;cases qo
  subst hl;exact Ws<|Wq<|Vf Z<|Wv Z (Yn Z oZ Z)<|Yt Z<|Wq<|Vm Z<|Wn<|WR<|lV 2 Z ⟨none,0,Z,Z,hI.fresh (Pure.refl _) (lz.nil _ 0 4 1)<|fun k hk=>aW⟩
 |some p=>
  refine Ws<|Wq<|Vf Z<|Wv Z (Ym Z oZ Z)<|Yf Z<|Wk<|Wq<|T7 [] [] [] [] hI Z oZ (fun _=>ai) ?_;rintro b5 w- -hI;apply Vf Z;have hI:=hI.u0 (e':=lz 0 4 1 (some ⟨b5,0,none⟩) 0 0 []) (mC.refl _ _) (lz.HZ hI.g0 (kz _) aq aa)<|fun k hk=>.inl (by have:some b5=some k:=hk;injection this with this;exact this.symm);rcases gJ l.length with h0|h0
  .have hl:l=[]:=dX h0;subst hl;exact Wv Z (QZ Z oZ (sz:=1) ai Z Z<|ku _)<|Vm Z<|Wn<|WR<|lV 2 Z ⟨_,_,Z,Z,hI⟩
  have⟨b,o,qo,_,oz⟩:=nU h0;injection qo with qo;subst qo;refine K8 (z:=.bool false) (by_:=1) (aBp:=qa l) hI Z Z Z Z Z Z oZ ai Z aa (by rw[aat,kv]) (fun k u hk=>hI.my<|oz k u hk) (ajt l) aF aF (kz _) ?_;rintro A2 c2 w _ _ hI;refine Vm Z<|Wn<|WR<|lV 2 Z ⟨A2,c2,?_,Z,?_⟩
  .show Ending.returned (.slice A2 (0+l.length) c2)=_;rw[kg]
  have h':ly NF w0 w [lz 0 4 1 A2 (0+l.length) c2 ([]++qa l)]:=hI;rw[kg,je]at h';exact h'
def IA(F:Nat)(cap:mb)(f:Nat->Nat->Bool)(w0:lE):Prop:=∀(W:lE) (a b:Nat),Pure w0 W->a<7->b<7->Cq F ([Value.int .i64 (a:Int),Value.int .i64 (b:Int)]++cap).toArray W fun en w'=>en=.returned (.bool (f a b))/\Pure W w'
def Me(n a b:Nat):Bool:=decide (a<n/2)==decide (b<n/2)
def Li(n a b:Nat):Bool:=(decide (a<n/2)==decide (b<n/2))||(decide (a=n/2)||decide (b=n/2))
def ND(n a b:Nat):Bool:=decide (min (max ((a:Int)-b) ((b:Int)-a)) ((n:Int)-max ((a:Int)-b) ((b:Int)-a))<=((n/2+1)/2:Nat))
def Lh(wT:Int)(a b:Nat):Bool:=decide ((a:Int)≠wT)&&decide ((b:Int)≠wT)
theorem anq(g n:Nat)(w0:lE)(hn:n<=7)(hc:w0.cell? ⟨g,0,none⟩=some (lI n)):IA 125 [lJ g 0] (Me n) w0:=by intro W a b hp ha hb;have hI:=(ly.start (fun _=>False) w0).pure hp;have hc:=hI.my hc;have hI:=ly.start (fun _=>False) W;exact Vo func125 Z<|Wq<|V5 Z<|Wn<|Wq<|V0 Z<|V4 (Y _) Z (hI.my hc)<|U2 2 Z<|Wv Z (by exact Kk rfl rfl rfl)<|V0 Z<|V4 (Y _) Z (hI.my hc)<|U2 2 Z<|Wv Z (by exact Kk rfl rfl rfl)<|Wv Z (Ia Z E6 Z Z)<|V5 Z<|Wn<|WR<|lV 5 Z ⟨(by refine kY (fun b=>Ending.returned<|Value.bool b) ?_;simp only[Me,Int.ofNat_lt]),hI.pu⟩
theorem ajw(g n:Nat)(w0:lE)(hn:n<=7)(hc:w0.cell? ⟨g,0,none⟩=some (lI n)):IA 126 [lJ g 0] (Li n) w0:=by
 intro W a b hp ha hb;have hI:=(ly.start (fun _=>False) w0).pure hp;have hc:=hI.my hc;have hI:=ly.start (fun _=>False) W;refine Vo func126 Z<|Wq<|V5 Z<|Wn ?_;by_cases p:a<n/2
 .by_cases q:b<n/2
  .exact Wq<|V0 Z<|V4 (Y _) Z (hI.my hc)<|U2 2 Z<|Vt Z<|V0 Z<|V4 (Y _) Z (hI.my hc)<|U2 2 Z<|Vt Z<|Wv Z (Ia Z E6 Z Z)<|V3 Z<|V2 Z<|V2 Z<|V2 Z<|V2 Z<|Vg Z<|V3 Z<|V2 Z<|V2 Z<|V2 Z<|V2 Z<|Vg Z<|V5 Z<|Wn<|WR<|lV 5 Z ⟨ax,hI.pu⟩
  by_cases q2:b=n/2
  .exact Wq<|V0 Z<|V4 (Y _) Z (hI.my hc)<|U2 2 Z<|Vt Z<|V0 Z<|V4 (Y _) Z (hI.my hc)<|U2 2 Z<|Vq Z<|Wv Z (Ia Z E6 Z Z)<|V3 Z<|V0 Z<|V4 (Y _) Z (hI.my hc)<|U2 2 Z<|Vv Z<|Va Z<|V3 Z<|V0 Z<|V4 (Y _) Z (hI.my hc)<|U2 2 Z<|Vz Z<|Va Z<|V5 Z<|Wn<|WR<|lV 5 Z ⟨ax,hI.pu⟩
  exact Wq<|V0 Z<|V4 (Y _) Z (hI.my hc)<|U2 2 Z<|Vt Z<|V0 Z<|V4 (Y _) Z (hI.my hc)<|U2 2 Z<|Vq Z<|Wv Z (Ia Z E6 Z Z)<|V3 Z<|V0 Z<|V4 (Y _) Z (hI.my hc)<|U2 2 Z<|Vv Z<|Va Z<|V3 Z<|V0 Z<|V4 (Y _) Z (hI.my hc)<|U2 2 Z<|Vv Z<|Va Z<|V5 Z<|Wn<|WR<|lV 5 Z ⟨ax,hI.pu⟩
 by_cases q:b<n/2
 .by_cases p2:a=n/2
  .exact Wq<|V0 Z<|V4 (Y _) Z (hI.my hc)<|U2 2 Z<|Vq Z<|V0 Z<|V4 (Y _) Z (hI.my hc)<|U2 2 Z<|Vt Z<|Wv Z (Ia Z E6 Z Z)<|V3 Z<|V0 Z<|V4 (Y _) Z (hI.my hc)<|U2 2 Z<|Vz Z<|Va Z<|V3 Z<|V2 Z<|V2 Z<|V2 Z<|V2 Z<|Vg Z<|V5 Z<|Wn<|WR<|lV 5 Z ⟨ax,hI.pu⟩
  exact Wq<|V0 Z<|V4 (Y _) Z (hI.my hc)<|U2 2 Z<|Vq Z<|V0 Z<|V4 (Y _) Z (hI.my hc)<|U2 2 Z<|Vt Z<|Wv Z (Ia Z E6 Z Z)<|V3 Z<|V0 Z<|V4 (Y _) Z (hI.my hc)<|U2 2 Z<|Vv Z<|Va Z<|V3 Z<|V0 Z<|V4 (Y _) Z (hI.my hc)<|U2 2 Z<|Vv Z<|Va Z<|V5 Z<|Wn<|WR<|lV 5 Z ⟨ax,hI.pu⟩
 exact Wq<|V0 Z<|V4 (Y _) Z (hI.my hc)<|U2 2 Z<|Vq Z<|V0 Z<|V4 (Y _) Z (hI.my hc)<|U2 2 Z<|Vq Z<|Wv Z (Ia Z E6 Z Z)<|V3 Z<|V2 Z<|V2 Z<|V2 Z<|V2 Z<|Vg Z<|V3 Z<|V2 Z<|V2 Z<|V2 Z<|V2 Z<|Vg Z<|V5 Z<|Wn<|WR<|lV 5 Z ⟨ax,hI.pu⟩
theorem aut:∀m:Nat,m<8->IntKind.i64.wrap ((IntKind.i64.wrap (IntKind.i64.wrap ((m:Int).tdiv 2)+1)).tdiv 2)=(((m/2+1)/2:Nat):Int):=aI
theorem aur(g n:Nat)(w0:lE)(hn:n<=7)(hc:w0.cell? ⟨g,0,none⟩=some (lI n)):IA 127 [lJ g 0] (ND n) w0:=by intro W a b hp ha hb;have hI:=(ly.start (fun _=>False) w0).pure hp;have hc:=hI.my hc;have hI:=ly.start (fun _=>False) W;exact Vo func127 Z<|Wq<|V5 Z<|Wn<|Wq<|V0 Z<|V0 Z<|Wv Z bj<|V0 Z<|V0 Z<|Wv Z bj<|Wv Z (atA Z Z Z)<|Vb Z<|Wn<|Wq<|V0 Z<|V4 (Y _) Z (hI.my hc)<|V0 Z<|Wv Z bj<|Wv Z (atB Z Z Z)<|V4 (Y _) Z (hI.my hc)<|Wv Z (Rf Z Z Z aa)<|Wv Z (by exact Nw rfl rfl rfl)<|Wv Z (Rf Z Z Z aa)<|Wv Z (by exact Q8 rfl rfl rfl)<|V5 Z<|Wn<|WR<|lV 5 Z ⟨(by refine kY (fun b=>Ending.returned<|Value.bool b) ?_;unfold ND;rw[aut n aa]),hI.pu⟩
theorem aiU(g:Nat)(wT:Int)(w0:lE)(hc:w0.cell? ⟨g,0,none⟩=some (Y wT)):IA 128 [lJ g 0] (Lh wT) w0:=by
 intro W a b hp ha hb;have hI:=(ly.start (fun _=>False) w0).pure hp;have hc:=hI.my hc;have hI:=ly.start (fun _=>False) W;refine Vo func128 Z<|Wq<|V5 Z<|Wn ?_;by_cases h:(a:Int)=wT
 .exact Wq<|V0 Z<|V4 (Y _) Z (hI.my hc)<|U3 Z<|V3 Z<|V2 Z<|V2 Z<|V2 Z<|Va Z<|V5 Z<|Wn<|WR<|lV 5 Z ⟨aZ,hI.pu⟩
 exact Wq<|V0 Z<|V4 (Y _) Z (hI.my hc)<|Ug Z<|V3 Z<|V0 Z<|V4 (Y _) Z (hI.my hc)<|Wv Z (by exact Rc rfl rfl rfl)<|Vg Z<|V5 Z<|Wn<|WR<|lV 5 Z ⟨aZ,hI.pu⟩
theorem ad9{l r:mb}(h:l.length=a):(l++v::r).toArray[a]?=some v:=by subst h;simp
theorem QA{l r:mb}{u:lH}(h:l.length=a):(l++v::r).toArray.setIfInBounds a u=(l++u::r).toArray:=by subst h;simp
theorem Qz{l r:mb}(h:l.length=a):Nat.blt a (l++v::r).toArray.size:=by subst h;rw[Nat.blt_eq];simp
theorem afS(h:a<n):List.replicate (n-a) (Value.slice none 0 0)=.slice none 0 0::List.replicate (n-(a+1)) (.slice none 0 0):=by rw[show n-a=(n-(a+1))+1 by omega,List.replicate_succ]
theorem abx(n:Nat)(v:lH):nF n (fun _=>[v])=(([]:mb)++List.replicate (n-0) v).toArray:=by
 unfold nF;congr 1;rw[je,Nat.sub_zero]
 induction n with
 |zero=>rfl|succ n ih=>rw[jf,gk,ih,List.replicate_succ'];rfl
def AL(f:Nat->Nat->Bool)(a b:Nat):List Bool:=(List.range b).map fun b=>decide (a=b)||f a b
def Hc(n:Nat)(f:Nat->Nat->Bool)(a:Nat):List (List Bool):=(List.range a).map fun a=>AL f a n
theorem auw(f:Nat->Nat->Bool)(a b:Nat):(AL f a b).length=b:=by simp[AL]
theorem af4(f:Nat->Nat->Bool)(a b:Nat):AL f a (b+1)=AL f a b++[decide (a=b)||f a b]:=by simp[AL,jf]
theorem amn(n:Nat)(f:Nat->Nat->Bool)(a:Nat):Hc n f (a+1)=Hc n f a++[AL f a n]:=by simp[Hc,jf]
set_option maxRecDepth 4000 in
theorem aqQ(F n:Nat)(fn:Func)(cap:mb)(f:Nat->Nat->Bool)(w0:lE)(hf:prog.funcs[F]?=some fn)(qh:(fn.name== "runtime.NumGoroutine")=false)(Mm:fn.body.isNone=false)(hn:1<=n/\n<=7)(hC:IA F cap f w0):
  Cq 124 #[lI n,.func (.func F) #[] cap.toArray] w0 fun en w'=>∃g vals D,en=.returned (.tuple #[me g 0 n n,.nilIface])/\vals.length=n/\ly NF w0 w' [lz 0 155 1 (some ⟨g,0,none⟩) n n vals,oq vals D<|FH n f]:=by
 have hI:=ly.start (fun _=>False) w0;refine Vo func124 Z<|Wq<|Vm Z<|Vh Z<|Wn<|Ws<|Wq<|V0 Z<|Vq Z<|V3 Z<|V0 Z<|Ti Z<|Va Z<|Yf Z<|Wk<|Wq<|V0 Z<|IP (n:=n) (m:=1) (by_:=24) (z:=.slice none 0 0) [.slice none 0 0] hI Z Z Z Z Z Z rf ai Z Z aa aa aa ?_;rintro g w- -hI;refine Vm Z<|Wn ?_;have mo:nF n (fun _=>[Value.slice none 0 0])=(([]:mb)++List.replicate (n-0) (Value.slice none 0 0)).toArray:=abx n _;rw[mo]at hI;replace hI:=(hI.fresh (Pure.refl _) (oq.ok (w:=w) (vals:=[]) (D:=fun _=>False) (bs:=[]) (fun _ h=>h.elim) rfl<|fun i v b hv=>by simp at hv)<|fun k hk=>hk.elim).pQ;refine Wx (fun ρ w=>∃(vals:mb) (D:lF),vals.length=n/\lA ρ [(6,me g 0 n n)]/\ly NF w0 w [B g 155 (vals++List.replicate (n-n) (Value.slice none 0 0)).toArray,oq vals D<|FH n f]) ?_ ?_
 .refine Wq<|Vf Z<|Vp Z rf Z<|V0 Z<|Wn<|Wb ?_;refine zk (fun ρ w=>∃(a:Nat) (vals:mb) (D:lF),a<=n/\vals.length=a/\lA ρ [(20,lI a),(19,lI n),(0,lI n),(1,.func (.func F) #[] cap.toArray),(6,me g 0 n n)]/\ly NF w0 w [B g 155 (vals++List.replicate (n-a) (Value.slice none 0 0)).toArray,oq vals D<|Hc n f a]) (fun ρ _=>n-cnt (ρ 20))
   ⟨0,[],fun _=>False,aa,rfl,⟨rfl,rfl,rfl,rfl,rfl,trivial⟩,hI⟩ ?_
  rintro ρ w ⟨a,vals,D,ha,vE,hH,hI⟩;obtain⟨σ,rfl⟩:=hH.open;by_cases han:a<n;rotate_left
  .obtain rfl:a=n:=aa;exact Wq<|Vq Z<|Yg Z<|WE ⟨vals,D,vE,zu,hI⟩
  refine Wq<|Vt Z<|Yu Z<|Wk<|Ws<|Wb<|Wq<|V0 Z<|Vb Z<|Wn<|Wq<|V0 Z<|V0 Z<|Wn ?_;rw[afS han]at hI;have hI:=hI.fresh (Pure.refl _) (lz.nil _ 0 4 1)<|fun k hk=>aW;apply Wb
  refine zk (fun ρ w=>∃(b:Nat) (l:List Bool) (A:lO) (c:Nat),b<=n/\l=AL f a b/\lA ρ [(24,lI b),(23,lI n),(7,lI a),(20,lI a),(19,lI n),(0,lI n),(1,.func (.func F) #[] cap.toArray),(6,me g 0 n n)]/\
   ly NF w0 w [lz 0 4 1 A b c (qa l),B g 155 (vals++Value.slice A b c::List.replicate (n-(a+1)) (Value.slice none 0 0)).toArray,oq vals D (Hc n f a)]) (fun ρ _=>n-cnt (ρ 24))
   ⟨0,[],none,0,aa,rfl,⟨rfl,rfl,rfl,rfl,rfl,rfl,rfl,rfl,trivial⟩,hI⟩ ?_
  rintro ρ w ⟨b,l,A,c,hb,yL,hH,hI⟩;have VV:l.length=b:=by rw[yL];exact auw f a b
  obtain⟨σ,rfl⟩:=hH.open;by_cases xg:b<n;rotate_left
  .obtain rfl:b=n:=aa;refine Wq<|Vq Z<|Yg Z<|WE<|Wr<|Vx Z<|V0 Z<|Wn ?_;have h2:=(hI.vR.Yy VV.symm aa).pQ;rw[yL,<-amn]at h2;have e1:(vals++Value.slice A b c::List.replicate (b-(a+1)) (.slice none 0 0))=(vals++[.slice A b c])++List.replicate (b-(a+1)) (.slice none 0 0):=aq;rw[e1]at h2;refine⟨⟨a+1,vals++[.slice A b c],_,aa,by simp[vE],ug,h2⟩,by show b-((a+1:Nat):Int).toNat<b-(a:Int).toNat;omega⟩
  have Hr:∀w,ly NF w0 w [B g 155 (vals++Value.slice A b c::List.replicate (n-(a+1)) (Value.slice none 0 0)).toArray,oq vals D<|Hc n f a]->w.cell? ⟨g,a,none⟩=some (.slice A b c):=fun w hI=>hI.cell 0 rfl<|ad9 vE;refine Wq<|Vt Z<|Yu Z<|Wk ?_
  refine Wx (fun ρ w=>∃(A':lO) (c':Nat),lA ρ [(24,lI b),(23,lI n),(7,lI a),(20,lI a),(19,lI n),(0,lI n),(1,.func (.func F) #[] cap.toArray),(6,me g 0 n n)]/\
   ly NF w0 w [lz 0 4 1 A' (b+1) c' (qa (AL f a (b+1))),B g 155 (vals++Value.slice A' (b+1) c'::List.replicate (n-(a+1)) (Value.slice none 0 0)).toArray,oq vals D (Hc n f a)]) ?_ ?_
  .refine Wb<|Wq<|V0 Z<|Vb Z<|Wn ?_;have Mg:∀r:Bool,qa l++[.bool r]=qa (l++[r]):=fun r=>by simp[qa]
   by_cases qU:a=b
   .refine Wd ai<|Wi (T:=[18]) hI.d0.drew ?_;intro Sx hY hZ;have hI:=hI.drew;refine T8 0 Z<|Vw 1 Z<|T8 2 Z<|Vw 3 Z<|Uc 4 Z rf Z<|V9 5 (.slice _ _ _) Z (lL hY fun hI=>Hr _ hI)<|Vw 6 Z<|Vw 7 Z<|Wt 8 Z (lL hY fun hI=>(by exact Q4 rfl rfl rfl aa))<|Te 9 Z<|Vl 10 Z Z<|Vl 11 Z Z<|Vl 12 Z Z<|Vl 13 Z Z<|U6 14 Z<|Vr 15 Z<|T7 [(0,.bool _)] [_] [.bool false] [0] hI Z oZ (fun _=>ai) ?_;rintro b42 w- -hI;refine Wn ⟨hZ _ hI.d0.d0,(Vr 16 Z<|Tz 1 (.bool false) hI Z oZ Z (by rfl) hI.qP (by rfl) (kz _) ?_)⟩;rintro KP Ll w amI anL hI;have hI:=hI.d0;refine Wn ⟨hZ _ hI.d0,(Uc 17 Z rf Z<|qn ai ?_)⟩;refine Tc 18 Z<|Fv (u:=.slice KP (b+1) Ll) (j:=a) hI Z Z Z Z Z Z ai Z (Qz vE) (QA vE) ?_;intro w hI;refine Wn<|qm ai ?_;have e:=Mg true;have e2:l++[true]=AL f a (b+1):=by rw[yL,af4];simp[qU]
    rw[e2]at e;exact⟨KP,Ll,yE,by rw[<-e];exact hI⟩
   refine Wd ai<|Wi (T:=[18]) hI.d0.drew ?_;intro Sx hY hZ;have hI:=hI.drew;refine T8 0 Z<|Vw 1 Z<|T8 2 Z<|Vw 3 Z<|Uc 4 Z rf Z<|V9 5 (.slice _ _ _) Z (lL hY fun hI=>Hr _ hI)<|Vw 6 Z<|Vw 7 Z<|Wt 8 Z (lL hY fun hI=>(by exact Q3 rfl rfl rfl aa))<|Te 9 Z<|Wt 10 Z (lL hY fun hI=>(by exact Rb rfl rfl))<|Vw 11 Z<|Vw 12 Z<|Vr 13 Z<|z8 Z Z Z (Nz (first:=[]) (cap:=cap) (vs:=[lI a,lI b]++cap) Z Z hf qh Mm Z)<|(hC _ a b hI.pu aa aa).mono ?_;rintro en w1 ⟨rfl,hp⟩;apply rV;have hI:=hI.pure hp;refine Wn ⟨hZ _ hI.d0,(Ts 14 Z<|Vr 15 Z<|T7 [(0,.bool _)] [_] [.bool false] [0] hI Z oZ (fun _=>ai) ?_)⟩;rintro b42 w- -hI;refine Wn ⟨hZ _ hI.d0.d0,(Vr 16 Z<|Tz 1 (.bool false) hI Z oZ Z (by rfl) hI.qP (by rfl) (kz _) ?_)⟩;rintro KP Ll w amI anL hI;have hI:=hI.d0;refine Wn ⟨hZ _ hI.d0,(Uc 17 Z rf Z<|qn ai ?_)⟩;refine Tc 18 Z<|Fv (u:=.slice KP (b+1) Ll) (j:=a) hI Z Z Z Z Z Z ai Z (Qz vE) (QA vE) ?_;intro w hI;refine Wn<|qm ai ?_;have e:=Mg<|f a b;have e2:l++[f a b]=AL f a (b+1):=by rw[yL,af4];simp[qU]
   rw[e2]at e;exact⟨KP,Ll,yE,by rw[<-e];exact hI⟩
  rintro ρ w ⟨A',c',hH,hI⟩;obtain⟨σ,rfl⟩:=hH.open;exact Wr<|Vx Z<|V0 Z<|Wn ⟨⟨b+1,AL f a<|b+1,A',c',aa,rfl,yE,hI⟩,by show n-((b+1:Nat):Int).toNat<n-(b:Int).toNat;omega⟩
 rintro ρ w ⟨vals,D,vE,hH,hI⟩;obtain⟨σ,rfl⟩:=hH.open;rw[j8,List.replicate_zero,iU]at hI;refine Wq<|Vf Z<|Vm Z<|Vh Z<|Wn<|WR<|nD 4 5 Z ⟨g,vals,D,Z,vE,?_⟩;have h2:=hI.u0 (e':=lz 0 155 1 (some ⟨g,0,none⟩) n n vals.toArray.toList) (mC.refl _ _) (lz.HZ hI.g0 (kz _) (by simp[vE]) aa)<|fun k hk=>.inl (by have:some g=some k:=hk;injection this with this;exact this.symm);exact h2
theorem aqP(n:Int)(fv:lH)(w0:lE)(hn:n<1\/7<n)(hfv:∃F cap,fv=.func (.func F) #[] cap):
  Cq 124 #[Y n,fv] w0 fun en w'=>(∃z,en=.returned (.tuple #[.slice none 0 0,.iface 36<|Y z]))/\Pure w0 w':=by
 have hI:=ly.start (fun _=>False) w0;obtain⟨F,cap,rfl⟩:=hfv;refine Vo func124 Z<|Wq<|Vm Z<|Vh Z<|Wn<|Ws<|Wx (fun ρ w=>ρ 14=.bool true/\Pure w0 w) ?_ ?_
 .by_cases h1:n<1
  .exact Wr<|V0 Z<|Vt Z<|V3 Z<|V2 Z<|V2 Z<|Vg Z<|Wn ⟨Z,hI.pu⟩
  have h2:7<n:=aa;exact Wr<|V0 Z<|Vq Z<|V3 Z<|V0 Z<|Ty Z<|Va Z<|Wn ⟨Z,hI.pu⟩
 rintro ρ w ⟨Jb,hp⟩;exact Wc true Jb<|Wq<|T9 Z pd Z<|Vm Z<|Vn Z<|Wn<|WR<|nD 4 5 Z ⟨⟨_,Z⟩,hp⟩
section
variable{P:lY}{ρ:lB}{w:lE}{o:Oper}{x:mN}{t t' e:lT}
theorem afF{p:Addr}(ho:o.op=.binOp .neq t x (.const (.slice none 0 0)) t')(ht:P.underlying t=some (.slice e))(hx:ev ρ x=.slice (some p) n c):lQ P ρ o w (.bool true):=by have h:=yh (P:=P) (w:=w) (t:=t) (x:=.slice (some p) n c) (y:=.slice none 0 0) (r:=false)<|fun d=>aC;simp[lQ,execOp,ho,hx,show ev ρ (.const<|.slice none 0 0)=.slice none 0 0 from rfl,eqGuard,binOp,h]
theorem afE(ho:o.op=.binOp .neq t x (.const (.slice none 0 0)) t')(ht:P.underlying t=some (.slice e))(hx:ev ρ x=.slice none n c):lQ P ρ o w (.bool false):=by have h:=yh (P:=P) (w:=w) (t:=t) (x:=.slice none n c) (y:=.slice none 0 0) (r:=true)<|fun d=>aC;simp[lQ,execOp,ho,hx,show ev ρ (.const<|.slice none 0 0)=.slice none 0 0 from rfl,eqGuard,binOp,h]
theorem atV{A:lO}(ho:o.op=.binOp .neq t x (.const (.slice none 0 0)) t')(ht:P.underlying t=some (.slice e))(hx:ev ρ x=.slice A n c):lQ P ρ o w (.bool A.isSome):=by
 cases A with
 |none=>exact afE ho ht hx|some p=>exact afF ho ht hx
end
set_option maxRecDepth 4000 in
theorem aeh(L:ny)(s:l8)(A:lO)(n c:Nat)(vals:mb)(D:lF)(bs:rD)(hn:n<=1000)(vE:vals.length=n)(S:lF)(w0:lE)(hI:ly S w0 w0 ([lz 0 155 1 A n c vals,oq vals D bs]++lR L s)):
  Cq 101 #[lJ L.sb 7,.slice A n c] w0 fun en w'=>en=.returned (.tuple #[])/\∃LA ln lc lv LD,ly S w0 w' ([lz 0 155 1 A n c vals,oq vals D bs]++lR {L with LA:=LA,ln:=ln,lc:=lc,cut:=A.isSome,lv:=lv,LD:=LD,lb:=bs} s):=by
 unfold lR at hI;replace hI:ly S w0 w0 [lz 0 155 1 A n c vals,oq vals D bs,B L.sb 135<|Iq L s,B L.nb 140<|nF (s.n*8)<|zK s,B L.cb 246<|nF s.k<|qC L s,np s.k<|sE L s,lz 0 218 9 L.MA s.lU.length L.mc<|s.lU.flatMap pb,lz 0 155 1 L.LA L.ln L.lc L.lv,oq L.lv L.LD L.lb,lz 0 66 7 L.EA s.evs.length L.ec<|s.evs.flatMap nu,lz 0 137 2 L.SA s.sts.length L.sc<|s.sts.flatMap qk]:=hI;refine Vo func101 Z<|Wq<|V8 Z<|V8 Z<|Vf Z<|Wv Z (atV Z rf Z)<|Ve Z<|Tl 1 Z<|sQ 2 Z (u:=.slice none 0 0) (j:=8) hI Z Z Z Z Z Z ai Z Z Z ?_;intro w hI;refine Ve Z<|Tl 2 Z<|sQ 2 Z (u:=.bool A.isSome) (j:=9) hI Z Z Z Z Z Z ai Z Z Z ?_;intro w hI;apply Wn;replace hI:=(((hI.erase 7).erase 7).fresh (Pure.refl _) (lz.nil _ 0 155 1)<|fun k hk=>aW).back 7;replace hI:=(hI.fresh (Pure.refl _) (oq.ok (w:=w) (vals:=[]) (D:=fun _=>False) (bs:=[]) (fun _ h=>h.elim) rfl<|fun i v b hv=>by simp at hv)<|fun k hk=>hk.elim).back 8;replace hI:ly S w0 w ([lz 0 155 1 A n c vals,oq vals D bs]++lR {L with LA:=none,ln:=0,lc:=0,cut:=A.isSome,lv:=[],LD:=fun _=>False,lb:=[]} s):=hI;refine Wq<|Vf Z<|Vp Z rf Z<|V0 Z<|Wn<|Wb ?_;refine zk (fun ρ w=>∃(i:Nat) (LA:lO) (lc:Nat) (lv:mb) (LD:lF),i<=n/\lv.length=i/\lA ρ [(16,lI i),(15,lI n),(14,.slice A n c),(0,lJ L.sb 7)]/\ly S w0 w ([lz 0 155 1 A n c vals,oq vals D bs]++lR {L with LA:=LA,ln:=i,lc:=lc,cut:=A.isSome,lv:=lv,LD:=LD,lb:=bs.take i} s)) (fun ρ _=>n-cnt (ρ 16))
  ⟨0,none,0,[],fun _=>False,aa,rfl,⟨rfl,rfl,rfl,rfl,trivial⟩,hI⟩ ?_
 rintro ρ w ⟨i,LA,lc,lv,LD,hi,Mq,hH,hI⟩;obtain⟨σ,rfl⟩:=hH.open;by_cases xk:i<n;rotate_left
 .refine Wq<|Vq Z<|Yg Z<|WE ?_;have BH:bs.length=n:=by rw[<-vE];exact(hI.ok _<|mZ (i:=1) rfl).1.2.1
  rw[fq aa]at hI;exact tj (.inl Z) Z ⟨Z,LA,i,lc,lv,LD,hI⟩
 obtain⟨v,hv⟩:∃v,vals[i]?=some v:=⟨_,nM aa⟩
 have hvm:=mZ hv;have Jw:Rd w (fun _=>True) 1 (.slice A n c) n vals:=Rd.wP (hI.ok _<|mZ (i:=0) rfl).1<|fun _ _ _=>trivial;obtain⟨A',c',hve,q1,q2,q3,q4⟩:=Jw;injection hve with e1 _ _;subst e1;obtain⟨g,o,rfl,_,hc⟩:=q4 aa;have FU:=hc i v hv;have hrs:=(hI.ok _<|mZ (i:=1) rfl).1;have BH:bs.length=n:=by rw[<-vE];exact hrs.2.1
 obtain⟨lb,ui⟩:∃lb,bs[i]?=some lb:=⟨_,nM aa⟩
 have⟨qV,azG⟩:=hrs.2.2 i _ lb hv ui;have⟨RA,rc,ado,_,_⟩:=Rd.form qV;obtain⟨m,hm⟩:∃m,lb.length=m:=⟨_,rfl⟩
 rw[hm]at ado;subst ado;refine Wq<|Vt Z<|Yu Z<|Wk<|Ws<|Wb<|Wq<|Uq Z rf Z<|V4 (.slice _ _ _) Z FU<|Vm Z<|Wn ?_;unfold lR at hI;have hI:=hI.pull 7 rfl;replace hI:ly S w0 w [lz 0 155 1 LA i lc lv,lz 0 155 1 (some ⟨g,o,none⟩) n c vals,oq vals D bs,B L.sb 135<|Iq {L with LA:=LA,ln:=i,lc:=lc,cut:=true,lv:=lv,LD:=LD,lb:=bs.take i} s,B L.nb 140<|nF (s.n*8)<|zK s,B L.cb 246<|nF s.k<|qC L s,np s.k<|sE L s,lz 0 218 9 L.MA s.lU.length L.mc<|s.lU.flatMap pb,oq lv LD<|bs.take i,lz 0 66 7 L.EA s.evs.length L.ec<|s.evs.flatMap nu,lz 0 137 2 L.SA s.sts.length L.sc<|s.sts.flatMap qk]:=hI;have h8:∀w H,ly S w0 w (oq vals D bs::B L.sb 135 (Iq {L with LA:=LA,ln:=i,lc:=lc,cut:=true,lv:=lv,LD:=LD,lb:=bs.take i} s)::H)->w.cell? ⟨L.sb,8,none⟩=some (.slice LA i lc):=fun w H hI=>hI.cell 1 rfl rfl;refine Wd ai<|Wi (T:=[11]) hI.d0.d0.drew ?_;intro Sx hY hZ;have hI:=hI.drew;refine Vj 0 Z<|Vj 1 Z<|Vk 2 Z<|Td 3 1 Z<|V9 4 (.slice _ _ _) Z (lL hY fun hI=>h8 _ _ hI)<|T8 5 Z<|Vr 6 Z<|V7 [.slice _ _ _] Z func129 Z ?_;have apt:=(hI.ok _<|mZ (i:=2) rfl).1;have⟨VT,sV⟩:=apt.2.2 i _ lb hv ui;have ve:m=lb.length:=by have⟨_,_,he,_⟩:=Rd.form VT;injection he
 refine(ajQ RA m rc lb (fun _=>True) _ (by rw[ve]at VT|-;exact Rd.mono VT fun _ _=>trivial) aa).mono ?_;rintro en w1 ⟨A2,c2,rfl,_,hJ⟩;apply rV;have hI:=hI.app1 hJ;refine Wn ⟨hZ _ hI.d0.d0.d0,(Vr 7 Z<|T7 [(0,.slice _ _ _)] [_] [.slice none 0 0] [0] hI Z rf (fun _=>ai) ?_)⟩;rintro b27 w- -hI;refine Wn ⟨hZ _ hI.d0.d0.d0.d0,(Vr 8 Z<|GU (z:=.slice none 0 0) (by_:=24) (aBp:=[.slice A2 m c2]) hI Z Z Z Z Z Z rf ai Z aa (by rfl) hI.qP Z aa aa (kz _) ?_)⟩;rintro Ix c28 w _ anK hI;refine Wn ⟨hZ _ hI.d0.d0.d0.d0,(Vk 9 (hS_:=hZ _ hI.d0.d0.d0.d0) Z<|Td 10 1 (hS_:=hZ _ hI.d0.d0.d0.d0) Z<|qn ai ?_)⟩;refine Tc 11 Z<|sQ 5 Z (u:=.slice Ix (i+1) c28) (j:=8) hI Z Z Z Z Z Z ai Z Z Z ?_;intro w hI;refine Wn<|qm ai<|Wr<|Vx Z<|V0 Z<|Wn ?_;have hI:=hI.d0;have hA:=(hI.pull 9 rfl).pQ;have hB:=((hA.Yy ve aa).back 8).back 7;have etk:bs.take i++[lb]=bs.take (i+1):=by rw[gZ,ui];rfl
 rw[etk]at hB;refine⟨⟨i+1,Ix,c28,lv++[Value.slice A2 m c2],(fun k=>A2.map (·.block)=some k\/LD k),aa,by simp[Mq],oy,hB⟩,by show n-((i+1:Nat):Int).toNat<n-(i:Int).toNat;omega⟩
def AX(gd:Prop)(n:Int)(f:Nat->Nat->Nat->Bool)(w0:lE)(v0 v1:lH)(w':lE):Prop:=
 (gd/\v1=.nilIface/\∃(g m:Nat) (vals:mb) (D:lF),n=(m:Int)/\v0=.slice (some ⟨g,0,none⟩) m m/\vals.length=m/\(1<=m/\m<=7)/\ly NF w0 w' [lz 0 155 1 (some ⟨g,0,none⟩) m m vals,oq vals D<|FH m<|f m])\/
 (¬gd/\v0=.slice none 0 0/\(∃z,v1=.iface 36 (.int .i64 z))/\Pure w0 w')
abbrev GK(n:Int):Prop:=1<=n/\n<=7
theorem Qp(F:Nat)(n:Int)(fn:Func)(cap:mb)(f:Nat->Nat->Nat->Bool)(w0:lE)(hf:prog.funcs[F]?=some fn)(qh:(fn.name== "runtime.NumGoroutine")=false)(Mm:fn.body.isNone=false)(hC:∀m:Nat,n=(m:Int)->m<=7->IA F cap (f m) w0):
  Cq 124 #[Y n,.func (.func F) #[] cap.toArray] w0 fun en w'=>∃v0 v1,en=.returned (.tuple #[v0,v1])/\AX (GK n) n f w0 v0 v1 w':=by
 by_cases hn:1<=n/\n<=7
 .obtain⟨m,rfl⟩:∃m:Nat,n=(m:Int):=⟨n.toNat,aa⟩
  refine(aqQ F m fn cap (f m) w0 hf qh Mm aa<|hC m Z aa).mono ?_;rintro en w' ⟨g,vals,D,rfl,hl,hI⟩;exact⟨_,_,Z,.inl ⟨hn,Z,g,m,vals,D,Z,Z,hl,aa,hI⟩⟩
 refine(aqP n _ w0 aa ⟨F,cap.toArray,Z⟩).mono ?_;rintro en w' ⟨⟨z,rfl⟩,hp⟩;exact⟨_,_,Z,.inr ⟨hn,Z,⟨z,Z⟩,hp⟩⟩
theorem AX.box{gd:Prop}{n:Int}{f:Nat->Nat->Nat->Bool}{w':lE}{v0 v1:lH}(hI:ly NF w0 w H)(h:AX gd n f w v0 v1 w'):AX gd n f w0 v0 v1 w':=by
 rcases h with⟨h0,h1,g,m,vals,D,hm,h2,h3,h4,h5⟩|⟨h0,h1,h2,h3⟩
 .refine .inl ⟨h0,h1,g,m,vals,D,hm,h2,h3,h4,?_⟩;have h6:=hI.Z5 h5;exact⟨h6.ni,fun e he=>h6.ok e (by rcases jM.1 he with rfl|he;simp;rw[gF.1 he];simp),fun e he=>h6.own e (by rcases jM.1 he with rfl|he;simp;rw[gF.1 he];simp),h5.apart⟩
 exact .inr ⟨h0,h1,h2,hI.pu.trans h3⟩
theorem anr(n:Int)(w0:lE):Cq 96 #[Y n] w0 fun en w'=>∃v0 v1,en=.returned (.tuple #[v0,v1])/\AX (GK n) n (Me) w0 v0 v1 w':=by have hI:=ly.start (fun _=>False) w0;refine Vo func96 Z<|Wq<|Tg (Y _) #[_] hI Z ?_;rintro b1 w- -hI;refine Vm Z<|Vh Z<|Wn<|Wq<|Yc hI Z Z<|Wv Z (NA (l:=[]) (m:=[_]) Z Z Z)<|V7 [Y _,.func _ _ _] Z func124 Z<|(Qp 125 n _ [lJ b1 0] Me _ func125 Z Z<|fun m hm h7=>anq b1 m _ h7<|by subst hm;exact hI.c0 rfl).mono ?_;rintro en w1 ⟨v0,v1,rfl,hL⟩;apply rV;replace hL:=hL.box hI;exact Vi Z<|Vi Z<|Tt Z<|Tt Z<|Wn<|WR<|nD 2 3 Z ⟨v0,v1,Z,hL⟩
theorem ajx(n:Int)(w0:lE):Cq 97 #[Y n] w0 fun en w'=>∃v0 v1,en=.returned (.tuple #[v0,v1])/\AX (GK n) n (Li) w0 v0 v1 w':=by have hI:=ly.start (fun _=>False) w0;refine Vo func97 Z<|Wq<|Tg (Y _) #[_] hI Z ?_;rintro b1 w- -hI;refine Vm Z<|Vh Z<|Wn<|Wq<|Yc hI Z Z<|Wv Z (NA (l:=[]) (m:=[_]) Z Z Z)<|V7 [Y _,.func _ _ _] Z func124 Z<|(Qp 126 n _ [lJ b1 0] Li _ func126 Z Z<|fun m hm h7=>ajw b1 m _ h7<|by subst hm;exact hI.c0 rfl).mono ?_;rintro en w1 ⟨v0,v1,rfl,hL⟩;apply rV;replace hL:=hL.box hI;exact Vi Z<|Vi Z<|Tt Z<|Tt Z<|Wn<|WR<|nD 2 3 Z ⟨v0,v1,Z,hL⟩
theorem aus(n:Int)(w0:lE):Cq 98 #[Y n] w0 fun en w'=>∃v0 v1,en=.returned (.tuple #[v0,v1])/\AX (GK n) n (ND) w0 v0 v1 w':=by have hI:=ly.start (fun _=>False) w0;refine Vo func98 Z<|Wq<|Tg (Y _) #[_] hI Z ?_;rintro b1 w- -hI;refine Vm Z<|Vh Z<|Wn<|Wq<|Yc hI Z Z<|Wv Z (NA (l:=[]) (m:=[_]) Z Z Z)<|V7 [Y _,.func _ _ _] Z func124 Z<|(Qp 127 n _ [lJ b1 0] ND _ func127 Z Z<|fun m hm h7=>aur b1 m _ h7<|by subst hm;exact hI.c0 rfl).mono ?_;rintro en w1 ⟨v0,v1,rfl,hL⟩;apply rV;replace hL:=hL.box hI;exact Vi Z<|Vi Z<|Tt Z<|Tt Z<|Wn<|WR<|nD 2 3 Z ⟨v0,v1,Z,hL⟩
theorem AX.pure{gd:Prop}{n:Int}{f:Nat->Nat->Nat->Bool}{w':lE}{v0 v1:lH}(h:AX gd n f w0 v0 v1 w'):Pure w0 w':=by
 rcases h with⟨_,_,g,m,vals,D,_,_,_,_,h5⟩|⟨_,_,_,h3⟩
 .exact h5.pu
 exact h3
theorem aiV(n wT:Int)(w0:lE):Cq 99 #[Y n,Y wT] w0 fun en w'=>∃v0 v1,en=.returned (.tuple #[v0,v1])/\AX (GK n/\0<=wT/\wT<n) n (fun _=>Lh wT) w0 v0 v1 w':=by
 have hI:=ly.start (fun _=>False) w0;apply Vo func99 Z;refine Wq<|Tg (Y _) #[_] hI Z ?_;rintro b3 w- -hI;refine Vm Z<|Vh Z<|Wn<|Wq<|V0 Z ?_;refine Wv Z (NA (l:=[]) (m:=[_]) Z Z Z) ?_;refine V7 [Y _,.func _ _ _] Z func124 Z ?_;refine(Qp 128 n _ [lJ b3 0] (fun _=>Lh wT) _ func128 Z Z<|fun m hm h7=>aiU b3 wT _<|hI.c0 Z).mono ?_;rintro en w1 ⟨v0,v1,rfl,hL⟩;apply rV;have hLb:=hL.box hI;have hI:=hI.pure hL.pure;have mL:(v1=.nilIface/\GK n/\∃(g m:Nat),v0=me g 0 m m)\/((∃z,v1=.iface 36 (Y z))/\¬GK n/\v0=.slice none 0 0):=by
  rcases hL with⟨h0,h1,g,m,vals,D,_,h2,_⟩|⟨h0,h1,⟨z,h2⟩,_⟩
  .exact .inl ⟨h1,h0,g,m,h2⟩
  exact .inr ⟨⟨z,h2⟩,h0,h1⟩
 refine Vy Z<|Vi Z<|Vi Z<|Tt Z<|Tt Z<|Wn ?_;rcases mL with⟨rfl,Aq,g,m,rfl⟩|⟨⟨z,rfl⟩,Aq,rfl⟩
 rotate_left
 .refine Ws<|Wq<|Vs Z ?_;apply Wv Z (by exact Q6 rfl mY rfl rfl);refine V3 Z<|V2 Z<|V2 Z<|V2 Z<|V2 Z<|V2 Z<|V2 Z<|V2 Z<|Va Z<|Wn<|Wc false Z<|Wk<|Ws<|Wr ?_;refine Vf Z<|Vs Z<|Vm Z<|Vn Z<|Wn ?_;exact WR<|nD 4 5 Z ⟨_,_,Z,.inr ⟨fun h=>Aq h.1,Z,⟨_,Z⟩,hI.pu⟩⟩
 by_cases hw:wT<0\/n<=wT
 .apply Ws;refine Wx (fun ρ w=>ρ 24=.bool true/\Pure w0 w) ?_ ?_
  .by_cases h1:wT<0
   .refine Wr<|Tb Z ?_;apply Wv Z aS;refine V3 Z<|Yc hI Z Z<|Vt Z<|V3 Z<|V2 Z<|V2 Z<|V2 Z<|Vg Z<|Vg Z<|Wn ?_;exact⟨Z,hI.pu⟩
   have h2:n<=wT:=aa;refine Wr<|Tb Z ?_;apply Wv Z aS;refine V3 Z<|Yc hI Z Z<|Vq Z<|V3 Z<|Yc hI Z Z<|V0 Z<|Tw Z<|Va Z<|Vg Z<|Wn ?_;exact⟨Z,hI.pu⟩
  rintro ρ w ⟨h24,hp⟩;refine Wc true h24<|Wq<|T9 Z pd Z<|Vm Z<|Vn Z<|Wn ?_;exact WR<|nD 4 5 Z ⟨_,_,Z,.inr ⟨fun h=>aa,rfl,⟨_,rfl⟩,hp⟩⟩
 refine Ws<|Wq<|Tb Z ?_;apply Wv Z aS;refine V3 Z<|Yc hI Z Z<|Vq Z<|V3 Z<|Yc hI Z Z<|V0 Z<|Ua Z<|Va Z<|Vg Z<|Wn<|Wc false Z<|Wk<|Ws<|Wr ?_;refine Vf Z<|Tb Z<|Vm Z<|Vh Z<|Wn ?_;exact WR<|nD 4 5 Z ⟨_,_,Z,.inl ⟨⟨Aq,aa⟩,hLb.resolve_right (fun h=>h.1 Aq) |>.2⟩⟩
def z7(vals:mb)(D:lF)(bs:rD)(v:lH)(lb:List Bool):lN:=⟨D,fun w=>(oq vals D bs).Φ w/\KW w D v lb⟩
theorem z7.ok{bs:rD}{lb:List Bool}(h:(oq vals D bs).ok w)(hb:KW w D v lb):(z7 vals D bs v lb).ok w:=lN.C8 ⟨h.1,hb⟩ (fun k hk=>h.2.1 k hk) (fun S w1 w2 hc hS h1=>⟨h.2.2 S w1 w2 hc hS h1.1,Rd.ni h1.2 hc<|fun k hk=>hS k hk⟩)
theorem z7.to{bs:rD}(h:ly S w0 w (oq vals D bs::H))(hv:vals[j]?=some v):(bs.getD j []).length<=1000/\ly S w0 w (z7 vals D bs v (bs.getD j [])::H):=by
 have hk:=h.ok _<|mZ (i:=0) rfl;have lX:=(oS hv).1;have hbj:bs[j]?=some (bs.getD j []):=by
  rw[eu,nM (by have:=hk.1.2.1;omega)]
  rfl
 have⟨hb,hl⟩:=hk.1.2.2 j v _ hv hbj;exact⟨hl,h.u0 (mC.refl _ _) (z7.ok hk hb)<|fun k hk=>.inl hk⟩
theorem z7.from{bs:rD}{lb:List Bool}(h:ly S w0 w (z7 vals D bs v lb::H)):ly S w0 w (oq vals D bs::H):=by have hk:=(h.ok _<|mZ (i:=0) rfl).1.1;exact h.u0 (mC.refl _ _) (oq.ok hk.1 hk.2.1 hk.2.2)<|fun k hk=>.inl hk
theorem aeo(i n b sb:Nat)(w0:lE)(hb:w0.cell? ⟨b,0,none⟩=some (lJ sb 0))(hn:w0.cell? ⟨sb,0,none⟩=some (lI n))(hi:i<1000)(rn:1<=n/\n<=7):
  Cq 102 #[lI i,lJ b 0] w0 fun en w'=>en=.returned (Y (zO n i:Int))/\zO n i<n/\Pure w0 w':=by
 have hI:=ly.start (fun _=>False) w0;refine Vo func102 Z<|Wq<|Vb Z<|Wn ?_;by_cases h:i<n
 .refine Ws<|Wq<|V0 Z<|V4 (.pointer _) Z (hI.my hb)<|Ve Z<|V6 0 Z<|V6 0 Z<|V4 (Y _) Z (hI.my hn)<|Vt Z<|Yt Z<|Ws<|Wr<|V0 Z<|Vb Z<|Wn<|WR ?_;have e:zO n i=i:=lq h;rw[e];exact lV 3 Z ⟨Z,h,hI.pu⟩
 refine Ws<|Wq<|V0 Z<|V4 (.pointer _) Z (hI.my hb)<|Ve Z<|V6 0 Z<|V6 0 Z<|V4 (Y _) Z (hI.my hn)<|Vq Z<|Yf Z<|Wk<|Ws<|Yi hI fun Sx hY hZ hI=>?_;refine Vw 0 Z<|V9 1 (.pointer _) Z (Yo hY hb)<|Vk 2 Z<|Vd 3 0 Z<|Vd 4 0 Z<|V9 5 (Y _) Z (Yo hY hn)<|Wt 6 Z (lL hY fun hI=>(atZ Z Z Z aa aa))<|V9 7 (.pointer _) Z (Yo hY hb)<|Vk 8 Z<|Vd 9 0 Z<|Vd 10 0 Z<|V9 11 (Y _) Z (Yo hY hn)<|Wt 12 Z (lL hY fun hI=>(atN Z Z Z aa aa))<|Um 13 Z<|Yz<|WR ?_;have e:zO n i=(i-n)%n:=lp h;rw[e];exact lV 3 Z ⟨Z,kL _ aa,hI.pu⟩
theorem ly.auz(h:ly S w0 w H):ly S w0 w (lz 0 155 1 none 0 0 []::oq [] (fun _=>False) []::H):=(h.fresh (Pure.refl w) (oq.ok (w:=w) (vals:=[]) (D:=fun _=>False) (bs:=[]) (fun _ h=>h.elim) rfl<|fun i v b hv=>by simp at hv)<|fun k hk=>hk.elim).fresh (Pure.refl w) (lz.nil w 0 155 1) (fun k hk=>aW)
def Zw(L:ny)(s:l8)(ct:Bool)(lb:rD)(S:lF)(w0:lE)(en:Ending)(w':lE):Prop:=(∃v,en=.returned v)/\∃L',L'.sb=L.sb/\L'.cw=L.cw/\ly S w0 w' (lR L' s)/\L'.cut=ct/\L'.lb=lb
theorem aaR(L:ny)(s:l8)(S:lF)(w0:lE)(hI:ly S w0 w0 (lR L s)):
  Cq 63 #[lJ L.sb 0,.slice none 0 0] w0 fun en w'=>(∃v,en=.returned v)/\∃L',L'.sb=L.sb/\L'.cw=L.cw/\L'.cut=false/\L'.lb=[]/\ly S w0 w' (lR L' s):=by
 refine Vo func63 Z<|Wq<|Tg (.pointer _) #[_] hI Z ?_;rintro b2 w- -hI;refine Vh Z<|Wn<|Ws<|Wq<|V4 (.pointer _) Z (hI.c0 Z)<|Wv Z (Dg Z Du Z Z)<|V3 Z<|Vf Z<|Wv Z (afE Z rf Z)<|V3 Z<|V2 Z<|V2 Z<|V2 Z<|V2 Z<|V2 Z<|V2 Z<|V2 Z<|V2 Z<|Va Z<|Va Z<|Yf Z<|Wk<|Ws<|Wq<|Vf Z<|Wv Z (Yn Z rf Z)<|Yt Z ?_;have hI:=hI.auz.pull 2 rfl;refine Wq<|V4 (.pointer _) Z (hI.c0 Z)<|Ve Z<|V6 7 Z<|V7 [.pointer _,.slice _ _ _] Z func101 Z<|(aeh L s none 0 0 [] (fun _=>False) [] aa Z (p9 _) _<|hI.n9 (X:=[_])).mono ?_;rintro en w1 ⟨rfl,LA,ln,lc,lv,LD,hJ⟩;apply rV;have hI:=hI.qB (X:=[_]) hJ;exact Wn<|Wq<|Vh Z<|Wn<|WR<|lV 4 Z ⟨⟨_,Z⟩,{L with LA:=LA,ln:=ln,lc:=lc,cut:=false,lv:=lv,LD:=LD,lb:=[]},Z,Z,Z,Z,hI.d0.d0.d0⟩
theorem aku(L:ny)(s:l8)(S:lF)(w0:lE)(hI:ly S w0 w0 (lR L s)):
  Cq 63 #[lJ L.sb 0,.slice none 0 0] w0 (Zw L s false [] S w0):=
 (aaR L s S w0 hI).mono fun en w' ⟨hv,L',h1,h2,h4,h5,h3⟩=>⟨hv,L',h1,h2,h3,h4,h5⟩
def CC(n:Nat)(row:List Bool)(b:Nat):List Bool:=(List.range b).map fun b=>row.getD (zO n b) false
def zp(n N:Nat)(bs:rD)(a:Nat):List (List Bool):=(List.range a).map fun a=>CC n (bs.getD (zO n a) []) N
theorem akn(n:Nat)(row:List Bool)(b:Nat):(CC n row b).length=b:=by simp[CC]
theorem aaM(n:Nat)(row:List Bool)(b:Nat):CC n row (b+1)=CC n row b++[row.getD (zO n b) false]:=by simp[CC,jf]
theorem akx(n N:Nat)(bs:rD)(a:Nat):zp n N bs (a+1)=zp n N bs a++[CC n (bs.getD (zO n a) []) N]:=by simp[zp,jf]
theorem akw(L:ny)(s:l8)(M g:Nat)(vals:mb)(D:lF)(bs:rD)(h:nw L s M)(vE:vals.length=s.n)(S:lF)(w0:lE)(hI:ly S w0 w0 ([lz 0 155 1 (some ⟨g,0,none⟩) s.n s.n vals,oq vals D bs]++lR L s)):
  Cq 63 #[lJ L.sb 0,me g 0 s.n s.n] w0 (Zw L s true (Fz s.n s.k bs) S w0):=by
 have hn:=h.n1;have hk:=h.k1;refine Vo func63 Z<|Wq<|Tg (.pointer _) #[_] hI Z ?_;rintro b2 w- -hI;refine Vh Z<|Wn ?_;replace hI:ly S w0 w ([B b2 69 #[lJ L.sb 0],lz 0 155 1 (some ⟨g,0,none⟩) s.n s.n vals,oq vals D bs]++lR L s):=hI;have xU:∀w X,ly S w0 w (X++lR L s)->w.cell? ⟨L.sb,0,none⟩=some (lI s.n):=fun w X hI=>YK hI;have oT:∀w X,ly S w0 w (X++lR L s)->w.cell? ⟨L.sb,1,none⟩=some (lI s.k):=fun w X hI=>hI.n9.cell 0 rfl rfl;have xX:∀w,ly S w0 w ([B b2 69 #[lJ L.sb 0],lz 0 155 1 (some ⟨g,0,none⟩) s.n s.n vals,oq vals D bs]++lR L s)->w.cell? ⟨L.sb,0,none⟩=some (lI s.n)/\w.cell? ⟨L.sb,1,none⟩=some (lI s.k):=fun w hI=>⟨xU w _ hI,oT w _ hI⟩
 refine Ws<|Wq<|V4 (.pointer _) Z (hI.c0 Z)<|Wv Z (Dg Z Du Z Z)<|V3 Z<|Vf Z<|Wv Z (afF Z rf Z)<|V3 Z<|Vf Z<|Vp Z rf Z<|V4 (.pointer _) Z (hI.c0 Z)<|Ve Z<|V6 0 Z<|V6 0 Z<|V4 (Y _) Z ((xX _ hI).1)<|U3 Z<|Vg Z<|Va Z<|Yf Z<|Wk<|Ws<|Wq<|Vf Z<|Wv Z (Ym Z rf Z)<|Yf Z<|Wk<|Ws<|Wr<|Wv Z (NA (l:=[]) (m:=[_]) Z Z Z)<|Wv Z (by exact atp rfl rfl)<|Wn ?_;obtain⟨N,hN⟩:∃N,s.n+s.k=N:=⟨_,rfl⟩
 refine Ws<|Yi hI fun Sx hY hZ hI=>?_;refine V9 0 (.pointer _) Z (lL hY fun h=>h.c0 Z)<|Vk 1 Z<|Vd 2 0 Z<|Vd 3 0 Z<|V9 4 (lI s.n) Z (lL hY fun hI=>(xX _ hI).1)<|V9 5 (.pointer _) Z (lL hY fun h=>h.c0 Z)<|Vk 6 Z<|Vd 7 0 Z<|Vd 8 1 Z<|V9 9 (lI s.k) Z (lL hY fun hI=>(xX _ hI).2)<|Wt 10 Z (lL hY fun hI=>((hN▸XX Z Z Z aa:lQ _ _ _ _ (lI N))))<|Vr 11 Z<|IP (n:=N) (m:=1) (by_:=24) (z:=.slice none 0 0) [.slice none 0 0] hI Z Z Z Z Z Z rf ai Z Z aa aa aa ?_;rintro xJ w- -hI;refine Wn ⟨hZ _ hI.d0,(Wt 12 Z (lL hY fun hI=>(by exact Gm rfl rfl))<|Yz ?_)⟩;have mo:nF N (fun _=>[Value.slice none 0 0])=(([]:mb)++List.replicate (N-0) (Value.slice none 0 0)).toArray:=abx N _;rw[mo]at hI;replace hI:=(hI.fresh (Pure.refl _) (oq.ok (w:=w) (vals:=[]) (D:=fun _=>False) (bs:=[]) (fun _ h=>h.elim) rfl<|fun i v b hv=>by simp at hv)<|fun k hk=>hk.elim).pQ;have Ah:∀w X Y,ly S w0 w (X++(B b2 69 #[lJ L.sb 0]::Y))->w.cell? ⟨b2,0,none⟩=some (lJ L.sb 0):=fun w X Y hI=>hI.n9.cell 0 rfl rfl;refine Wx (fun ρ w=>∃(done:mb) (E:lF),done.length=N/\lA ρ [(6,me xJ 0 N N),(2,lJ b2 0)]/\ly S w0 w ([B xJ 155 (done++List.replicate (N-N) (Value.slice none 0 0)).toArray,oq done E<|zp s.n N bs N,B b2 69 #[lJ L.sb 0],lz 0 155 1 (some ⟨g,0,none⟩) s.n s.n vals,oq vals D bs]++lR L s)) ?_ ?_
 .refine Wq<|Vf Z<|Vp Z rf Z<|V0 Z<|Wn<|Wb ?_
  refine zk (fun ρ w=>∃(a:Nat) (done:mb) (E:lF),a<=N/\done.length=a/\lA ρ [(49,lI a),(48,lI N),(1,me g 0 s.n s.n),(5,.func (.func 102) #[] #[lJ b2 0]),(6,me xJ 0 N N),(2,lJ b2 0)]/\
   ly S w0 w ([B xJ 155 (done++List.replicate (N-a) (Value.slice none 0 0)).toArray,oq done E (zp s.n N bs a),B b2 69 #[lJ L.sb 0],lz 0 155 1 (some ⟨g,0,none⟩) s.n s.n vals,oq vals D bs]++lR L s)) (fun ρ _=>N-cnt (ρ 49))
   ⟨0,[],fun _=>False,aa,rfl,⟨rfl,rfl,rfl,rfl,rfl,rfl,trivial⟩,hI⟩ ?_
  rintro ρ w ⟨a,done,E,ha,oD,hH,hI⟩;obtain⟨σ,rfl⟩:=hH.open;by_cases haN:a<N;rotate_left
  .obtain rfl:a=N:=aa;exact Wq<|Vq Z<|Yg Z<|WE ⟨done,E,oD,yD,hI⟩
  refine Wq<|Vt Z<|Yu Z<|Wk<|Ws<|Wb<|Wq<|V0 Z<|Vb Z<|Wn<|Wq<|Vf Z<|Wv Z (by exact Rb rfl rfl)<|V0 Z<|z8 Z Z Z (Nz (first:=[]) (cap:=[_]) (vs:=[_,_]) Z Z func102 Z Z Z)<|(aeo a s.n b2 L.sb _ (Ah _ [_,_] _ hI) (xU _ [_,_,_,_,_] hI) aa hn).mono ?_;rintro en w1 ⟨rfl,hj,hp⟩;obtain⟨j,FX⟩:∃j,zO s.n a=j:=⟨_,rfl⟩
  rw[FX]at hj|-;apply rV;have hI:=hI.pure hp;obtain⟨v,hv⟩:∃v,vals[j]?=some v:=⟨_,nM aa⟩
  have hvm:=mZ hv;obtain⟨RA,mm,rc,rfl⟩:∃RA mm rc,v=.slice RA mm rc:=by have Ay:=(hI.ok _<|mZ (i:=4) rfl).1;have⟨qV,_⟩:=Ay.2.2 j v _ hv<|nM (by have:=Ay.2.1;omega);have⟨RA,rc,he,_⟩:=Rd.form qV;exact⟨RA,_,rc,he⟩
  have hz:w1.cell? ⟨g,j,none⟩=some (.slice RA mm rc):=by
   have⟨A',c',he,_,_,_,q⟩:=Rd.wP (D:=fun _=>True) (hI.ok _<|mZ (i:=3) rfl).1<|fun _ _ _=>trivial;injection he with he _ _;subst he;have⟨g',o',Hq,_,hc⟩:=q aa;injection Hq with Hq;injection Hq with e1 e2;subst e1 e2;have:=hc j _ hv
   rwa [kg]at this
  refine Tx Z rf Z<|V4 (.slice _ _ _) Z hz<|Vm Z<|Wn ?_;have⟨qV,hI⟩:=z7.to (hI.pull 4 rfl) hv;obtain⟨lb,acQ⟩:∃lb,bs.getD j []=lb:=⟨_,rfl⟩
  rw[acQ]at qV hI;have x6:mm=lb.length:=by have⟨_,_,he,_⟩:=Rd.form (hI.ok _<|mZ (i:=0) rfl).1.2;injection he
  have hI:=hI.back 4;rw[afS haN]at hI;have hI:=hI.fresh (Pure.refl _) (lz.nil _ 0 4 1)<|fun k hk=>aW;refine Wq<|Vf Z<|Vp Z rf Z<|V0 Z<|Wn<|Wb ?_
  refine zk (fun ρ w=>∃(b:Nat) (l:List Bool) (A:lO) (c:Nat),b<=N/\l=CC s.n lb b/\lA ρ [(60,lI b),(59,lI N),(8,.slice RA mm rc),(7,lI a),(49,lI a),(48,lI N),(1,me g 0 s.n s.n),(5,.func (.func 102) #[] #[lJ b2 0]),(6,me xJ 0 N N),(2,lJ b2 0)]/\
   ly S w0 w ([lz 0 4 1 A b c (qa l),B xJ 155 (done++Value.slice A b c::List.replicate (N-(a+1)) (Value.slice none 0 0)).toArray,oq done E (zp s.n N bs a),B b2 69 #[lJ L.sb 0],lz 0 155 1 (some ⟨g,0,none⟩) s.n s.n vals,z7 vals D bs (.slice RA mm rc) lb]++lR L s)) (fun ρ _=>N-cnt (ρ 60))
   ⟨0,[],none,0,aa,rfl,⟨rfl,rfl,rfl,rfl,rfl,rfl,rfl,rfl,rfl,rfl,trivial⟩,hI⟩ ?_
  rintro ρ w ⟨b,l,A,c,hb,yL,hH,hI⟩;have VV:l.length=b:=by rw[yL];exact akn s.n lb b
  obtain⟨σ,rfl⟩:=hH.open;by_cases xg:b<N;rotate_left
  .obtain rfl:b=N:=aa;refine Wq<|Vq Z<|Yg Z<|WE<|Wr<|Vx Z<|V0 Z<|Wn ?_;have h1:=(z7.from (hI.pull 5 rfl)).back 5;have h2:=(ly.vR h1).Yy VV.symm aa;have h3:=h2.pQ;have ec:zp s.n b bs a++[l]=zp s.n b bs (a+1):=by rw[akx,yL,FX,acQ]
   rw[ec]at h3;have e1:(done++Value.slice A b c::List.replicate (b-(a+1)) (.slice none 0 0))=(done++[.slice A b c])++List.replicate (b-(a+1)) (.slice none 0 0):=aq;rw[e1]at h3;refine⟨⟨a+1,done++[Value.slice A b c],(fun k=>A.map (·.block)=some k\/E k),aa,by simp[oD],xe,h3⟩,by show b-((a+1:Nat):Int).toNat<b-(a:Int).toNat;omega⟩
  refine Wq<|Vt Z<|Yu Z<|Wk ?_
  refine Wx (fun ρ w=>∃(A':lO) (c':Nat),lA ρ [(60,lI b),(59,lI N),(8,.slice RA mm rc),(7,lI a),(49,lI a),(48,lI N),(1,me g 0 s.n s.n),(5,.func (.func 102) #[] #[lJ b2 0]),(6,me xJ 0 N N),(2,lJ b2 0)]/\
   ly S w0 w ([lz 0 4 1 A' (b+1) c' (qa (CC s.n lb (b+1))),B xJ 155 (done++Value.slice A' (b+1) c'::List.replicate (N-(a+1)) (Value.slice none 0 0)).toArray,oq done E (zp s.n N bs a),B b2 69 #[lJ L.sb 0],lz 0 155 1 (some ⟨g,0,none⟩) s.n s.n vals,z7 vals D bs (.slice RA mm rc) lb]++lR L s)) ?_ ?_
  .refine Wb<|Wq<|V0 Z<|Vb Z<|Wn<|Ws<|Wr<|Wv Z (by exact Rb rfl rfl)<|V0 Z<|z8 Z Z Z (Nz (first:=[]) (cap:=[_]) (vs:=[_,_]) Z Z func102 Z Z Z)<|(aeo b s.n b2 L.sb _ (Ah _ [_,_,_] _ hI) (xU _ [_,_,_,_,_,_] hI) aa hn).mono ?_;rintro en w1 ⟨rfl,hq,hp⟩;obtain⟨q,P2⟩:∃q,zO s.n b=q:=⟨_,rfl⟩
   rw[P2]at hq|-;apply rV;have hI:=hI.pure hp;refine Vb Z<|Wn ?_;have Hr:∀w Y,ly S w0 w (B xJ 155 (done++Value.slice A b c::List.replicate (N-(a+1)) (Value.slice none 0 0)).toArray::Y)->w.cell? ⟨xJ,a,none⟩=some (.slice A b c):=fun w Y hI=>hI.cell 0 rfl<|ad9 oD;have Mg:∀r:Bool,qa l++[.bool r]=qa (l++[r]):=fun r=>by simp[qa]
   by_cases Ju:q<mm
   .have hrv:=(hI.ok _<|mZ (i:=5) rfl).1.2;obtain⟨A2,c2,he,_,_,_,q4⟩:=hrv;injection he with he _ _;subst he;obtain⟨rb,ro,rfl,_,_⟩:=q4 aa;have zA:∀w,ly S w0 w ([B xJ 155 (done++Value.slice A b c::List.replicate (N-(a+1)) (Value.slice none 0 0)).toArray,oq done E<|zp s.n N bs a,B b2 69 #[lJ L.sb 0],lz 0 155 1 (some ⟨g,0,none⟩) s.n s.n vals,z7 vals D bs (me rb ro mm rc) lb]++lR L s)->w.cell? ⟨rb,ro+q,none⟩=some (.bool<|lb.getD q false):=fun w hI=>by
     have⟨A3,c3,he,_,_,_,q5⟩:=(hI.ok _<|mZ (i:=4) rfl).1.2;injection he with he _ _;subst he;have⟨rb',ro',Hq,_,hc⟩:=q5 aa;injection Hq with Hq;injection Hq with e1 e2;subst e1 e2;refine hc q _ ?_;rw[gW,nM aa];simp[List.getD,show q<lb.length by omega]
    refine Wd ai<|Wi (T:=[19]) hI.d0.drew ?_;intro Sx hY hZ;have hI:=hI.drew;refine T8 0 Z<|Vw 1 Z<|T8 2 Z<|Vw 3 Z<|Uc 4 Z rf Z<|V9 5 (.slice _ _ _) Z (lL hY fun hI=>Hr _ _ hI)<|Vw 6 Z<|T8 7 Z<|Uj 8 Z oZ Z<|Wt 9 Z (lL hY fun hI=>(by exact Ra rfl rfl rfl aa))<|Te 10 Z<|T8 11 Z<|Vw 12 Z<|Wt 13 Z (lL hY fun hI=>(by exact zN rfl oZ ai rfl rfl aa))<|V9 14 (.bool _) Z (lL hY fun hI=>zA _ hI)<|U6 15 Z<|Vr 16 Z<|T7 [(0,.bool _)] [_] [.bool false] [0] hI Z oZ (fun _=>ai) ?_;rintro b82 w- -hI;refine Wn ⟨hZ _ hI.d0.d0,(Vr 17 Z<|Tz 1 (.bool false) hI Z oZ Z (by rfl) hI.qP (by rfl) (kz _) ?_)⟩;rintro KT Ln w amJ anN hI;have hI:=hI.d0;refine Wn ⟨hZ _ hI.d0,(Uc 18 Z rf Z<|qn ai ?_)⟩;refine Tc 19 Z<|Fv (u:=.slice KT (b+1) Ln) (j:=a) hI Z Z Z Z Z Z ai Z (Qz oD) (QA oD) ?_;intro w hI;refine Wn<|qm ai ?_;have e:=Mg<|lb.getD q false;rw[yL,<-P2,<-aaM,P2]at e;exact⟨KT,Ln,Ha,by rw[<-e,<-yL];exact hI⟩
   refine Wd ai<|Wi (T:=[19]) hI.d0.drew ?_;intro Sx hY hZ;have hI:=hI.drew;refine T8 0 Z<|Vw 1 Z<|T8 2 Z<|Vw 3 Z<|Uc 4 Z rf Z<|V9 5 (.slice _ _ _) Z (lL hY fun hI=>Hr _ _ hI)<|Vw 6 Z<|T8 7 Z<|Uj 8 Z oZ Z<|Wt 9 Z (lL hY fun hI=>(by exact Q9 rfl rfl rfl aa))<|Te 10 Z<|Vl 11 Z Z<|Vl 12 Z Z<|Vl 13 Z Z<|Vl 14 Z Z<|Ts 15 Z<|Vr 16 Z<|T7 [(0,.bool _)] [_] [.bool false] [0] hI Z oZ (fun _=>ai) ?_;rintro b82 w- -hI;refine Wn ⟨hZ _ hI.d0.d0,(Vr 17 Z<|Tz 1 (.bool false) hI Z oZ Z (by rfl) hI.qP (by rfl) (kz _) ?_)⟩;rintro KT Ln w amJ anN hI;have hI:=hI.d0;refine Wn ⟨hZ _ hI.d0,(Uc 18 Z rf Z<|qn ai ?_)⟩;refine Tc 19 Z<|Fv (u:=.slice KT (b+1) Ln) (j:=a) hI Z Z Z Z Z Z ai Z (Qz oD) (QA oD) ?_;intro w hI;refine Wn<|qm ai ?_;have e:=Mg false;have e0:lb.getD (zO s.n b) false=false:=by rw[P2,eu,fF aa];rfl
   rw[yL,<-e0,<-aaM]at e;exact⟨KT,Ln,Ha,by rw[<-e,<-yL,e0];exact hI⟩
  rintro ρ w ⟨A',c',hH,hI⟩;obtain⟨σ,rfl⟩:=hH.open;exact Wr<|Vx Z<|V0 Z<|Wn ⟨⟨b+1,CC s.n lb<|b+1,A',c',aa,rfl,Ha,hI⟩,by show N-((b+1:Nat):Int).toNat<N-(b:Int).toNat;omega⟩
 rintro ρ w ⟨done,E,oD,hH,hI⟩;obtain⟨σ,rfl⟩:=hH.open;rw[j8,List.replicate_zero,iU]at hI;have hI:=hI.u0 (e':=lz 0 155 1 (some ⟨xJ,0,none⟩) N N done.toArray.toList) (mC.refl _ _) (lz.HZ hI.g0 (kz _) (by simp[oD]) aa)<|fun k hk=>.inl (by have:some xJ=some k:=hk;injection this with this;exact this.symm);replace hI:=((hI.pull 4 rfl).pull 4 rfl).pull 4 rfl;replace hI:ly S w0 w ([B b2 69 #[lJ L.sb 0],lz 0 155 1 (some ⟨g,0,none⟩) s.n s.n vals,oq vals D bs]++([lz 0 155 1 (some ⟨xJ,0,none⟩) N N done,oq done E<|zp s.n N bs N]++lR L s)):=hI;refine Wq<|V4 (.pointer _) Z (hI.c0 Z)<|Ve Z<|V6 7 Z<|Vf Z<|V7 [.pointer _,.slice _ _ _] Z func101 Z<|(aeh L s (some ⟨xJ,0,none⟩) N N done E (zp s.n N bs N) aa oD (p9 _) _<|hI.n9 (X:=[_,_,_])).mono ?_;rintro en w1 ⟨rfl,LA,ln,lc,lv,LD,hJ⟩;apply rV;have hI:=hI.qB (X:=[_,_,_]) hJ;exact Wn<|Wq<|Vh Z<|Wn<|WR<|lV 4 Z ⟨⟨_,Z⟩,{L with LA:=LA,ln:=ln,lc:=lc,cut:=true,lv:=lv,LD:=LD,lb:=zp s.n N bs N},Z,Z,hI.d0.d0.d0.d0.d0,Z,by rw[<-hN];rfl⟩
end
section
open Tryz
variable{H:List lN}{vals:mb}{a c j n:Nat}{D S:lF}{v:lH}{w w0:lE}
inductive II:l8->l8->Prop
 |refl (s:l8):II s s|step {s t u:l8}:II s t->Mv t u->II s u
end
end Go.Proofs.YtfjcghhjlmfggaaGreatDoor
