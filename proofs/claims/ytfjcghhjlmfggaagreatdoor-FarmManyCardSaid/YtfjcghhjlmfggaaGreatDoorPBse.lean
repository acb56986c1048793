/- FarmMany: lemmas. -/
import Derived.Test.YtfjcghhjlmfggaaGreatDoorPSm12
import Derived.Orders
import GoSem.Extern.SlicesOverlaps
import Derived.Test.YtfjcghhjlmfggaaGreatDoorProg
set_option linter.unusedSectionVars false
set_option linter.unusedVariables false
set_option linter.unusedSimpArgs false
set_option linter.defProp false
set_option maxHeartbeats 2000000
namespace Go.Proofs.YtfjcghhjlmfggaaGreatDoor
theorem bI{p:Prop}(h:p:=by simp[World.setCell]):p:=h
theorem bl{p:Prop}(h:p:=by simp at he):p:=h
theorem bR{p:Prop}(h:p:=by simp only[Sem.runT,Array.append_empty]):p:=h
theorem cL{p:Prop}(h:p:=by simp only[Sem.run,h1];rfl):p:=h
theorem cG{p:Prop}(h:p:=by cases q<;>first|exact .ret ⟨rfl,trivial⟩|exact .pv):p:=h
theorem br{p:Prop}(h:p:=by simp[Instr.sameBits]):p:=h
theorem cE{p:Prop}(h:p:=by cases d2<;>first|exact .stuck|exact .ret ⟨rfl,.int _ _⟩):p:=h
theorem dc{p:Prop}(h:p:=by rw[JD h];exact Nat.zero_min _):p:=h
open Go
variable{a a' b b':Addr}{args mD c c':lW}{r r':Nat}{M:lF}{t:lT}{k k' v v' x' y y':lH}
structure Ren where
 to:Nat->Option Nat
 own:lF
 base:Nat
 inj:∀a b c,to a=some c->to b=some c->a=b
 low:∀a c,to a=some c->a<base\/c<base->c=a
structure Ren.Le(U mi:Ren):Prop where
 to:∀a c,U.to a=some c->mi.to a=some c
 own:∀a,U.own a->mi.own a
 base:mi.base=U.base
theorem Ren.Le.refl(U:Ren):U.Le U:=⟨fun _ _ h=>h,fun _ h=>h,rfl⟩
theorem Ren.Le.trans{a b c:Ren}(h:a.Le b)(k:b.Le c):a.Le c:=⟨fun x y e=>k.to x y (h.to x y e),fun x e=>k.own x (h.own x e),k.base.trans h.base⟩
inductive LR{α β:Type}(R:α->β->Prop):List α->List β->Prop where
 |nil:LR R [] []|cons {x:α} {y:β} {l:List α} {l':List β}:R x y->LR R l l'->LR R (x::l) (y::l')
def AR{α β:Type}(R:α->β->Prop)(xs:Array α)(ys:Array β):Prop:=xs.size=ys.size/\∀(i:Nat) x y,xs[i]?=some x->ys[i]?=some y->R x y
inductive OR{α β:Type}(R:α->β->Prop):Option α->Option β->Prop where
 |none:OR R none none|some {x:α} {y:β}:R x y->OR R (some x) (some y)
section
variable{α β γ δ ε:Type}{R:α->β->Prop}{R':γ->δ->Prop}
theorem OR.map{a:Option α}{b:Option β}(h:OR R a b){f:α->γ}{g:β->δ}(hr:∀x y,R x y->R' (f x) (g y)):OR R' (a.map f) (b.map g):=by
 cases h with
 |none=>exact .none|some h=>exact .some<|hr _ _ h
theorem OR.getD{a:Option α}{b:Option β}(h:OR R a b){d:α}{d':β}(hd:R d d'):R (a.getD d) (b.getD d'):=by
 cases h with
 |none=>exact hd|some h=>exact h
theorem LR.length{l:List α}{l':List β}(h:LR R l l'):l.length=l'.length:=by
 induction h with
 |nil=>rfl|cons _ _ ih=>simp[ih]
theorem LR.app{l m:List α}{l' m':List β}(h:LR R l l')(k:LR R m m'):LR R (l++m) (l'++m'):=by
 induction h with
 |nil=>exact k|cons h _ ih=>exact .cons h ih
theorem LR.aeu:∀{l:List α} {l':List β},l.length=l'.length->(∀(i:Nat) x y,l[i]?=some x->l'[i]?=some y->R x y)->LR R l l'
 |[],[],_,_=>.nil|[],_::_,h,_=>by simp at h
 |_::_,[],h,_=>by simp at h
 |x::l,y::l',h,k=>.cons (k 0 x y rfl rfl) (LR.aeu (by simpa using h) fun i a b ha hb=>k (i+1) a b (by simpa using ha)<|by simpa using hb)
theorem LR.index{l:List α}{l':List β}(h:LR R l l'):∀(i:Nat) x y,l[i]?=some x->l'[i]?=some y->R x y:=by
 induction h with
 |nil=>intro i x y hx;simp at hx
 |cons h _ ih=>
  intro i x y hx hy;cases i with
  |zero=>simp at hx hy;subst hx;subst hy;exact h|succ i=>exact ih i x y (by simpa using hx) (by simpa using hy)
theorem AR.lr{xs:Array α}{ys:Array β}(h:AR R xs ys):LR R xs.toList ys.toList:=
 .aeu (by simpa using h.1) fun i x y hx hy=>h.2 i x y (by simpa using hx) (by simpa using hy)
theorem LR.ar{l:List α}{l':List β}(h:LR R l l'):AR R l.toArray l'.toArray:=⟨by simpa using h.length,fun i x y hx hy=>h.index i x y (by simpa using hx)<|by simpa using hy⟩
theorem AR.XG{xs:Array α}{ys:Array β}(h:LR R xs.toList ys.toList):AR R xs ys:=by simpa using h.ar
theorem AR.mono{S:α->β->Prop}{xs:Array α}{ys:Array β}(h:AR R xs ys)(hs:∀x y,R x y->S x y):AR S xs ys:=⟨h.1,fun i x y a b=>hs _ _ (h.2 i x y a b)⟩
theorem AR.nil:AR R #[] #[]:=⟨rfl,fun i x y h=>by simp at h⟩
theorem AR.get{xs:Array α}{ys:Array β}(h:AR R xs ys){i:Nat}{x:α}(hx:xs[i]?=some x):∃y,ys[i]?=some y/\R x y:=by have⟨hi,_⟩:=eg.1 hx;have hj:i<ys.size:=h.1▸hi;exact⟨ys[i],eB hj,h.2 i x _ hx<|eB hj⟩
theorem AR.get_none{xs:Array α}{ys:Array β}(h:AR R xs ys){i:Nat}(hx:xs[i]?=none):ys[i]?=none:=by rw[Array.getElem?_eq_none_iff]at hx|-;rw[<-h.1];exact hx
theorem AR.opt{xs:Array α}{ys:Array β}(h:AR R xs ys)(i:Nat):OR R xs[i]? ys[i]?:=by
 rcases hx:xs[i]? with _|x
 .rw[h.get_none hx];exact .none
 have⟨y,hy,hr⟩:=h.get hx;rw[hy];exact .some hr
theorem AR.getD{xs:Array α}{ys:Array β}(h:AR R xs ys)(i:Nat){d:α}{d':β}(hd:R d d'):R (xs.getD i d) (ys.getD i d'):=by rw[ed,ed];exact(h.opt i).getD hd
theorem AR.push{xs:Array α}{ys:Array β}(h:AR R xs ys){x:α}{y:β}(hr:R x y):AR R (xs.push x) (ys.push y):=by refine .XG ?_;rw[Array.toList_push,Array.toList_push];exact h.lr.app<|.cons hr .nil
theorem AR.app{xs RV:Array α}{ys RX:Array β}(h:AR R xs ys)(k:AR R RV RX):AR R (xs++RV) (ys++RX):=by refine .XG ?_;rw[gg,gg];exact h.lr.app k.lr
theorem AR.Ng{xs:Array α}{ys:Array β}(hs:xs.size=ys.size)(h:∀i:Nat,OR R xs[i]? ys[i]?):AR R xs ys:=by
 refine⟨hs,fun i x y hx hy=>?_⟩;have:=h i;rw[hx,hy]at this;cases this with
 |some h=>exact h
theorem AR.extract{xs:Array α}{ys:Array β}(h:AR R xs ys)(a b:Nat):AR R (xs.extract a b) (ys.extract a b):=by
 refine .Ng (by simp[h.1]) fun i=>?_;rw[fh,fh,h.1];split
 .exact h.opt _
 exact .none
theorem AR.set{xs:Array α}{ys:Array β}(h:AR R xs ys)(i:Nat){x:α}{y:β}(hr:R x y):AR R (xs.setIfInBounds i x) (ys.setIfInBounds i y):=by
 refine .Ng (by simp[h.1]) fun j=>?_;rw[dZ,dZ,h.1];split
 .split
  .exact .some hr
  exact .none
 exact h.opt _
theorem AR.modify{xs:Array α}{ys:Array β}(h:AR R xs ys)(i:Nat){f:α->α}{g:β->β}(hr:∀x y,R x y->R (f x) (g y)):AR R (xs.modify i f) (ys.modify i g):=by
 refine .Ng (by simp[h.1]) fun j=>?_;rw[fw,fw];split
 .exact(h.opt j).map hr
 exact h.opt _
theorem AR.same{zs:Array ε}{f:ε->α}{g:ε->β}(hr:∀z∈zs,R (f z) (g z)):AR R (zs.map f) (zs.map g):=by
 refine .Ng aq fun j=>?_;rw[gx,gx];rcases hz:zs[j]? with _|z
 .exact .none
 exact .some<|hr z<|fz hz
theorem AR.rep(n:Nat){x:α}{y:β}(h:R x y):AR R (Array.replicate n x) (Array.replicate n y):=by
 refine .Ng aq fun j=>?_;rw[eL,eL];split
 .exact .some h
 exact .none
theorem AR.erase{xs:Array α}{ys:Array β}(h:AR R xs ys)(i:Nat):AR R (xs.eraseIdxIfInBounds i) (ys.eraseIdxIfInBounds i):=by
 refine .XG ?_;have e1:∀{γ:Type} (zs:Array γ),(zs.eraseIdxIfInBounds i).toList=zs.toList.eraseIdx i:=fun zs=>by
  unfold Array.eraseIdxIfInBounds;split
  .simp
  rw[List.eraseIdx_of_length_le (by simpa using Nat.le_of_not_lt ‹_›)]
 rw[e1,e1];clear e1;have:=h.lr;generalize xs.toList=l at this;generalize ys.toList=l' at this
 induction this generalizing i with
 |nil=>exact .nil|cons h t ih=>
  cases i with
  |zero=>exact t|succ i=>exact .cons h<|ih i
end
inductive R3(F:nj):Fn->Prop where
 |func {f:FuncId}:F f->R3 F (.func f)
def mE(U:Ren)(a a':Addr):Prop:=U.to a.block=some a'.block/\a'.off=a.off/\a'.spot=a.spot
inductive VR(F:nj)(U:Ren):Value->Value->Prop where
 |bool (b:Bool):VR F U (.bool b) (.bool b)|int (k:IntKind) (n:Int):VR F U (.int k n) (.int k n)|string (s:ByteArray):VR F U (.string s) (.string s)|rA:VR F U (.pointer none) (.pointer none)|ptr {a a':Addr}:mE U a a'->VR F U (.pointer<|some a) (.pointer<|some a')|qI (l c:Nat):VR F U (.slice none l c) (.slice none l c)|slice {a a':Addr} (l c:Nat):mE U a a'->VR F U (.slice (some a) l c) (.slice (some a') l c)|tn (a:Addr):VR F U (.slice (some a) 0 0) (.slice (some a) 0 0)|xz:VR F U (.map none) (.map none)|map {r r':Nat}:U.to r=some r'->VR F U (.map<|some r) (.map<|some r')|yy:VR F U (.chan none) (.chan none)|chan {r r':Nat}:U.to r=some r'->VR F U (.chan<|some r) (.chan<|some r')|func {fn:Fn} {a a' c c':lW}:R3 F fn->a.size=a'.size->(∀(i:Nat) x y,a[i]?=some x->a'[i]?=some y->VR F U x y)->
   c.size=c'.size->(∀(i:Nat) x y,c[i]?=some x->c'[i]?=some y->VR F U x y)->VR F U (.func fn a c) (.func fn a' c')
 |nilFunc:VR F U .nilFunc .nilFunc|iface (t:lT) {v v':lH}:VR F U v v'->VR F U (.iface t v) (.iface t v')|nilIface:VR F U .nilIface .nilIface|agg {c c':lW}:c.size=c'.size->(∀(i:Nat) x y,c[i]?=some x->c'[i]?=some y->VR F U x y)->VR F U (.agg c) (.agg c')|tuple {c c':lW}:c.size=c'.size->(∀(i:Nat) x y,c[i]?=some x->c'[i]?=some y->VR F U x y)->VR F U (.tuple c) (.tuple c')|hole {x:lH}:(∀c,x≠.agg c)->(∀c,x≠.tuple c)->(∀b,x≠.bool b)->(x≠.pointer none/\x≠.chan none/\x≠.map none/\∀l c,x≠.slice none l c)/\x≠.nilIface/\x≠.nilFunc/\(∀n a c,x≠.func (.method n) a c)->VR F U (.tuple #[]) x|Ew {n n':String} {a c:lW}:VR F U (.func (.method n) #[.nilIface] #[]) (.func (.method n') a c)
section
variable{F:nj}{U mi:Ren}
theorem mE.mono(h:mE U a a')(k:U.Le mi):mE mi a a':=⟨k.to _ _ h.1,h.2⟩
theorem mE.add(h:mE U a a')(n:Nat):mE U (a.add n) (a'.add n):=by
 unfold Addr.add;split
 .exact h
 exact⟨h.1,by simp[h.2.1],rfl⟩
theorem mE.eq_iff(h:mE U a a')(k:mE U b b'):a'=b'↔a=b:=by
 constructor
 .intro e;subst e;have e1:=U.inj _ _ _ h.1 k.1;have e2:=h.2.1.symm.trans k.2.1;have e3:=h.2.2.symm.trans k.2.2;cases a;cases b;simp_all
 intro e;subst e;have e1:=jl<|h.1.symm.trans k.1;have e2:=h.2.1.trans k.2.1.symm;have e3:=h.2.2.trans k.2.2.symm;cases a';cases b';simp_all
theorem mE.SH(h:mE U a a')(k:mE U b b'):a'.block=b'.block↔a.block=b.block:=by
 constructor
 .intro e;have h1:=h.1;rw[e]at h1;exact U.inj _ _ _ h1 k.1
 intro e;have h1:=h.1;rw[e,k.1]at h1;exact(jl h1).symm
theorem VR.Bd(h:AR (VR F U) c c'):VR F U (.agg c) (.agg c'):=.agg h.1 h.2
theorem VR.tuple'(h:AR (VR F U) c c'):VR F U (.tuple c) (.tuple c'):=.tuple h.1 h.2
theorem VR.abG{fn:Fn}{a a':lW}(hf:R3 F fn)(h:AR (VR F U) a a')(k:AR (VR F U) c c'):VR F U (.func fn a c) (.func fn a' c'):=.func hf h.1 h.2 k.1 k.2
theorem VR.undef:VR F U undef undef:=.tuple' .nil
theorem VR.mono(h:VR F U v v')(k:U.Le mi):VR F mi v v':=by
 induction h with
 |bool b=>exact .bool b|int a b=>exact .int a b|string s=>exact .string s|rA=>exact .rA|ptr h=>exact .ptr<|h.mono k|qI l c=>exact .qI l c|slice l c h=>exact .slice l c<|h.mono k|tn a=>exact .tn a|xz=>exact .xz|map h=>exact .map<|k.to _ _ h|yy=>exact .yy|chan h=>exact .chan<|k.to _ _ h|func hf h1 _ h3 _ i1 i2=>exact .func hf h1 i1 h3 i2|nilFunc=>exact .nilFunc|iface t _ ih=>exact .iface t ih|nilIface=>exact .nilIface|agg h _ ih=>exact .agg h ih|tuple h _ ih=>exact .tuple h ih|hole h1 h2 h3 h4=>exact .hole h1 h2 h3 h4|Ew=>exact .Ew
theorem VR.cells(h:VR F U v v'):AR (VR F U) v.cells v'.cells:=by
 cases h with
 |agg h k=>exact⟨h,k⟩|bool b=>exact(AR.nil).push<|.bool b|int a b=>exact(AR.nil).push<|.int a b|string s=>exact(AR.nil).push<|.string s|rA=>exact(AR.nil).push .rA|ptr h=>exact(AR.nil).push<|.ptr h|qI l c=>exact(AR.nil).push<|.qI l c|slice l c h=>exact(AR.nil).push<|.slice l c h|tn a=>exact(AR.nil).push<|.tn a|xz=>exact(AR.nil).push .xz|map h=>exact(AR.nil).push<|.map h|yy=>exact(AR.nil).push .yy|chan h=>exact(AR.nil).push<|.chan h|func hf h1 i1 h3 i2=>exact(AR.nil).push<|.func hf h1 i1 h3 i2|nilFunc=>exact(AR.nil).push .nilFunc|iface t ih=>exact(AR.nil).push<|.iface t ih|nilIface=>exact(AR.nil).push .nilIface|tuple h ih=>exact(AR.nil).push<|.tuple h ih|hole h1 h2 h3 h4=>
  have e:v'.cells= #[v']:=by cases v'<;>first|rfl|exact ll rfl<|h1 _
  rw[e];exact(AR.nil).push<|.hole h1 h2 h3 h4
 |Ew=>exact(AR.nil).push .Ew
def Plain(v:lH):Prop:=∀(F:nj) (U:Ren),VR F U v v
end
open Go Go.Conc
inductive AU(F:nj)(U:Ren):MapEntry->MapEntry->Prop where
 |mk {k k' v v':lH} (b:Nat):VR F U k k'->VR F U v v'->AU F U ⟨k,v,b⟩ ⟨k',v',b⟩
inductive tT(F:nj)(U:Ren):Obj->Obj->Prop where
 |cells {c c':lW} (e:lT) (f:Nat×Nat):AR (VR F U) c c'->tT F U (.cells c e f) (.cells c' e f)|map {es es':Array MapEntry} (n:Nat):AR (AU F U) es es'->tT F U (.map es n) (.map es' n)|stringIter (s:ByteArray) (p:Nat):tT F U (.stringIter s p) (.stringIter s p)|HV (s:Nat) (l:Array Nat) (n:Nat):tT F U (.mapIter none s l n) (.mapIter none s l n)|mapIter {m m':Nat} (s:Nat) (l:Array Nat) (n:Nat):U.to m=some m'->tT F U (.mapIter (some m) s l n) (.mapIter (some m') s l n)|number {a a':Addr} (l:Bool):mE U a a'->tT F U (.number a l) (.number a' l)
section
variable{F:nj}{U mi:Ren}
theorem AU.mono{e e':MapEntry}(h:AU F U e e')(k:U.Le mi):AU F mi e e':=by
 cases h with
 |mk b h1 h2=>exact .mk b (h1.mono k)<|h2.mono k
theorem tT.mono{o o':Obj}(h:tT F U o o')(k:U.Le mi):tT F mi o o':=by
 cases h with
 |cells e f h=>exact .cells e f<|h.mono fun _ _ h=>h.mono k
 |map n h=>exact .map n<|h.mono fun _ _ h=>h.mono k
 |stringIter s p=>exact .stringIter s p|HV s l n=>exact .HV s l n|mapIter s l n h=>exact .mapIter s l n<|k.to _ _ h|number l h=>exact .number l<|h.mono k
end
def _root_.Go.World.tp(w:lE)(t:ze):World:={w with tape:=t}
def ZJ(c:lW):Prop:=∀(i:Nat) (b:Int),c[i]?≠some (.int .u8 b)
structure nB(F:nj)(U:Ren)(R:lF)(v w:lE):Prop where
 base:U.base<=v.heap.size/\U.base<=w.heap.size
 CE:∀k k',U.to k=some k'->k<v.heap.size/\k'<w.heap.size
 mine:∀k k',U.to k=some k'->U.own k->∃o o',v.heap[k]?=some o/\w.heap[k']?=some o'/\tT F U o o'
 ro:∀k k',U.to k=some k'->¬U.own k->R k'/\∃c c' e f n,v.heap[k]?=some (.cells c e (0,n))/\w.heap[k']?=some (.cells c' e f)/\AR (VR F U) c c'/\c.size<=n/\f.2<=n/\ZJ c
inductive AT:Halt->Prop where
 |stuck (s:String):AT (.stuck s)|panic (v:lH):AT (.panic v)|pv {u:Unsupported} (h:∀g,u≠.initOrder g):AT (.unsupported u)
inductive nh(P:lY){α:Type}:Sem α->Prop where
 |halt {h:Halt}:AT h->nh P (.halt h)|program {k:Program->Sem α}:nh P (k P)->nh P (.program k)|choose {q:Question} {k:Nat->Sem α}:(∀n,nh P<|k n)->nh P (.choose q k)|sys {c:Sys} {k:SysRet->Sem α}:(∀r,nh P<|k r)->nh P (.sys c k)|new {o:Obj} {k:Nat->Sem α}:(∀n,nh P<|k n)->nh P (.new o k)|mark {m:Mark} {k:Sem α}:nh P k->nh P (.mark m k)|shape {r:Nat} {k:Option (TypeId×Nat)->Sem α}:(∀s,nh P<|k s)->nh P (.shape r k)|frozen {a:Addr} {k:Bool->Sem α}:(∀b,nh P<|k b)->nh P (.frozen a k)
theorem nh.run{P:lY}{α:Type}{s:Sem α}(h:nh P s):∀w,∃x w',s.run P w=.halt x w'/\AT x:=by
 induction h with
 |halt h=>exact fun w=>⟨_,w,rfl,h⟩
 |program _ ih=>exact fun w=>ih w
 |choose _ ih=>
  rename_i q k _;intro w;show ∃x w',Sem.run P (.choose q k) w=_/\_;simp only[Sem.run];split
  .exact ih _ _
  exact ih _ _
 |sys _ ih=>exact fun w=>ih _ _
 |new _ ih=>exact fun w=>ih _ _
 |mark _ ih=>exact fun w=>ih w
 |shape _ ih=>exact fun w=>ih _ w
 |frozen _ ih=>exact fun w=>ih _ w
inductive SR(P:lY)(F:nj){α β:Type}(Q:Ren->α->β->Prop):Ren->Sem α->Sem β->Prop where
 |pure {U:Ren} {a:α} {b:β}:Q U a b->SR P F Q U (.pure a) (.pure b)|load {U:Ren} {m:Mode} {a a':Addr} {k:Value->Sem α} {k':Value->Sem β}:mE U a a'->(∀v v',VR F U v v'->(¬U.own a.block->∀b,v≠.int .u8 b)->SR P F Q U (k v) (k' v'))->SR P F Q U (.load m a k) (.load m a' k')|store {U:Ren} {m:Mode} {a a':Addr} {v v':lH} {k:Sem α} {k':Sem β}:mE U a a'->VR F U v v'->SR P F Q U k k'->SR P F Q U (.store m a v k) (.store m a' v' k')|new {U:Ren} {o o':Obj} {k:Nat->Sem α} {k':Nat->Sem β}:tT F U o o'->(∀mi n n',U.Le mi->mi.to n=some n'->mi.own n->SR P F Q mi (k n) (k' n'))->SR P F Q U (.new o k) (.new o' k')|shape {U:Ren} {r r':Nat} {k:Option (TypeId×Nat)->Sem α} {k':Option (TypeId×Nat)->Sem β}:U.to r=some r'->(∀s,SR P F Q U (k s)<|k' s)->SR P F Q U (.shape r k) (.shape r' k')|freeze {U:Ren} {a a':Addr} {n:Nat} {k:Sem α} {k':Sem β}:mE U a a'->U.own a.block->SR P F Q U k k'->SR P F Q U (.freeze a n k) (.freeze a' n k')|frozen {U:Ren} {a a':Addr} {k:Bool->Sem α} {k':Bool->Sem β}:mE U a a'->(∀b b',(b'=true->b=true)->SR P F Q U (k b) (k' b'))->SR P F Q U (.frozen a k) (.frozen a' k')|I6 {U:Ren} {s:Sem α} {a':Addr} {k':Bool->Sem β}:(∀b,SR P F Q U s<|k' b)->SR P F Q U s (.frozen a' k')|Ks {U:Ren} {s:Sem α} {r':Nat} {k':Option (TypeId×Nat)->Sem β}:(∀b,SR P F Q U s<|k' b)->SR P F Q U s (.shape r' k')|getObj {U:Ren} {r r':Nat} {k:Obj->Sem α} {k':Obj->Sem β}:U.to r=some r'->(∀o o',tT F U o o'->SR P F Q U (k o) (k' o'))->SR P F Q U (.getObj r k) (.getObj r' k')|setObj {U:Ren} {r r':Nat} {o o':Obj} {k:Sem α} {k':Sem β}:U.to r=some r'->tT F U o o'->SR P F Q U k k'->SR P F Q U (.setObj r o k) (.setObj r' o' k')|choose {U:Ren} {q:Question} {k:Nat->Sem α} {k':Nat->Sem β}:(∀n,SR P F Q U (k n)<|k' n)->SR P F Q U (.choose q k) (.choose q k')|Fw {U:Ren} {q:Question} {k:Nat->Sem α} {s':Sem β} (t:Nat):q.forced=false->SR P F Q U (k<|q.cut t) s'->SR P F Q U (.choose q k) s'|program {U:Ren} {k:Program->Sem α} {k':Program->Sem β}:SR P F Q U (k P) (k' P)->SR P F Q U (.program k) (.program k')|room {U:Ren} {k:Sem α} {k':Sem β}:SR P F Q U k k'->SR P F Q U (.mark .noRoom k) (.mark .noRoom k')|extern {U:Ren} {f:FuncId} {k:Sem α} {k':Sem β}:SR P F Q U k k'->SR P F Q U (.mark (.extern f) k) (.mark (.extern f) k')|dead {U:Ren} {s:Sem α} {s':Sem β}:nh P s->SR P F Q U s s'
section
variable{F:nj}{U:Ren}{R:lF}{v w:lE}
theorem nB.same{v' w':lE}(h:nB F U R v w)(hv:v'.heap=v.heap)(hw:w'.heap=w.heap):nB F U R v' w':=⟨by rw[hv,hw];exact h.base,by rw[hv,hw];exact h.CE,by rw[hv,hw];exact h.mine,by rw[hv,hw];exact h.ro⟩
theorem nB.obj(h:nB F U R v w)(hr:U.to r=some r'):∃o o',v.heap[r]?=some o/\w.heap[r']?=some o'/\
  ((U.own r/\tT F U o o')\/(¬U.own r/\R r'/\∃c c' e f n,o=.cells c e (0,n)/\o'=.cells c' e f/\AR (VR F U) c c'/\c.size<=n/\f.2<=n/\ZJ c)):=by
 by_cases ho:U.own r
 .have⟨o,o',h1,h2,h3⟩:=h.mine _ _ hr ho;exact⟨o,o',h1,h2,.inl ⟨ho,h3⟩⟩
 have⟨h0,c,c',e,f,n,h1,h2,h3⟩:=h.ro _ _ hr ho;exact⟨_,_,h1,h2,.inr ⟨ho,h0,c,c',e,f,n,Z,Z,h3⟩⟩
theorem nB.row(h:nB F U R v w)(hr:U.to r=some r'){e:lT}{f:Nat×Nat}(hc:v.heap[r]?=some (.cells c e f)):
  ∃c' f',w.heap[r']?=some (.cells c' e f')/\AR (VR F U) c c'/\(U.own r->f'=f)/\(¬U.own r->R r'/\∃n,f=(0,n)/\c.size<=n):=by
 have⟨o,o',h1,h2,h3⟩:=h.obj hr;rw[h1]at hc;injection hc with hc;subst hc;rcases h3 with⟨ho,h3⟩|⟨ho,h0,c1,c',e1,f1,n1,h4,rfl,h5,h6,h7⟩
 .cases h3 with
  |cells e f h=>exact⟨_,_,h2,h,fun _=>rfl,fun n=>ll ho n⟩
 injection h4 with a1 a2 a3;subst a1;subst a2;subst a3;exact⟨_,_,h2,h5,fun n=>ll n ho,fun _=>⟨h0,n1,Z,h6⟩⟩
theorem nB.cell(h:nB F U R v w)(ha:mE U a a'){x:lH}(hx:v.cell? a=some x):∃x',w.cell? a'=some x'/\VR F U x x':=by
 unfold World.cell? at hx;split at hx
 .next c e f hc=>
  have⟨c',f',h1,h2,_,_⟩:=h.row ha.1 hc;split at hx
  .cases hx
  rename_i hs;have⟨y,hy,hr⟩:=h2.get hx;refine⟨y,?_,hr⟩;unfold World.cell?;rw[h1];simp only[ha.2.1,ha.2.2];rw[lp hs];exact hy
 cases hx
theorem nB.noCell(h:nB F U R v w)(hr:U.to r=some r'):(∀a u,v.heap[r]?≠some (.view a u))/\(∀c e,v.heap[r]?≠some (.pending c e)):=by
 have⟨o,o',h1,h2,h3⟩:=h.obj hr;rw[h1];rcases h3 with⟨ho,h3⟩|⟨ho,h0,c1,c',e1,f1,n1,rfl,rfl,h5,h6,h7⟩
 .cases h3<;>exact⟨fun _ _=>aq,fun _ _=>aq⟩
 exact⟨fun _ _=>aq,fun _ _=>aq⟩
theorem nB.ael(h:nB F U R v w)(ha:mE U a a')(what:String):AT (v.noCell a what):=by
 have⟨h1,h2⟩:=h.noCell ha.1;unfold World.noCell;split
 .next hx=>exact ll hx<|h2 _ _
 .next hx=>exact ll hx<|h1 _ _
 exact .stuck _
theorem nB.TN(h:nB F U R v w)(ha:mE U a a')(P:lY)(at_:Bool):∃e,v.farLoad P a at_=.error e/\AT e:=by
 have⟨h1,h2⟩:=h.noCell ha.1;unfold World.farLoad;split
 .next hx=>exact ll hx<|h1 _ _
 exact⟨_,Z,h.ael ha _⟩
theorem nB.alN(h:nB F U R v w)(ha:mE U a a')(P:lY)(y:lH)(at_:Bool):∃e,v.farStore P a y at_=.error e/\AT e:=by
 have⟨h1,h2⟩:=h.noCell ha.1;unfold World.farStore;split
 .next hx=>exact ll hx<|h1 _ _
 exact⟨_,Z,h.ael ha _⟩
theorem nB.shape(h:nB F U R v w)(hr:U.to r=some r'):w.shape? r'=v.shape? r:=by
 have⟨o,o',h1,h2,h3⟩:=h.obj hr;unfold World.shape?;rw[h1,h2];rcases h3 with⟨ho,h3⟩|⟨ho,h0,c1,c',e1,f1,n1,rfl,rfl,h5,h6,h7⟩
 .cases h3 with
  |cells e f h=>simp[h.1]|_=>rfl
 simp[h5.1]
theorem nB.frozen(h:nB F U R v w)(ha:mE U a a'):(U.own a.block->w.frozen? a'=v.frozen? a)/\(w.frozen? a'->v.frozen? a):=by
 have⟨o,o',h1,h2,h3⟩:=h.obj ha.1;unfold World.frozen?;rw[h1,h2];rcases h3 with⟨ho,h3⟩|⟨ho,h0,c1,c',e1,f1,n1,rfl,rfl,h5,h6,h7⟩
 .cases h3 with
  |cells e f h=>simp only[ha.2.1];exact⟨fun _=>trivial,fun h=>h⟩|_=>exact⟨fun _=>rfl,fun h=>by simp at h⟩
 refine⟨fun n=>ll n ho,fun hf=>?_⟩;obtain⟨lo,hi⟩:=f1;simp only[ha.2.1,ij,decide_eq_true_eq]at hf h7|-;have:=h7.1;omega
end
theorem Rm(w:lE)(a:Addr)(y:lH)(k:Nat)(hk:k≠a.block):(w.setCell a y).heap[k]?=w.heap[k]?:=by unfold World.setCell;simp only[fw];rw[lp (fun e=>hk e.symm)]
theorem nJ.setCell{w:lE}(hm:M a.block)(y:lH):nJ M w (w.setCell a y):=⟨bI,fun k hk _=>Rm _ _ _ _ fun e=>hk<|e▸hm,rfl,rfl,rfl⟩
theorem nJ.trans{a b c:lE}(h:nJ M a b)(k:nJ (grown M a.heap.size b.heap.size) b c):nJ M a c:=⟨j5 h.size k.size,fun j hj hl=>(k.rest j (fun e=>e.elim hj fun e=>aa) (by have:=h.size;omega)).trans<|h.rest j hj hl,k.tape.trans h.tape,k.os.trans h.os,k.out.trans h.out⟩
theorem oc.mono{M' R:lF}{e:Event}(h:oc M R e)(hm:∀k,M k->M' k):oc M' R e:=by
 unfold oc at h|-;split at h
 .exact h.elim (fun h=>.inl<|hm _ h) .inr
 .exact hm _ h
 .exact h
 exact h
theorem amp{n a b:Nat}(h:a<=b):∀k,grown M n a k->grown M n b k:=fun k hk=>hk.elim .inl fun h'=>.inr ⟨h'.1,aa⟩
def Ren.put(U:Ren)(n n':Nat)(hb:U.base<=n/\U.base<=n')(h:∀k,U.to k≠some n'):Ren where
 to:=fun k=>if k=n then some n' else U.to k
 own:=fun k=>k=n\/U.own k
 base:=U.base
 low:=fun a c ha hl=>by
  by_cases e1:a=n<;>simp only[e1,lj,kZ]at ha
  .injection ha with ha;omega
  exact U.low _ _ ha hl
 inj:=fun a b c ha hb=>by
  by_cases e1:a=n<;>by_cases e2:b=n<;>simp only[e1,e2,lj,kZ]at ha hb|-
  .injection ha with ha;subst ha;exact ll hb<|h _
  .injection hb with hb;subst hb;exact ll ha<|h _
  exact U.inj _ _ _ ha hb
section
variable{F:nj}{U:Ren}{R:lF}{v w:lE}
theorem nB.new(h:nB F U R v w){o o':Obj}(ho:tT F U o o')(hn:∀k,U.to k≠some w.heap.size)(hv:U.to v.heap.size=none):
  U.Le (U.put v.heap.size w.heap.size h.base hn)/\nB F (U.put v.heap.size w.heap.size h.base hn) R {v with heap:=v.heap.push o} {w with heap:=w.heap.push o'}:=by
 have aBm:U.Le (U.put v.heap.size w.heap.size h.base hn):=by refine⟨fun a c e=>?_,fun a e=>.inr e,Z⟩;show(if a=v.heap.size then _ else _)=_;rw[lp (fun e'=>by subst e';rw[hv]at e;cases e)];exact e
 have old:∀k k',(U.put v.heap.size w.heap.size h.base hn).to k=some k'->(k=v.heap.size/\k'=w.heap.size)\/(k≠v.heap.size/\U.to k=some k'):=by
  intro k k' e;have e:(if k=v.heap.size then some w.heap.size else U.to k)=some k':=e;split at e
  .injection e with e;exact .inl ⟨‹_›,e.symm⟩
  exact .inr ⟨‹_›,e⟩
 refine⟨aBm,⟨by have:=h.base;show U.base<=_/\U.base<=_;simp;omega,fun k k' e=>?_,fun k k' e eo=>?_,fun k k' e eo=>?_⟩⟩
 .rcases old k k' e with⟨rfl,rfl⟩|⟨h1,h2⟩
  .simp
  have:=h.CE _ _ h2;simp;omega
 .rcases old k k' e with⟨rfl,rfl⟩|⟨h1,h2⟩
  .exact⟨o,o',aq,aq,ho.mono aBm⟩
  have⟨x,x',e1,e2,e3⟩:=h.mine _ _ h2<|eo.resolve_left h1;have hd:=h.CE _ _ h2;refine⟨x,x',?_,?_,e3.mono aBm⟩
  .simp only[fZ];rw[lp aa];exact e1
  simp only[fZ];rw[lp aa];exact e2
 rcases old k k' e with⟨rfl,rfl⟩|⟨h1,h2⟩
 .exact ll (.inl Z) eo
 have⟨h0,c,c',e',f,n,e1,e2,e3,e4⟩:=h.ro _ _ h2<|fun x=>eo<|.inr x;have hd:=h.CE _ _ h2;refine⟨h0,c,c',e',f,n,?_,?_,e3.mono fun _ _ x=>x.mono aBm,e4⟩
 .simp only[fZ];rw[lp aa];exact e1
 simp only[fZ];rw[lp aa];exact e2
theorem nB.change(h:nB F U R v w)(hr:U.to r=some r')(ho:U.own r){v' w':lE}(AB:v'.heap.size=v.heap.size)(hws:w'.heap.size=w.heap.size)
  (hv:∀k,k≠r->v'.heap[k]?=v.heap[k]?) (hw:∀k,k≠r'->w'.heap[k]?=w.heap[k]?) (hn:∃o o',v'.heap[r]?=some o/\w'.heap[r']?=some o'/\tT F U o o'):nB F U R v' w':=by
 refine⟨by rw[AB,hws];exact h.base,fun k k' e=>by rw[AB,hws];exact h.CE _ _ e,fun k k' e eo=>?_,fun k k' e eo=>?_⟩
 .by_cases hk:k=r
  .subst hk;have:=jl<|e.symm.trans hr;subst this;exact hn
  have nY:k'≠r':=fun e'=>hk<|U.inj _ _ _ e<|e'▸hr;rw[hv _ hk,hw _ nY];exact h.mine _ _ e eo
 have hk:k≠r:=fun e'=>eo<|e'▸ho;have nY:k'≠r':=fun e'=>hk<|U.inj _ _ _ e<|e'▸hr;rw[hv _ hk,hw _ nY];exact h.ro _ _ e eo
theorem nB.setCell(h:nB F U R v w)(ha:mE U a a')(ho:U.own a.block)(hy:VR F U y y'):nB F U R (v.setCell a y) (w.setCell a' y'):=by
 refine h.change ha.1 ho bI bI (fun k hk=>Rm _ _ _ _ hk) (fun k hk=>Rm _ _ _ _ hk) ?_;have⟨o,o',e1,e2,e3⟩:=h.mine _ _ ha.1 ho;unfold World.setCell;simp only[fw,lj,e1,e2,jk];refine⟨_,_,Z,Z,?_⟩;cases e3 with
 |cells e f k=>
  simp only[ha.2.1,ha.2.2];split
  .exact .cells e f k
  exact .cells e f<|k.set _ hy
 |map n k=>exact .map n k|stringIter s p=>exact .stringIter s p|HV s l n=>exact .HV s l n|mapIter s l n k=>exact .mapIter s l n k|number l k=>exact .number l k
theorem nB.setObj(h:nB F U R v w)(hr:U.to r=some r')(ho:U.own r){o o':Obj}(hy:tT F U o o'):
  nB F U R {v with heap:=v.heap.setIfInBounds r o} {w with heap:=w.heap.setIfInBounds r' o'}:=by
 have hd:=h.CE _ _ hr;refine h.change hr ho aq aq (fun k hk=>?_) (fun k hk=>?_) ⟨o,o',?_,?_,hy⟩
 .simp only[dZ];rw[lp (fun e=>hk e.symm)]
 .simp only[dZ];rw[lp (fun e=>hk e.symm)]
 .simp only[dZ];simp[hd.1]
 simp only[dZ];simp[hd.2]
theorem TZ(w:lE)(a:Addr)(n k:Nat)(hk:k≠a.block):(w.freeze a n).heap[k]?=w.heap[k]?:=by
 unfold World.freeze;split
 .rfl
 simp only[fw];rw[lp (fun e=>hk e.symm)]
theorem O4(w:lE)(a:Addr)(n:Nat):(w.freeze a n).heap.size=w.heap.size:=by unfold World.freeze;split<;>simp
theorem abF(w:lE)(a:Addr)(n:Nat):(w.freeze a n).tape=w.tape/\(w.freeze a n).os=w.os/\(w.freeze a n).output=w.output/\(w.freeze a n).drawn=w.drawn:=by unfold World.freeze;split<;>exact⟨rfl,rfl,rfl,rfl⟩
theorem al3(w:lE)(a:Addr)(n:Nat)(t:ze):(w.tp t).freeze a n=(w.freeze a n).tp t:=by unfold World.freeze World.tp;split<;>rfl
theorem nB.freeze(h:nB F U R v w)(ha:mE U a a')(ho:U.own a.block)(n:Nat):nB F U R (v.freeze a n) (w.freeze a' n):=by
 refine h.change ha.1 ho (O4 _ _ _) (O4 _ _ _) (fun k hk=>TZ _ _ _ _ hk) (fun k hk=>TZ _ _ _ _ hk) ?_;have⟨o,o',e1,e2,e3⟩:=h.mine _ _ ha.1 ho;unfold World.freeze;by_cases hn:n=0
 .simp only[hn,lj];exact⟨o,o',e1,e2,e3⟩
 simp only[hn,kZ,fw,lj,e1,e2,jk];refine⟨_,_,Z,Z,?_⟩;cases e3 with
 |cells e f k=>obtain⟨lo,hi⟩:=f;simp only[ha.2.1];exact .cells e _ k
 |map n k=>exact .map n k|stringIter s p=>exact .stringIter s p|HV s l n=>exact .HV s l n|mapIter s l n k=>exact .mapIter s l n k|number l k=>exact .number l k
end
def qL(P:lY)(F:nj){α β:Type}(Q:Ren->α->β->Prop)(R M:lF)(U:Ren)(v w:lE)(t:ze)(s:Sem α)(s':Sem β)(es:Array Event):Prop:=
 (∃x v1,s.run P (v.tp t)=.halt x v1/\AT x)\/
 ∃a v1,s.run P (v.tp t)=.ok a v1/\v.drawn<=v1.drawn/\v1.tape=t/\(∀t2,(∀j,j<v1.drawn->t2 j=t j)->s.run P (v.tp t2)=.ok a (v1.tp t2))/\
  ∃mi b w1 u,s'.runT P w es=(.ok b w1,es++u)/\U.Le mi/\Q mi a b/\nB F mi R v1 w1/\nJ M w w1/\(∀e∈u,oc (grown M w.heap.size w1.heap.size) R e)/\
   (∀k k',mi.to k=some k'->mi.own k->grown M w.heap.size w1.heap.size k')/\v.heap.size<=v1.heap.size
section
variable{P:lY}{F:nj}{α β:Type}{Q:Ren->α->β->Prop}{R M:lF}{U:Ren}{v w:lE}
theorem qL.step{π2:Ren}{v2 w2:lE}{s k:Sem α}{s' k':Sem β}{es p:Array Event}(hπ:U.Le π2)
  (hl:∀t,(∀j,j<v2.drawn->t j=v2.tape j)->s.run P (v.tp t)=k.run P (v2.tp t)) (hd:v.drawn<=v2.drawn) (ht:∀j,j<v.drawn->v2.tape j=v.tape j) (hz:v.heap.size<=v2.heap.size)
  (hr:s'.runT P w es=k'.runT P w2 (es++p)) (nP:nJ M w w2) (hp:∀e∈p,oc (grown M w.heap.size w2.heap.size) R e)
  (h:∃t,(∀j,j<v2.drawn->t j=v2.tape j)/\qL P F Q R (grown M w.heap.size w2.heap.size) π2 v2 w2 t k k' (es++p)):
  ∃t,(∀j,j<v.drawn->t j=v.tape j)/\qL P F Q R M U v w t s s' es:=by
 obtain⟨t,h1,h2⟩:=h;refine⟨t,fun j hj=>(h1 j aa).trans<|ht j hj,?_⟩;rcases h2 with⟨x,v1,h3,h4⟩|⟨a,v1,h3,h4,h5,h6,mi,b,w1,u,h7,h8,h9,xf,FJ,rk,Ja,Jb⟩
 .exact .inl ⟨x,v1,by rw[hl t h1];exact h3,h4⟩
 have hg:=amo (M:=M) nP.size FJ.size;refine .inr ⟨a,v1,by rw[hl t h1];exact h3,aa,h5,fun t2 e=>?_,mi,b,w1,p++u,by rw[hr,h7,Array.append_assoc],hπ.trans h8,h9,xf,nP.trans FJ,fun e he=>?_,fun k k' e1 e2=>hg▸Ja k k' e1 e2,aa⟩
 .rw[hl t2 fun j hj=>(e j aa).trans<|h1 j hj];exact h6 t2 e
 rcases ig.1 he with he|he
 .exact(hp e he).mono<|amp FJ.size
 have:=rk e he
 rwa [hg]at this
theorem qL.bad{s:Sem α}{s':Sem β}{es:Array Event}{x:Halt}{v1:lE}(h:s.run P v=.halt x v1)(hb:AT x):∃t,(∀j,j<v.drawn->t j=v.tape j)/\qL P F Q R M U v w t s s' es:=⟨v.tape,fun _ _=>rfl,.inl ⟨x,v1,h,hb⟩⟩
theorem Ke(es:Array Event)(e:Event):es.push e=es++ #[e]:=by rw[Array.push_eq_append]
theorem Yv{γ:Type}{m:Mode}{p:Addr}{k:Sem γ}(hy:¬((∃l,y=.agg l)\/(∃l,y=.tuple l)))(W:lE):(Sem.store m p y k).run P W=match W.cell? p with
  |some _=>if W.frozen? p then .halt (.unsupported<|.unsafePointer "a write to bytes that a string shares") W else k.run P (W.setCell p y)
  |none=>match W.farStore P p y (m== .atomic)with
   |.ok (w,_)=>k.run P w|.error h=>.halt h W:=by
 cases y<;>first|rfl|exact ll (.inl ⟨_,rfl⟩) hy|exact ll (.inr ⟨_,rfl⟩) hy
theorem auB{γ:Type}{m:Mode}{p:Addr}{k:Sem γ}(hy:¬((∃l,y=.agg l)\/(∃l,y=.tuple l)))(W:lE)(es:Array Event):(Sem.store m p y k).runT P W es=match W.cell? p with
  |some _=>if W.frozen? p then(.halt (.unsupported<|.unsafePointer "a write to bytes that a string shares") W,es)else k.runT P (W.setCell p y) (es.push ⟨.cell p,true,m== .atomic⟩)
  |none=>match W.farStore P p y (m== .atomic)with
   |.ok (w,axb)=>k.runT P w (es++axb.toArray.map (⟨.cell ·,true,m== .atomic⟩))|.error h=>(.halt h W,es):=by
 cases y<;>first|rfl|exact ll (.inl ⟨_,rfl⟩) hy|exact ll (.inr ⟨_,rfl⟩) hy
theorem SR.run{s:Sem α}{s':Sem β}(h:SR P F Q U s s'):∀{v w:lE} {M:lF} {es:Array Event},nB F U R v w->(∀k k',U.to k=some k'->U.own k->M k')->
  ∃t,(∀j,j<v.drawn->t j=v.tape j)/\qL P F Q R M U v w t s s' es:=by
 induction h with
 |pure hq=>rename_i U a b;intro v w M es hW hM;exact⟨v.tape,fun _ _=>Z,.inr ⟨a,v,Z,ku _,Z,fun _ _=>Z,U,b,w, #[],by simp[Sem.runT],Ren.Le.refl _,hq,hW,nJ.refl _ _,fun e he=>bl,fun k k' e1 e2=>.inl<|hM k k' e1 e2,ku _⟩⟩
 |load ha hk ih=>
  rename_i U m a a' k k';intro v w M es hW hM;rcases hx:v.cell? a with _|x
  .have⟨e,he,hb⟩:=hW.TN ha P<|m== .atomic;refine qL.bad (x:=e) (v1:=v) ?_ hb;simp only[Sem.run,hx,he]
  have⟨x',ru,hr⟩:=hW.cell ha hx;have h8:¬U.own a.block->∀b,x≠.int .u8 b:=by
   intro mI b e;subst e;have⟨o,o',h1,h2,h3⟩:=hW.obj ha.1;rcases h3 with⟨h3,_⟩|⟨_,_,c,c',e,f,n,rfl,_,_,_,_,Ei⟩
   .exact mI h3
   unfold World.cell? at hx;rw[h1]at hx;simp only at hx;split at hx
   .cases hx
   exact Ei _ _ hx
  refine qL.step (Ren.Le.refl _) (v2:=v) (w2:=w) (p:= #[⟨.cell a',false,m== .atomic⟩]) (k:=k x) (k':=k' x') (fun t ht=>?_) (ku _) (fun _ _=>Z) (ku _) ?_ (nJ.refl _ _) (fun e he=>?_)<|ih x x' hr h8 hW fun k k' e1 e2=>.inl<|hM k k' e1 e2
  .have:(v.tp t).cell? a=some x:=hx;simp only[Sem.run,this]
  .simp only[Sem.runT,ru,Ke]
  simp only[iB,gF]at he;subst he;have⟨o,o',h1,h2,h3⟩:=hW.obj ha.1;rcases h3 with⟨h3,_⟩|⟨_,h3,_⟩
  .exact .inl<|.inl<|hM _ _ ha.1 h3
  exact .inr ⟨h3,Z⟩
 |store ha hy hk ih=>
  rename_i U m a a' y y' k k';intro v w M es hW hM;by_cases Qd:(∃l,y=.agg l)\/(∃l,y=.tuple l)
  .rcases Qd with⟨l,rfl⟩|⟨l,rfl⟩<;>exact qL.bad (v1:=v) (by simp only[Sem.run];rfl)<|.stuck _
  have ap7:¬((∃l,y'=.agg l)\/(∃l,y'=.tuple l)):=by intro e;cases hy<;>simp_all
  rcases hx:v.cell? a with _|x
  .have⟨e,he,hb⟩:=hW.alN ha P y<|m== .atomic;refine qL.bad (x:=e) (v1:=v) ?_ hb;rw[Yv Qd];simp only[hx,he]
  have⟨x',ru,hr⟩:=hW.cell ha hx;cases hf:v.frozen? a with
  |true=>refine qL.bad (v1:=v) ?_<|.pv (u:=.unsafePointer "a write to bytes that a string shares") aq;rw[Yv Qd];simp only[hx,hf,lj]|false=>
   have ho:U.own a.block:=by
    have⟨o,o',h1,h2,h3⟩:=hW.obj ha.1;rcases h3 with⟨h3,_⟩|⟨_,_,c,c',e,f,n,rfl,_,_,hn,_⟩
    .exact h3
    exfalso;unfold World.cell? at hx;unfold World.frozen? at hf;rw[h1]at hx hf;simp only at hx hf;split at hx
    .cases hx
    have:=(eg.1 hx).1;simp at hf;omega
   have BL:w.frozen? a'=false:=by rw[(hW.frozen ha).1 ho];exact hf
   have mR:(w.setCell a' y').heap.size=w.heap.size:=bI;refine qL.step (Ren.Le.refl _) (v2:=v.setCell a y) (w2:=w.setCell a' y') (p:= #[⟨.cell a',true,m== .atomic⟩]) (k:=k) (k':=k') (fun t ht=>?_) (ku _) (fun _ _=>Z) bI ?_ (nJ.setCell (hM _ _ ha.1 ho) _) (fun e he=>?_)<|ih (hW.setCell ha ho hy) fun k k' e1 e2=>.inl<|hM k k' e1 e2
   .rw[Yv Qd];have h1:(v.tp t).cell? a=some x:=hx;have h2:(v.tp t).frozen? a=false:=hf;simp only[h1,h2]
    rfl
   .rw[auB ap7];simp only[ru,BL,Ke]
    rfl
   simp only[iB,gF]at he;subst he;exact .inl<|.inl<|hM _ _ ha.1 ho
 |new ho hk ih=>
  rename_i U o o' k k';intro v w M es hW hM;have hn:∀k,U.to k≠some w.heap.size:=fun k e=>by have:=(hW.CE _ _ e).2;omega
  have hv:U.to v.heap.size=none:=by
   rcases e:U.to v.heap.size with _|c
   .rfl
   have:=(hW.CE _ _ e).1;omega
  have⟨aBm,UP⟩:=hW.new ho hn hv;refine qL.step aBm (v2:={v with heap:=v.heap.push o}) (w2:={w with heap:=w.heap.push o'}) (p:= #[]) (k:=k v.heap.size) (k':=k' w.heap.size) (fun t ht=>Z) (ku _) (fun _ _=>Z) aq bR ?_ (fun e he=>bl)
   (ih _ _ _ aBm (by show(if _=_ then _ else _)=_;simp) (.inl rfl) UP fun j j' e1 e2=>?_)
  .exact⟨aq,fun j hj hl=>by simp only[fZ];rw[lp aa],rfl,rfl,rfl⟩
  have e1:(if j=v.heap.size then some w.heap.size else U.to j)=some j':=e1;split at e1
  .injection e1 with e1;subst e1;exact .inr ⟨ku _,aq⟩
  exact .inl<|hM j j' e1<|e2.resolve_left ‹_›
 |shape hr hk ih=>rename_i U r r' k k';intro v w M es hW hM;refine qL.step (Ren.Le.refl _) (v2:=v) (w2:=w) (p:= #[]) (k:=k<|v.shape? r) (k':=k'<|v.shape? r) (fun t ht=>Z) (ku _) (fun _ _=>Z) (ku _) ?_ (nJ.refl _ _) (fun e he=>bl)<|ih _ hW fun k k' e1 e2=>.inl<|hM k k' e1 e2;simp only[Sem.runT,gu,hW.shape hr]
 |freeze ha ho hk ih=>
  rename_i U a a' n k k';intro v w M es hW hM;have⟨f1,f2,f3,f4⟩:=abF w a' n;have⟨g1,g2,g3,g4⟩:=abF v a n;refine qL.step (Ren.Le.refl _) (v2:=v.freeze a n) (w2:=w.freeze a' n) (p:= #[]) (k:=k) (k':=k') (fun t ht=>?_) (by rw[g4];exact ku _) (fun _ _=>by rw[g1]) (by rw[O4];exact ku _) ?_ ?_ (fun e he=>bl)<|ih (hW.freeze ha ho n) fun k k' e1 e2=>.inl<|hM k k' e1 e2
  .simp only[Sem.run,al3]
  .simp only[Sem.runT,gu]
  exact⟨by rw[O4];exact ku _,fun j hj hl=>TZ _ _ _ _ fun e=>hj<|e▸hM _ _ ha.1 ho,f1,f2,f3⟩
 |frozen ha hk ih=>rename_i U a a' k k';intro v w M es hW hM;refine qL.step (Ren.Le.refl _) (v2:=v) (w2:=w) (p:= #[]) (k:=k<|v.frozen? a) (k':=k'<|w.frozen? a') (fun t ht=>Z) (ku _) (fun _ _=>Z) (ku _) ?_ (nJ.refl _ _) (fun e he=>bl)<|ih _ _ (hW.frozen ha).2 hW fun k k' e1 e2=>.inl<|hM k k' e1 e2;simp only[Sem.runT,gu]
 |I6 hk ih=>rename_i U s a' k';intro v w M es hW hM;exact qL.step (Ren.Le.refl _) (v2:=v) (w2:=w) (p:= #[]) (k:=s) (k':=k'<|w.frozen? a') (fun t ht=>Z) (ku _) (fun _ _=>Z) (ku _) bR (nJ.refl _ _) (fun e he=>bl)<|ih _ hW fun k k' e1 e2=>.inl<|hM k k' e1 e2
 |Ks hk ih=>rename_i U s r' k';intro v w M es hW hM;exact qL.step (Ren.Le.refl _) (v2:=v) (w2:=w) (p:= #[]) (k:=s) (k':=k'<|w.shape? r') (fun t ht=>Z) (ku _) (fun _ _=>Z) (ku _) bR (nJ.refl _ _) (fun e he=>bl)<|ih _ hW fun k k' e1 e2=>.inl<|hM k k' e1 e2
 |getObj hr hk ih=>
  rename_i U r r' k k';intro v w M es hW hM;have⟨o,o',h1,h2,h3⟩:=hW.obj hr;rcases h3 with⟨ho,h3⟩|⟨ho,h0,c,c',e,f,n,rfl,rfl,_⟩
  .by_cases hc:∃c e f,o=.cells c e f
   .obtain⟨c,e,f,rfl⟩:=hc;exact qL.bad (v1:=v) cL<|.stuck _
   refine qL.step (Ren.Le.refl _) (v2:=v) (w2:=w) (p:= #[⟨.obj r',false,o'.isChan⟩]) (k:=k o) (k':=k' o') (fun t ht=>?_) (ku _) (fun _ _=>Z) (ku _) ?_ (nJ.refl _ _) (fun e he=>?_)<|ih o o' h3 hW fun k k' e1 e2=>.inl<|hM k k' e1 e2
   .have e1:(v.tp t).heap[r]?=some o:=h1;simp only[Sem.run,e1];cases h3<;>first|rfl|exact ll ⟨_,_,_,rfl⟩ hc
   .simp only[Sem.runT,h2,Ke];cases h3<;>first|rfl|exact ll ⟨_,_,_,rfl⟩ hc
   simp only[iB,gF]at he;subst he;exact .inl<|hM _ _ hr ho
  exact qL.bad (v1:=v) cL<|.stuck _
 |setObj hr hn hk ih=>
  rename_i U r r' n n' k k';intro v w M es hW hM;have⟨o,o',h1,h2,h3⟩:=hW.obj hr;rcases h3 with⟨ho,h3⟩|⟨ho,h0,c,c',e,f,n,rfl,rfl,_⟩
  .by_cases hc:∃c e f,o=.cells c e f
   .obtain⟨c,e,f,rfl⟩:=hc;exact qL.bad (v1:=v) cL<|.stuck _
   refine qL.step (Ren.Le.refl _) (v2:={v with heap:=v.heap.setIfInBounds r n}) (w2:={w with heap:=w.heap.setIfInBounds r' n'}) (p:= #[⟨.obj r',true,n'.isChan⟩]) (k:=k) (k':=k') (fun t ht=>?_) (ku _) (fun _ _=>Z) aq ?_ ?_ (fun e he=>?_)<|ih (hW.setObj hr ho hn) fun k k' e1 e2=>.inl<|hM k k' e1 e2
   .have e1:(v.tp t).heap[r]?=some o:=h1;simp only[Sem.run,e1];cases h3<;>first|rfl|exact ll ⟨_,_,_,rfl⟩ hc
   .simp only[Sem.runT,h2,Ke];cases h3<;>first|rfl|exact ll ⟨_,_,_,rfl⟩ hc
   .refine⟨aq,fun j hj hl=>?_,Z,Z,Z⟩;simp only[dZ];have hm:¬r'=j:=fun e=>hj<|e▸hM _ _ hr ho;rw[lp hm]
   simp only[iB,gF]at he;subst he;exact Or.inl<|hM _ _ hr ho
  exact qL.bad (v1:=v) cL<|.stuck _
 |choose hk ih=>
  rename_i U q k k';intro v w M es hW hM;cases hf:q.forced with
  |true=>
   refine qL.step (Ren.Le.refl _) (v2:=v) (w2:=w) (p:= #[]) (k:=k 0) (k':=k' 0) (fun t ht=>?_) (ku _) (fun _ _=>Z) (ku _) ?_ (nJ.refl _ _) (fun e he=>bl)<|ih 0 hW fun k k' e1 e2=>.inl<|hM k k' e1 e2
   .simp only[Sem.run,hf,lj]
   simp only[Sem.runT,hf,lj,gu]
  |false=>
   refine qL.step (Ren.Le.refl _) (v2:={v with tape:=fun j=>if j=v.drawn then w.tape w.drawn else v.tape j,drawn:=v.drawn+1}) (w2:={w with drawn:=w.drawn+1}) (p:= #[]) (k:=k<|q.cut<|w.tape w.drawn q) (k':=k'<|q.cut<|w.tape w.drawn q) (fun t ht=>?_) (Nat.le_succ _) (fun j hj=>lp aa) (ku _) ?_ ⟨ku _,fun _ _ _=>Z,Z,Z,Z⟩ (fun e he=>bl)<|ih _ (hW.same rfl rfl) fun k k' e1 e2=>.inl<|hM k k' e1 e2
   .have e1:t v.drawn=w.tape w.drawn:=by rw[ht v.drawn (iH _)];simp
    simp only[Sem.run,hf];show Sem.run P (k<|q.cut<|t v.drawn q) _=_;rw[e1];rfl
   simp only[Sem.runT,hf,gu];rfl
 |Fw t0 hf hk ih=>
  rename_i U q k s';intro v w M es hW hM;refine qL.step (Ren.Le.refl _) (v2:={v with tape:=fun j=>if j=v.drawn then fun _=>t0 else v.tape j,drawn:=v.drawn+1}) (w2:=w) (p:= #[]) (k:=k<|q.cut t0) (k':=s') (fun t ht=>?_) (Nat.le_succ _) (fun j hj=>lp aa) (ku _) (by rw[gu]) (nJ.refl _ _) (fun e he=>bl)<|ih (hW.same rfl rfl) fun k k' e1 e2=>.inl<|hM k k' e1 e2;have e1:t v.drawn=fun _=>t0:=by rw[ht v.drawn (iH _)];simp
  simp only[Sem.run,hf];show Sem.run P (k<|q.cut<|t v.drawn q) _=_;rw[e1];rfl
 |program hk ih=>rename_i U k k';intro v w M es hW hM;exact qL.step (Ren.Le.refl _) (v2:=v) (w2:=w) (p:= #[]) (k:=k P) (k':=k' P) (fun t ht=>Z) (ku _) (fun _ _=>Z) (ku _) bR (nJ.refl _ _) (fun e he=>bl)<|ih hW fun k k' e1 e2=>.inl<|hM k k' e1 e2
 |room hk ih=>rename_i U k k';intro v w M es hW hM;refine qL.step (Ren.Le.refl _) (v2:=v) (w2:=w) (p:= #[⟨.mark .noRoom,false,true⟩]) (k:=k) (k':=k') (fun t ht=>Z) (ku _) (fun _ _=>Z) (ku _) (by simp only[Sem.runT,Ke]) (nJ.refl _ _) (fun e he=>?_)<|ih hW fun k k' e1 e2=>.inl<|hM k k' e1 e2;simp only[iB,gF]at he;subst he;exact Or.inl Z
 |extern hk ih=>rename_i U f k k';intro v w M es hW hM;refine qL.step (Ren.Le.refl _) (v2:=v) (w2:=w) (p:= #[⟨.mark<|.extern f,false,true⟩]) (k:=k) (k':=k') (fun t ht=>Z) (ku _) (fun _ _=>Z) (ku _) (by simp only[Sem.runT,Ke]) (nJ.refl _ _) (fun e he=>?_)<|ih hW fun k k' e1 e2=>.inl<|hM k k' e1 e2;simp only[iB,gF]at he;subst he;exact Or.inr ⟨f,Z⟩
 |dead hd=>intro v w M es hW hM;have⟨x,v1,h1,h2⟩:=hd.run v;exact qL.bad h1 h2
end
theorem nh.bind{P:lY}{α β:Type}{s:Sem α}(h:nh P s)(f:α->Sem β):nh P (s>>= f):=by
 show nh P (s.bind f)
 induction h with
 |halt h=>exact .halt h|program _ ih=>exact .program ih|choose _ ih=>exact .choose ih|sys _ ih=>exact .sys ih|new _ ih=>exact .new ih|mark _ ih=>exact .mark ih|shape _ ih=>exact .shape ih|frozen _ ih=>exact .frozen ih
theorem bind_assoc'{α β δ:Type}:∀(s:Sem α) (g:α->Sem β) (h:β->Sem δ),(s.bind g).bind h=s.bind fun x=>(g x).bind h
 |.pure a,g,h=>rfl|.load m a k,g,h=>kY (Sem.load m a)<|funext fun v=>bind_assoc' (k v) g h
 |.store m a v k,g,h=>kY (Sem.store m a v)<|bind_assoc' k g h|.new o k,g,h=>kY (Sem.new o)<|funext fun v=>bind_assoc' (k v) g h
 |.shape r k,g,h=>kY (Sem.shape r)<|funext fun v=>bind_assoc' (k v) g h
 |.freeze a n k,g,h=>kY (Sem.freeze a n)<|bind_assoc' k g h|.frozen a k,g,h=>kY (Sem.frozen a)<|funext fun v=>bind_assoc' (k v) g h
 |.getObj r k,g,h=>kY (Sem.getObj r)<|funext fun v=>bind_assoc' (k v) g h
 |.setObj r o k,g,h=>kY (Sem.setObj r o)<|bind_assoc' k g h|.choose q k,g,h=>kY (Sem.choose q)<|funext fun v=>bind_assoc' (k v) g h
 |.sys c k,g,h=>kY (Sem.sys c)<|funext fun v=>bind_assoc' (k v) g h
 |.program k,g,h=>kY Sem.program<|funext fun v=>bind_assoc' (k v) g h
 |.mark m k,g,h=>kY (Sem.mark m)<|bind_assoc' k g h|.halt x,g,h=>rfl
theorem SR.bind{P:lY}{F:nj}{α β γ δ:Type}{Q:Ren->α->β->Prop}{Q2:Ren->γ->δ->Prop}{U:Ren}{s:Sem α}{s':Sem β}{f:α->Sem γ}{f':β->Sem δ}
  (h:SR P F Q U s s') (hf:∀mi a b,U.Le mi->Q mi a b->SR P F Q2 mi (f a) (f' b)):SR P F Q2 U (s>>= f) (s'>>= f'):=by
 show SR P F Q2 U (s.bind f) (s'.bind f')
 induction h with
 |pure h=>exact hf _ _ _ (Ren.Le.refl _) h|load ha _ ih=>exact .load ha fun v v' hv h8=>ih v v' hv h8 hf
 |store ha hv _ ih=>exact .store ha hv<|ih hf|new ho _ ih=>exact .new ho fun mi n n' aBm h1 h2=>ih mi n n' aBm h1 h2 fun Zj a b h3=>hf Zj a b<|aBm.trans h3
 |shape hr _ ih=>exact .shape hr fun s=>ih s hf
 |freeze ha ho _ ih=>exact .freeze ha ho<|ih hf|frozen ha _ ih=>exact .frozen ha fun b b' hb=>ih b b' hb hf
 |I6 _ ih=>exact .I6 fun b=>ih b hf
 |Ks _ ih=>exact .Ks fun b=>ih b hf
 |getObj hr _ ih=>exact .getObj hr fun o o' ho=>ih o o' ho hf
 |setObj hr ho _ ih=>exact .setObj hr ho<|ih hf|choose _ ih=>exact .choose fun n=>ih n hf
 |Fw t hq _ ih=>exact .Fw t hq<|ih hf|program _ ih=>exact .program<|ih hf|room _ ih=>exact .room<|ih hf|extern _ ih=>exact .extern<|ih hf|dead h=>exact .dead<|h.bind _
section
variable{P:lY}{F:nj}{α β:Type}{Q:Ren->α->β->Prop}{U:Ren}
theorem oH{γ:Type}(GA:String):nh P (stuck GA:Sem γ):=.halt (.stuck _)
theorem zt{γ:Type}{u:Unsupported}(h:∀g,u≠.initOrder g):nh P (unsupported u:Sem γ):=.halt (.pv h)
theorem yz{γ:Type}(v:lH):nh P (goPanic v:Sem γ):=.halt (.panic _)
theorem SR.stuck{GA:String}{s':Sem β}:SR P F Q U (stuck GA) s':=.dead (oH _)
theorem SR.vQ{γ:Type}{GA:String}{f:γ->Sem α}{s':Sem β}:SR P F Q U (Go.stuck GA>>= f) s':=.dead ((oH _).bind _)
theorem SR.pv{u:Unsupported}{s':Sem β}(h:∀g,u≠.initOrder g:=by intro g;simp):SR P F Q U (unsupported u) s':=.dead (zt h)
theorem SR.xF{γ:Type}{u:Unsupported}{f:γ->Sem α}{s':Sem β}(h:∀g,u≠.initOrder g:=by intro g;simp):SR P F Q U (unsupported u>>= f) s':=.dead ((zt h).bind _)
theorem SR.ret{a:α}{b:β}(h:Q U a b):SR P F Q U (Pure.pure a) (Pure.pure b):=.pure h
theorem SR.prog{f:Program->Sem α}{f':Program->Sem β}(h:SR P F Q U (f P) (f' P)):SR P F Q U (Go.program>>= f) (Go.program>>= f'):=.program h
theorem SR.DY{q:Question}{f:Nat->Sem α}{f':Nat->Sem β}(h:∀n,SR P F Q U (f n) (f' n)):SR P F Q U (Go.choose q>>= f) (Go.choose q>>= f'):=.choose h
theorem SR.Qs{m:Mode}(ha:mE U a a'){f:Value->Sem α}{f':Value->Sem β}(h:∀v v',VR F U v v'->SR P F Q U (f v) (f' v')):SR P F Q U (Go.load a m>>= f) (Go.load a' m>>= f'):=.load ha fun v v' hv _=>h v v' hv
theorem SR.aqS{m:Mode}(ha:mE U a a'){f:Value->Sem α}{f':Value->Sem β}(h:∀v v',VR F U v v'->(¬U.own a.block->∀b,v≠.int .u8 b)->SR P F Q U (f v) (f' v')):SR P F Q U (Go.load a m>>= f) (Go.load a' m>>= f'):=.load ha h
theorem SR.ES(hr:U.to r=some r'){f:Option (TypeId×Nat)->Sem α}{f':Option (TypeId×Nat)->Sem β}(h:∀s,SR P F Q U (f s) (f' s)):SR P F Q U (Go.shape r>>= f) (Go.shape r'>>= f'):=.shape hr h
theorem SR.LK(ha:mE U a a'){f:Bool->Sem α}{f':Bool->Sem β}(h:∀b b',(b'=true->b=true)->SR P F Q U (f b) (f' b')):SR P F Q U (Go.frozen a>>= f) (Go.frozen a'>>= f'):=.frozen ha h
theorem SR.Bw(hr:U.to r=some r'){f:Obj->Sem α}{f':Obj->Sem β}(h:∀o o',tT F U o o'->SR P F Q U (f o) (f' o')):SR P F Q U (Go.getObj r>>= f) (Go.getObj r'>>= f'):=.getObj hr h
theorem SR.Kq{o o':Obj}(hr:U.to r=some r')(ho:tT F U o o'){f:Unit->Sem α}{f':Unit->Sem β}(h:SR P F Q U (f ()) (f' ())):SR P F Q U (Go.setObj r o>>= f) (Go.setObj r' o'>>= f'):=.setObj hr ho h
theorem SR.news{o o':Obj}(ho:tT F U o o'){f:Nat->Sem α}{f':Nat->Sem β}(h:∀mi n n',U.Le mi->mi.to n=some n'->mi.own n->SR P F Q mi (f n) (f' n')):SR P F Q U (Go.newObj o>>= f) (Go.newObj o'>>= f'):=.new ho h
theorem SG{γ:Type}(t:lT)(f:TypeInfo->Sem γ):typeInfo t>>= f=.program fun p=>match p.info? t with
  |some i=>f i|none=>.halt (.stuck "no such type"):=by
 show Sem.program _=_;congr 1;funext p;show((match p.info? t with|some i=>Pure.pure i|none=>Go.stuck "no such type"):Sem TypeInfo).bind f=_;cases p.info? t<;>rfl
theorem SR.info{f:TypeInfo->Sem α}{f':TypeInfo->Sem β}(h:∀i,P.info? t=some i->SR P F Q U (f i) (f' i)):SR P F Q U (typeInfo t>>= f) (typeInfo t>>= f'):=by
 rw[SG,SG];apply SR.program;cases e:P.info? t with
 |some i=>exact h i e|none=>exact .dead<|.halt<|.stuck _
theorem OC{γ:Type}(t:lT)(f:TypeDesc->Sem γ):underlying t>>= f=.program fun p=>match p.underlying t with
  |some i=>f i|none=>.halt (.stuck "no such type"):=by
 show Sem.program _=_;congr 1;funext p;show((match p.underlying t with|some i=>Pure.pure i|none=>Go.stuck "no such type"):Sem TypeDesc).bind f=_;cases p.underlying t<;>rfl
theorem SR.under{f:TypeDesc->Sem α}{f':TypeDesc->Sem β}(h:∀d,P.underlying t=some d->SR P F Q U (f d) (f' d)):SR P F Q U (underlying t>>= f) (underlying t>>= f'):=by
 rw[OC,OC];apply SR.program;cases e:P.underlying t with
 |some i=>exact h i e|none=>exact .dead<|.halt<|.stuck _
end
abbrev At{α β:Type}(U:Ren)(R:α->β->Prop):Ren->α->β->Prop:=fun mi a b=>mi=U/\R a b
def zl(P:lY):Prop:=∀t i z,P.info? t=some i->i.zero=some z->Plain z
section
variable{P:lY}{F:nj}{U:Ren}
theorem SR.at{α β γ δ:Type}{R:α->β->Prop}{Q:Ren->γ->δ->Prop}{s:Sem α}{s':Sem β}{f:α->Sem γ}{f':β->Sem δ}(h:SR P F (At U R) U s s')(hf:∀a b,R a b->SR P F Q U (f a) (f' b)):
  SR P F Q U (s>>= f) (s'>>= f'):=h.bind fun mi a b _ r=>by obtain⟨e,r⟩:=r;subst e;exact hf a b r
theorem SR.eq{α γ δ:Type}{Q:Ren->γ->δ->Prop}{s s':Sem α}{f:α->Sem γ}{f':α->Sem δ}(h:SR P F (At U Eq) U s s')(hf:∀a,SR P F Q U (f a) (f' a)):
  SR P F Q U (s>>= f) (s'>>= f'):=h.at fun a b e=>e▸hf a
theorem SR.mono{α β:Type}{Q Q':Ren->α->β->Prop}{s:Sem α}{s':Sem β}(h:SR P F Q U s s')(hq:∀mi a b,U.Le mi->Q mi a b->Q' mi a b):SR P F Q' U s s':=by
 induction h with
 |pure h=>exact .pure<|hq _ _ _ (Ren.Le.refl _) h|load ha _ ih=>exact .load ha fun v v' hv h8=>ih v v' hv h8 hq
 |store ha hv _ ih=>exact .store ha hv<|ih hq|new ho _ ih=>exact .new ho fun mi n n' aBm h1 h2=>ih mi n n' aBm h1 h2 fun Zj a b h3=>hq Zj a b<|aBm.trans h3
 |shape hr _ ih=>exact .shape hr fun s=>ih s hq
 |freeze ha ho _ ih=>exact .freeze ha ho<|ih hq|frozen ha _ ih=>exact .frozen ha fun b b' hb=>ih b b' hb hq
 |I6 _ ih=>exact .I6 fun b=>ih b hq
 |Ks _ ih=>exact .Ks fun b=>ih b hq
 |getObj hr _ ih=>exact .getObj hr fun o o' ho=>ih o o' ho hq
 |setObj hr ho _ ih=>exact .setObj hr ho<|ih hq|choose _ ih=>exact .choose fun n=>ih n hq
 |Fw t wH _ ih=>exact .Fw t wH<|ih hq|program _ ih=>exact .program<|ih hq|room _ ih=>exact .room<|ih hq|extern _ ih=>exact .extern<|ih hq|dead h=>exact .dead h
theorem LF{γ:Type}{f:Program->Sem γ}(h:nh P (f P)):nh P (program>>= f):=.program h
theorem OM{γ:Type}{f:TypeDesc->Sem γ}(h:∀d,nh P (f d)):nh P (underlying t>>= f):=by
 rw[OC];refine .program ?_;cases P.underlying t with
 |some d=>exact h d|none=>exact .halt<|.stuck _
theorem akT{γ:Type}{f:TypeInfo->Sem γ}(h:∀d,nh P (f d)):nh P (typeInfo t>>= f):=by
 rw[SG];refine .program ?_;cases P.info? t with
 |some d=>exact h d|none=>exact .halt<|.stuck _
theorem zr{γ:Type}(e:RuntimeError):nh P (runtimePanic e:Sem γ):=by
 unfold runtimePanic;apply LF;have xY:∀(t:lT) (f:TypeId->Sem γ),(∀e,nh P<|f e)->nh P (elemOf t>>= f):=by
  intro t f hf;have e:elemOf t>>= f=underlying t>>= fun d=>(match d with|.pointer e=>f e|_=>(Go.stuck "pointer type expected" :Sem TypeId)>>= f):=by show((underlying t).bind _).bind f=(underlying t).bind _;rw[bind_assoc'];congr 1;funext d;cases d<;>rfl
  rw[e];refine OM fun d=>?_;cases d<;>first|exact hf _|exact(oH _).bind _
 cases e with
 |bounds x y s c=>exact yz _|error m=>exact yz _|plain m=>exact yz _|nilDeref=>exact yz _|typeAssertion i c a m=>exact xY _ _ fun e=>.new fun n=>yz _
 |panicNil=>exact xY _ _ fun e=>.new fun n=>yz _
 |unhashable t=>exact yz _
theorem SR.rt{α β:Type}{Q:Ren->α->β->Prop}{e:RuntimeError}{s':Sem β}:SR P F Q U (runtimePanic e) s':=.dead (zr _)
theorem SR.EP{α β γ:Type}{Q:Ren->α->β->Prop}{e:RuntimeError}{f:γ->Sem α}{s':Sem β}:SR P F Q U (runtimePanic e>>= f) s':=.dead ((zr _).bind _)
theorem akS{γ:Type}(k:IntKind)(x y:Int)(c:BoundsCode):nh P (boundsPanic k x y c:Sem γ):=by
 unfold boundsPanic;split
 .exact .choose fun n=>zr<|.bounds (IntKind.i64.wrap x) y (n==1) c
 exact zr<|.bounds (IntKind.i64.wrap x) y (k != .u64) c
theorem SR.bp{α β:Type}{Q:Ren->α->β->Prop}{k:IntKind}{x y:Int}{c:BoundsCode}{s':Sem β}:SR P F Q U (boundsPanic k x y c) s':=.dead (akS _ _ _ _)
theorem tq(t:lT):SR P F (At U Eq) U (sizeOf t) (sizeOf t):=.info fun i hi=>.ret ⟨rfl,rfl⟩
theorem agN(t:lT):SR P F (At U Eq) U (isAgg t) (isAgg t):=.under fun d hd=>by cases d<;>exact .ret ⟨rfl,rfl⟩
theorem avJ(t:lT):SR P F (At U Eq) U (elemOf t) (elemOf t):=.under fun d hd=>by cases d<;>first|exact .ret ⟨rfl,rfl⟩|exact .stuck
theorem Dp(hz:zl P)(t:lT):SR P F (At U (VR F U)) U (zeroValue t) (zeroValue t):=.info fun i hi=>by
 cases e:i.zero with
 |some z=>exact .ret ⟨rfl,hz t i z hi e F U⟩|none=>exact .pv
theorem ag0(t:lT):SR P F (At U Eq) U (typeStr t) (typeStr t):=.info fun i hi=>by
 dsimp only;split
 .exact .pv
 exact .ret ⟨Z,Z⟩
theorem NN(h:VR F U v v'):SR P F (At U Eq) U (asIntOf v) (asIntOf v'):=by
 unfold asIntOf;split
 .cases h;exact .ret ⟨rfl,rfl⟩
 .exact .pv
 exact .stuck
theorem EU(h:VR F U v v'):SR P F (At U Eq) U (asInt v) (asInt v'):=(NN h).eq fun x=>.ret ⟨rfl,rfl⟩
theorem YP(h:VR F U v v'):SR P F (At U Eq) U (asBool v) (asBool v'):=by
 unfold asBool;split
 .cases h;exact .ret ⟨rfl,rfl⟩
 exact .stuck
theorem avp(h:VR F U v v'):SR P F (At U (AR (VR F U))) U (asAgg v) (asAgg v'):=by
 unfold asAgg;split
 .cases h with
  |agg h1 h2=>exact .ret ⟨rfl,h1,h2⟩
 exact .stuck
theorem NM(h:VR F U v v'):SR P F (At U (mE U)) U (asAddr v) (asAddr v'):=by
 unfold asAddr;split
 .cases h with
  |ptr h=>exact .ret ⟨rfl,h⟩
 .exact .rt
 exact .stuck
theorem NP(h:VR F U v v'):SR P F (At U (mE U)) U (Instr.sureAddr v) (Instr.sureAddr v'):=by
 unfold Instr.sureAddr;split
 .cases h with
  |ptr h=>exact .ret ⟨rfl,h⟩
 exact .stuck
theorem agO{a a':Addr}(ha:mE U a a'):∀(n i:Nat) {c c':lW},AR (VR F U) c c'->SR P F (At U (AR (VR F U))) U (loadCellsFrom a i n c) (loadCellsFrom a' i n c')
 |0,_,_,_,h=>.ret ⟨rfl,h⟩|n+1,i,c,c',h=>.Qs (ha.add i) fun v v' hv=>agO ha n (i+1)<|h.push hv
theorem Rx(ha:mE U a a')(n:Nat):SR P F (At U (AR (VR F U))) U (loadCells a n) (loadCells a' n):=agO ha n 0 .nil
theorem avZ{m:Mode}(ha:mE U a a'):SR P F (At U (VR F U)) U (load a m) (load a' m):=.load ha fun v v' hv _=>.pure ⟨rfl,hv⟩
theorem Gt(t:lT)(ha:mE U a a'):SR P F (At U (VR F U)) U (loadVar t a) (loadVar t a'):=by
 refine(agN t).eq fun b=>?_;cases b with
 |true=>exact(tq t).eq fun n=>(Rx ha n).at fun c c' h=>.ret ⟨rfl,.Bd h⟩
 |false=>exact avZ ha
theorem Kx{a a':Addr}(ha:mE U a a'):∀{l l':mb} (i:Nat),LR (VR F U) l l'->SR P F (At U fun _ _=>True) U (storeCells a l i) (storeCells a' l' i)
 |[],[],_,.nil=>.ret ⟨rfl,trivial⟩|v::l,v'::l',i,.cons h t=>.store (ha.add i) h<|Kx ha (i+1) t
theorem YZ(t:lT)(ha:mE U a a')(hv:VR F U v v'):SR P F (At U fun _ _=>True) U (storeVar t a v) (storeVar t a' v'):=by
 refine(tq t).eq fun n=>?_;have hc:=hv.cells;rw[hc.1];split
 .exact .vQ
 exact Kx ha 0 hc.lr
def ZH:Ren->Addr->Addr->Prop:=fun U a a'=>mE U a a'/\U.own a.block
theorem Gu(e:lT)(h:AR (VR F U) c c'):SR P F ZH U (newRow e c) (newRow e c'):=
 .news (.cells e _ h) fun mi n n' aBm h1 h2=>.ret ⟨⟨h1,rfl,rfl⟩,h2⟩
theorem YW(t:lT)(h:VR F U v v'):SR P F ZH U (newVar t v) (newVar t v'):=Gu t h.cells
theorem EV(t:lT)(h:AR (VR F U) c c')(o:Nat):SR P F (At U (VR F U)) U (part t c o) (part t c' o):=by
 refine(agN t).eq fun b=>?_;cases b with
 |true=>exact(tq t).eq fun n=>.ret ⟨rfl,.Bd<|h.extract _ _⟩
 |false=>
  simp only[gy,kZ];rcases e:c[o]? with _|x
  .exact .stuck
  have⟨y,hy,hr⟩:=h.get e;rw[hy];exact .ret ⟨rfl,hr⟩
theorem ag3(hr:U.to r=some r'):SR P F (At U fun a b=>a=none/\b=none) U (viewAt r) (viewAt r'):=by
 refine .ES hr fun s=>?_;cases s with
 |some x=>exact .ret ⟨rfl,rfl,rfl⟩|none=>exact .Bw hr fun o o' ho=>by cases ho<;>exact .ret ⟨rfl,rfl,rfl⟩
theorem agT(hr:U.to r=some r'):SR P F (At U (OR fun a b=>mE U a.1 b.1/\a.2=b.2)) U (numberAt r) (numberAt r'):=by
 refine .ES hr fun s=>?_;cases s with
 |some x=>exact .ret ⟨rfl,.none⟩|none=>exact .Bw hr fun o o' ho=>by cases ho<;>first|exact .ret ⟨rfl,.none⟩|exact .ret ⟨rfl,.some ⟨‹_›,rfl⟩⟩
theorem xC(ha:mE U a a'):SR P F (At U fun x y=>mE U x.1 y.1/\x.2=y.2) U (behindNumber a) (behindNumber a'):=(agT ha.1).at fun x y h=>.ret ⟨rfl,h.getD ⟨ha,rfl⟩⟩
theorem NO(ha:mE U a a'):SR P F (At U fun _ _=>True) U (noView a) (noView a'):=(ag3 ha.1).at fun x y h=>by obtain⟨rfl,rfl⟩:=h;exact .ret ⟨rfl,trivial⟩
theorem avq(ha:mE U a a')(l:Bool):SR P F (fun U=>VR F U) U (asNumber a l) (asNumber a' l):=
 .news (.number l ha) fun mi n n' aBm h1 h2=>.ret<|.ptr ⟨h1,rfl,rfl⟩
theorem agY(ha:mE U a a'):SR P F (At U fun b b'=>b'=true->b=true) U (stringish a) (stringish a'):=by
 refine .LK ha fun b b' hb=>?_;cases b with
 |true=>
  cases b' with
  |true=>exact .ret ⟨rfl,fun _=>rfl⟩|false=>
   simp only[gy,kZ,lj];refine .Ks fun s=>?_;cases s with
   |some x=>exact .I6 fun c=>.pure ⟨rfl,fun _=>rfl⟩
   |none=>exact .ret ⟨rfl,fun _=>rfl⟩
 |false=>
  cases b' with
  |true=>exact ll (hb rfl) aq|false=>
   refine .ES ha.1 fun s=>?_;cases s with
   |some x=>exact .frozen ⟨ha.1,rfl,rfl⟩ fun c c' hc=>.pure ⟨rfl,hc⟩
   |none=>exact .ret ⟨rfl,aq⟩
theorem agQ(ha:mE U a a')(hb:mE U b b'):SR P F (At U fun b b'=>b'=true->b=true) U (mayBeOne a b) (mayBeOne a' b'):=by refine(agY ha).at fun sa sa' h1=>(agY hb).at fun sb sb' h2=>?_;have hn:∀{x x':Addr},mE U x x'->SR P F (At U Eq) U (do pure ((<-shape x.block) matches some (_,0)):Sem Bool) (do pure ((<-shape x'.block) matches some (_,0))):=fun hx=>.ES hx.1 fun s=>.ret ⟨rfl,rfl⟩;refine(hn ha).eq fun na=>(hn hb).eq fun nb=>.ret ⟨Z,?_⟩;cases sa<;>cases sb<;>cases sa'<;>cases sb'<;>simp_all
theorem agX(ha:mE U a a')(hb:mE U b b'):SR P F (At U Eq) U (sameAddr a b) (sameAddr a' b'):=by
 unfold sameAddr;have h1:(a'.block==b'.block)=(a.block==b.block):=by rw[iO];simpa using ha.SH hb
 have h2:(a'==b')=(a==b):=by rw[iO];simpa using ha.eq_iff hb
 rw[h1];split
 .exact .ret ⟨Z,h2.symm⟩
 refine .LK ha fun fa TK e1=>.LK hb fun fb TO e2=>?_;by_cases hf:(fa&&fb)
 .rw[lq hf];exact .xF
 have BL:¬(TK&&TO):=by intro e;simp only[ij]at e hf;exact hf ⟨e1 e.1,e2 e.2⟩
 rw[lp hf,lp BL];refine(NO ha).at fun _ _ _=>(NO hb).at fun _ _ _=>(agQ ha hb).at fun m m' hm=>?_;cases m with
 |true=>
  cases m' with
  |true=>exact .DY fun n=>.ret ⟨rfl,rfl⟩
  |false=>exact .Fw 0 rfl<|.ret ⟨rfl,rfl⟩
 |false=>
  cases m' with
  |true=>exact ll (hm rfl) aq|false=>exact .ret ⟨rfl,rfl⟩
theorem Rz{a a' b b':lO}(ha:OR (mE U) a a')(hb:OR (mE U) b b'):SR P F (At U Eq) U (samePointer a b) (samePointer a' b'):=by cases ha<;>cases hb<;>first|exact agX ‹_› ‹_›|exact .ret ⟨rfl,rfl⟩
theorem Ik(ha:mE U a a'):SR P F (At U Eq) U (byteOf a) (byteOf a'):=by
 unfold byteOf;rw[ha.2.2];cases a.spot with
 |some s=>exact .ret ⟨rfl,rfl⟩|none=>
  refine .prog<|(NO ha).at fun _ _ _=>.ES ha.1 fun s=>?_;cases s with
  |none=>exact .stuck|some x=>
   dsimp only;rw[ha.2.1];split
   .exact .ret ⟨Z,Z⟩
   split
   .exact .ret ⟨Z,Z⟩
   exact .stuck
theorem awh(ha:mE U a a')(c b:Nat):SR P F (At U (mE U)) U (partAt a c b) (partAt a' c b):=by
 unfold partAt;refine(Ik ha).eq fun n=>?_;have hp:mE U {block:=a.block,off:=a.off+c} {block:=a'.block,off:=a'.off+c}:=⟨ha.1,by simp[ha.2.1],rfl⟩
 refine(Ik hp).eq fun m=>.ret ⟨Z,?_⟩;split
 .exact hp
 exact⟨ha.1,by simp[ha.2.1],rfl⟩
theorem YQ(ha:mE U a a')(f:Field):SR P F (At U (mE U)) U (fieldPlace a f) (fieldPlace a' f):=by
 unfold fieldPlace;refine(tq _).eq fun n=>?_;split
 .exact awh ha _ _
 exact .ret ⟨Z,ha.add _⟩
theorem aww(ha:mE U a a')(u:lT)(n:Nat):SR P F (At U Eq) U (variablesAt a u n) (variablesAt a' u n):=by
 unfold variablesAt;refine .prog<|.ES ha.1 fun s=>?_;cases s with
 |none=>exact .ret ⟨rfl,rfl⟩|some x=>exact .ret ⟨rfl,by rw[ha.2.1]⟩
end
section
variable{P:lY}{F:nj}{U:Ren}
theorem SR.TY{γ δ:Type}{g g':γ->δ->Sem (ForInStep δ)}(h:∀a b,SR P F (At U Eq) U (g a b) (g' a b)):∀(l:List γ) (b:δ),SR P F (At U Eq) U (forIn l b g) (forIn l b g')
 |[],b=>by rw[jv,jv];exact .ret ⟨rfl,rfl⟩
 |a::l,b=>by
  rw[iX,iX];refine(h a b).eq fun s=>?_;cases s with
  |done b=>exact .ret ⟨rfl,rfl⟩|yield b=>exact SR.TY h l b
theorem SR.forA{γ δ:Type}{g g':γ->δ->Sem (ForInStep δ)}(h:∀a b,SR P F (At U Eq) U (g a b) (g' a b))(l:Array γ)(b:δ):SR P F (At U Eq) U (forIn l b g) (forIn l b g'):=by rw[<-gw,<-gw];exact SR.TY h _ _
theorem SR.alY{δ:Type}{g g':Nat->δ->Sem (ForInStep δ)}(h:∀a b,SR P F (At U Eq) U (g a b) (g' a b))(r:Std.Legacy.Range)(b:δ):SR P F (At U Eq) U (forIn r b g) (forIn r b g'):=by rw[dQ,dQ];exact SR.TY h _ _
theorem mE.xQ{G:Nat}(hG:G<=U.base)(h:mE U a a'):(a'.block<G)=(a.block<G):=by
 apply propext;constructor
 .intro e;have:=U.low _ _ h.1<|.inr aa;omega
 intro e;have:=U.low _ _ h.1<|.inl aa;omega
theorem mE.beq(h:mE U a a')(k:mE U b b'):(a'==b')=(a==b):=by rw[iO];simpa using h.eq_iff k
theorem mE.aah(h:mE U a a')(k:mE U b b'):(a'.block==b'.block)=(a.block==b.block):=by rw[iO];simpa using h.SH k
theorem Ru(hG:P.globals.size<=U.base):∀(d:Nat) (t:lT) {x x' y y':lH},VR F U x x'->VR F U y y'->SR P F (At U Eq) U (Op.equalIn d t x y) (Op.equalIn d t x' y')
 |0,_,_,_,_,_,_,_=>.pv|d+1,t,x,x',y,y',hx,hy=>by
  unfold Op.equalIn;refine .under fun ty oE=>?_;split
  all_goals try exact .stuck
  all_goals try exact .pv
  all_goals try (cases hx;cases hy;exact .ret ⟨rfl,rfl⟩;done)
  case h_2=>
   cases hx;cases hy;dsimp only;split
   .exact .ret ⟨Z,Z⟩
   exact .stuck
  case h_5=>
   cases hx with
   |ptr ha=>cases hy with
    |ptr hb=>
     refine(xC ha).at fun a a' h1=>(xC hb).at fun b b' h2=>.prog ?_;have e1:=h1.1.aah h2.1;have e2:=h1.1.beq h2.1;have e3:decide (a'.1.block<P.globals.size)=decide (a.1.block<P.globals.size):=by simp only[h1.1.xQ hG]
     simp only[e1,e2,e3];split
     .exact(Ik h1.1).eq fun n=>(Ik h2.1).eq fun m=>.ret ⟨Z,Z⟩
     refine .info fun i hi=>?_;split
     .split
      .exact .ret ⟨Z,Z⟩
      exact .pv
     exact .pv
  case h_8=>cases hx
  case h_9=>cases hx
  case h_11=>
   cases hx;cases hy with
   |rA=>exact .ret ⟨rfl,rfl⟩|ptr h=>exact .ret ⟨rfl,rfl⟩
  case h_12=>
   cases hy;cases hx with
   |rA=>simp_all|ptr h=>exact .ret ⟨rfl,rfl⟩
  case h_13=>
   cases hx with
   |ptr ha=>cases hy with
    |ptr hb=>
     refine(tq _).eq fun n=>?_;have e2:=ha.beq hb;split
     .exact agX ha hb
     simp only[e2];split
     .exact .ret ⟨Z,Z⟩
     exact .DY fun n=>.ret ⟨Z,Z⟩
  case h_14=>
   cases hx with
   |rA=>cases hy with
    |rA=>exact Rz .none .none|ptr h=>exact Rz .none<|.some h
   |ptr h=>cases hy with
    |rA=>exact Rz (.some h) .none|ptr h'=>exact Rz (.some h)<|.some h'
  case h_15=>
   cases hx with
   |yy=>cases hy with
    |yy=>exact .ret ⟨rfl,rfl⟩|chan h=>exact .ret ⟨rfl,rfl⟩
   |chan h=>cases hy with
    |yy=>exact .ret ⟨rfl,rfl⟩|chan h'=>
     refine .ret ⟨Z,?_⟩;rw[iO];simp only[kM,ia];constructor
     .intro e;subst e;exact jl<|h.symm.trans h'
     intro e;subst e;exact U.inj _ _ _ h h'
  case h_19=>
   cases hx with
   |iface t1 ha=>cases hy with
    |iface t2 hb=>
     dsimp only;split
     .exact .ret ⟨Z,Z⟩
     refine .info fun i hi=>?_;split
     .refine .prog<|.prog ?_;split
      .exact .xF
      exact(ag0 _).eq fun n=>.rt
     exact Ru hG d _ ha hb
  case h_20=>
   cases hx with
   |agg h1 h2=>cases hy with
    |agg h3 h4=>
     refine .prog ?_;split
     .exact .xF
     refine SR.eq (SR.forA (fun f b=>?_) _ _) fun r=>?_
     .split
      .exact(EV _ ⟨h1,h2⟩ _).at fun u u' hu=>(EV _ ⟨h3,h4⟩ _).at fun y y' hy=>(Ru hG d _ hu hy).eq fun q=>by cases q<;>exact .ret ⟨rfl,rfl⟩
      exact .ret ⟨Z,Z⟩
     have⟨r,u⟩:=r;cases r<;>exact .ret ⟨rfl,rfl⟩
  case h_21=>
   cases hx with
   |agg h1 h2=>cases hy with
    |agg h3 h4=>
     refine(tq _).eq fun n=>SR.eq (SR.alY (fun f b=>?_) _ _) fun r=>?_
     .exact(EV _ ⟨h1,h2⟩ _).at fun u u' hu=>(EV _ ⟨h3,h4⟩ _).at fun y y' hy=>(Ru hG d _ hu hy).eq fun q=>by cases q<;>exact .ret ⟨rfl,rfl⟩
     have⟨r,u⟩:=r;cases r<;>exact .ret ⟨rfl,rfl⟩
  case h_22=>cases hx;cases hy<;>exact .ret ⟨rfl,rfl⟩
  case h_23=>
   cases hy;cases hx with
   |qI=>simp_all|slice l c h=>exact .ret ⟨rfl,rfl⟩|tn a=>exact .ret ⟨rfl,rfl⟩
  case h_24=>cases hx;cases hy<;>exact .ret ⟨rfl,rfl⟩
  case h_25=>
   cases hy;cases hx with
   |xz=>simp_all|map h=>exact .ret ⟨rfl,rfl⟩
  case h_27=>cases hx;cases hy<;>exact .ret ⟨rfl,rfl⟩
  case h_28=>cases hy;cases hx<;>exact .ret ⟨rfl,rfl⟩
theorem Im(hG:P.globals.size<=U.base)(t:lT){x:lH}(hx:VR F U x x')(hy:VR F U y y'):SR P F (At U Eq) U (Op.equal t x y) (Op.equal t x' y'):=Ru hG _ _ hx hy
def OV(P:lY)(t:lT):Bool:= !P.eqGuardType P.depth t||match P.underlying t with
 |some (.struct _)|some (.array _ _)=>false|_=>true
theorem avM:∀(d:Nat) (t:lT),SR P F (At U Eq) U (Op.eqGuardIn d t .nilIface .nilIface) (Op.eqGuardIn d t .nilIface .nilIface)
 |0,_=>.pv|d+1,t=>by unfold Op.eqGuardIn;refine .under fun ty oE=>?_;cases ty<;>exact .ret ⟨rfl,rfl⟩
theorem avK(t:lT)(ht:(match P.underlying t with
 |some (.struct _)|some (.array _ _)=>false
 |_=>true)=true)(xs ys RV RX:lW):∀(d:Nat),SR P F (At U Eq) U (Op.eqGuardIn d t (.agg xs) (.agg ys)) (Op.eqGuardIn d t (.agg RV) (.agg RX))
 |0=>.pv|d+1=>by unfold Op.eqGuardIn;refine .under fun ty oE=>?_;rw[oE]at ht;cases ty<;>first|exact .ret ⟨rfl,rfl⟩|exact ll ht aq
theorem avL(op:BinOp)(t:lT)(x y:mN){a a' b b':lH}(ha:VR F U a a')(hb:VR F U b b')(ht:OV P t)(Md:a≠.tuple #[])(sj:b≠.tuple #[]):SR P F (At U fun _ _=>True) U (eqGuard op t x y a b) (eqGuard op t x y a' b'):=by
 unfold eqGuard;cases op
 all_goals try exact .ret ⟨rfl,trivial⟩
 all_goals
  simp only[jH,gy,kZ];split
  .cases ha;cases hb;cases x<;>cases y
   all_goals
    simp only[Bool.or_self,Bool.true_or,Bool.or_true,gy,kZ,lj]
    first
     |exact .ret ⟨rfl,trivial⟩|exact(avM _ _).eq fun q=>cG
  .cases ha with
   |agg h1 h2=>cases hb with
    |agg h3 h4=>
     refine .prog<|.prog ?_;unfold OV at ht;rw[iP]at ht;split
     .exact .ret ⟨Z,trivial⟩
     next hg=>exact(avK t (ht.resolve_left hg) _ _ _ _ _).eq fun q=>cG
  rename_i n1 n2;split
  .cases ha with
   |hole=>exact ll rfl Md|_=>cases hb with
    |hole=>exact ll rfl sj|_=>exact ll rfl<|n1 rfl
  .cases ha with
   |hole=>exact ll rfl Md|_=>cases hb with
    |hole=>exact ll rfl sj|_=>exact ll rfl<|n2 _ _ rfl
  exact .ret ⟨Z,trivial⟩
theorem aaU:∀(d:Nat) (t:lT) (y:lH),nh P (Op.equalIn d t (.tuple #[]) y)/\nh P (Op.equalIn d t y (.tuple #[]))
 |0,_,_=>⟨zt aq,zt aq⟩
 |d+1,t,y=>by
  constructor<;>unfold Op.equalIn
  all_goals
   refine OM fun ty=>?_;split<;>first
    |exact oH _|(refine zt ?_;simp;done)|contradiction|simp_all
theorem OL(op:BinOp)(t:lT)(y:lH):nh P (binOp op t (.tuple #[]) y)/\nh P (binOp op t y (.tuple #[])):=by
 have h:=aaU (P:=P) Op.maxDepth t y;constructor<;>unfold binOp
 .split<;>first|exact oH _|exact nh.bind h.1 _|(refine zt ?_;simp;done)|contradiction|simp_all
 split<;>first|exact oH _|exact nh.bind h.2 _|(refine zt ?_;simp;done)|contradiction|simp_all
inductive zh(P:lY):Sem Value->Prop where
 |pure {v:lH}:Plain v->zh P (.pure v)|choose {q:Question} {k:Nat->Sem Value}:(∀n,zh P<|k n)->zh P (.choose q k)|dead {s:Sem Value}:nh P s->zh P s
theorem Kz{s:Sem Value}(h:zh P s):SR P F (At U (VR F U)) U s s:=by
 induction h with
 |pure h=>exact .pure ⟨rfl,h F U⟩|choose _ ih=>exact .choose ih|dead h=>exact .dead h
theorem QU(k:IntKind)(n:Int):Plain (.int k n):=fun _ _=>.int k n
theorem aeW(b:Bool):Plain (.bool b):=fun _ _=>.bool b
theorem as7(b:ByteArray):Plain (.string b):=fun _ _=>.string b
theorem ahi(op:BinOp)(k:IntKind)(x y:Int):zh P (Op.intArith op k x y):=by unfold Op.intArith;split<;>first|exact .pure (QU _ _)|exact .dead<|oH _
theorem awY(op:BinOp)(k:IntKind)(x y:Int):zh P (Op.intDiv op k x y):=by
 unfold Op.intDiv;split
 .exact .dead<|zr _
 split<;>first|exact .pure (QU _ _)|exact .dead<|oH _
theorem ahj(op:BinOp)(k:IntKind)(x y:Int):zh P (Op.intBits op k x y):=by unfold Op.intBits;dsimp only;split<;>first|exact .pure (QU _ _)|exact .dead<|oH _
theorem awX(op:BinOp)(x y:Int):zh P (Op.intCmp op x y):=by unfold Op.intCmp;split<;>first|exact .pure (aeW _)|exact .dead<|oH _
theorem ahk(op:BinOp)(k:IntKind)(x:Int)(yk:IntKind)(y:Int):zh P (Op.shift op k x yk y):=by
 unfold Op.shift;split
 .exact .dead<|zr _
 dsimp only;split<;>first|exact .pure (QU _ _)|exact .dead<|oH _
theorem Y6(op:BinOp)(x y:ByteArray):zh P (Op.stringOp op x y):=by
 unfold Op.stringOp;dsimp only;split
 .split
  .exact .dead<|zt aq
  exact .pure<|as7 _
 all_goals first|exact .pure (aeW _)|exact .dead<|oH _
theorem ag2(t:lT)(ha:mE U a a'){n n':lH}(hn:VR F U n n'):SR P F (At U fun v v'=>VR F U v v'/\∃b,v=.pointer (some b)) U (Builtin.unsafeAdd_ #[] t #[.pointer (some a),n]) (Builtin.unsafeAdd_ #[] t #[.pointer (some a'),n']):=by
 unfold Builtin.unsafeAdd_;refine(EU hn).eq fun n=>?_;dsimp only;split
 .refine(ag3 ha.1).at fun u u' hu=>?_;obtain⟨rfl,rfl⟩:=hu;exact .ret ⟨Z,.ptr ha,_,Z⟩
 split
 .exact .xF
 refine .ES ha.1 fun s=>?_;cases s with
 |none=>exact .pv|some s=>
  refine .prog ?_;rw[ha.2.1];split
  .exact .ret ⟨Z,.ptr ⟨ha.1,Z,ha.2.2⟩,_,Z⟩
  exact .pv
theorem Y2(t:lT){x n n':lH}(hx:VR F U x x')(hn:VR F U n n'):SR P F (At U (VR F U)) U (Builtin.unsafeAdd_ #[] t #[x,n]) (Builtin.unsafeAdd_ #[] t #[x',n']):=by
 cases hx with
 |ptr h=>exact(ag2 t h hn).mono fun mi a b _ r=>⟨r.1,r.2.1⟩
 |rA=>
  unfold Builtin.unsafeAdd_;refine(EU hn).eq fun n=>?_;dsimp only;split
  .exact .pv
  split
  .exact .xF
  exact .pv
 |_=>exact .stuck
theorem nV{s s':Sem Value}(h:SR P F (At U (VR F U)) U s s'):SR P F (fun U=>VR F U) U s s':=h.mono fun mi a b _ r=>by obtain⟨e,r⟩:=r;subst e;exact r
theorem YV(t:lT){x:lH}(hx:VR F U x x')(hy:VR F U y y'):SR P F (fun U=>VR F U) U (movedNumber t x y) (movedNumber t x' y'):=by
 unfold movedNumber;refine .under fun d hd=>?_;dsimp only;split
 .exact .xF
 simp only[gy,kZ];cases hx with
 |ptr hx=>
  refine(xC hx).at fun p p' hp=>?_;have⟨a1,l⟩:=p;obtain⟨a2,l'⟩:=p';obtain⟨h1,h2⟩:=hp;dsimp only at h1 h2|-;subst h2;refine(ag2 t h1 hy).at fun v v' hv=>?_;obtain⟨hv,b,rfl⟩:=hv;cases hv with
  |ptr hv=>exact avq hv _
 |rA=>exact nV<|Y2 t .rA hy|_=>exact .stuck
theorem awb(t:lT){x:lH}(hx:VR F U x x')(hy:VR F U y y'):SR P F (At U (VR F U)) U (movedPointer t x y) (movedPointer t x' y'):=by
 unfold movedPointer;cases hx with
 |ptr hx=>
  refine(agT hx.1).at fun u u' hu=>?_;cases hu with
  |none=>exact Y2 t (.ptr hx) hy|some h=>exact .xF
 |rA=>exact Y2 t .rA hy|_=>exact .stuck
theorem agZ(hG:P.globals.size<=U.base)(ha:mE U a a')(hb:mE U b b'):SR P F (At U Eq) U (Op.twoPlaces a b) (Op.twoPlaces a' b'):=by
 unfold Op.twoPlaces;have e1:=ha.aah hb;have e3:decide (a'.block>=P.globals.size)=decide (a.block>=P.globals.size):=by
  have:=ha.xQ hG;rw[iL];constructor
  .intro h;exact iF fun h'=>by rw[<-this]at h';omega
  intro h;exact iF fun h'=>by rw[this]at h';omega
 refine .prog ?_;simp only[bne,e1,e3];split
 .exact .xF
 exact(Ik ha).eq fun n=>(Ik hb).eq fun m=>.ret ⟨Z,Z⟩
theorem Rp(hG:P.globals.size<=U.base)(op:BinOp)(ha:mE U a a')(hb:mE U b b'):SR P F (At U (VR F U)) U (Op.addrCmp op a b) (Op.addrCmp op a' b'):=by refine(agZ hG ha hb).eq fun n=>?_;cases op<;>first|exact .ret ⟨rfl,.bool _⟩|exact .pv
theorem avl(hG:P.globals.size<=U.base)(k:IntKind)(ha:mE U a a')(hb:mE U b b'):SR P F (At U (VR F U)) U (Op.addrSub k a b) (Op.addrSub k a' b'):=(agZ hG ha hb).eq fun n=>.ret ⟨rfl,.int _ _⟩
theorem YN(k:IntKind)(ha:mE U a a')(n:Int):SR P F (At U (VR F U)) U (Op.addrMod k a n) (Op.addrMod k a' n):=by
 unfold Op.addrMod;refine .ES ha.1 fun s=>?_;cases s with
 |none=>exact .pv|some s=>
  refine .info fun i hi=>?_;dsimp only;split
  .exact .xF
  exact(Ik ha).eq fun n=>.ret ⟨Z,.int _ _⟩
theorem awZ(op:BinOp)(t:lT)(k k':IntKind)(a b:Int):zh P (binOp op t (.int k a) (.int k' b)):=by
 by_cases h:k=k'
 .subst h;cases op
  all_goals unfold binOp
  all_goals dsimp only
  all_goals try rw[lp (fun e=>e rfl)]
  all_goals first
   |exact ahi _ _ _ _|exact awY _ _ _ _|exact ahj _ _ _ _|exact awX _ _ _|exact ahk _ _ _ _ _
 cases op
 all_goals unfold binOp
 all_goals dsimp only
 all_goals try rw[lq h]
 all_goals first
  |exact .dead<|oH _|exact ahk _ _ _ _ _
theorem aw0(op:BinOp)(t:lT)(a b:ByteArray):zh P (binOp op t (.string a) (.string b)):=by
 cases op
 all_goals unfold binOp
 all_goals dsimp only
 all_goals exact Y6 _ _ _
theorem agG(hG:P.globals.size<=U.base)(op:BinOp)(t:lT){a a':lO}(hx:VR F U (.pointer a) (.pointer a'))(hy:VR F U y y'):SR P F (fun U=>VR F U) U (binOp op t (.pointer a) y) (binOp op t (.pointer a') y'):=by
 unfold binOp;split
 all_goals try exact .stuck
 all_goals try exact .pv
 all_goals try contradiction
 all_goals try (injections;done)
 case h_7=>exact nV<|(Im hG t hx hy).eq fun q=>.ret ⟨rfl,.bool _⟩
 case h_8=>exact nV<|(Im hG t hx hy).eq fun q=>.ret ⟨rfl,.bool _⟩
 case h_9=>cases hy;refine .under fun d hd=>?_;cases d<;>first|exact nV (awb t hx<|.int _ _)|exact YV t hx<|.int _ _
 case h_11=>cases hy;exact YV t hx<|.int _ _
 case h_12 e=>
  cases e;cases hx with
  |ptr hx=>cases hy with
   |ptr hy=>exact nV<|(xC hx).at fun p p' hp=>(xC hy).at fun q q' hq=>avl hG _ hp.1 hq.1
 case h_13 e=>
  cases e;cases hx with
  |ptr hx=>cases hy with
   |ptr hy=>exact nV<|(xC hx).at fun p p' hp=>(xC hy).at fun q q' hq=>Rp hG _ hp.1 hq.1
 case h_14 e=>
  cases e;cases hx with
  |ptr hx=>cases hy with
   |ptr hy=>exact nV<|(xC hx).at fun p p' hp=>(xC hy).at fun q q' hq=>Rp hG _ hp.1 hq.1
 case h_15 e=>
  cases e;cases hx with
  |ptr hx=>cases hy with
   |ptr hy=>exact nV<|(xC hx).at fun p p' hp=>(xC hy).at fun q q' hq=>Rp hG _ hp.1 hq.1
 case h_16 e=>
  cases e;cases hx with
  |ptr hx=>cases hy with
   |ptr hy=>exact nV<|(xC hx).at fun p p' hp=>(xC hy).at fun q q' hq=>Rp hG _ hp.1 hq.1
 case h_17 e=>
  cases e;cases hx with
  |ptr hx=>cases hy with
   |int k n=>exact nV<|(xC hx).at fun p p' hp=>YN _ hp.1 _
 case h_18 e=>
  cases e;cases hx with
  |ptr hx=>cases hy with
   |int k n=>exact nV<|(xC hx).at fun p p' hp=>YN _ hp.1 _
theorem agH(hG:P.globals.size<=U.base)(op:BinOp)(t:lT){a a':lO}(hx:VR F U (.pointer a) (.pointer a'))(hy:VR F U y y')(hn:∀b,y≠.pointer b)(BW:y≠.tuple #[]):SR P F (fun U=>VR F U) U (binOp op t y (.pointer a)) (binOp op t y' (.pointer a')):=by
 unfold binOp;split
 all_goals try exact .stuck
 all_goals try exact .pv
 all_goals try contradiction
 all_goals try (injections;done)
 all_goals try exact ll rfl<|hn _
 case h_7=>have h0:=Im (F:=F) hG t hy hx;cases hy<;>first|exact ll rfl BW|exact nV (h0.eq fun q=>.ret ⟨rfl,.bool _⟩)|exact ll rfl<|hn _
 case h_8=>have h0:=Im (F:=F) hG t hy hx;cases hy<;>first|exact ll rfl BW|exact nV (h0.eq fun q=>.ret ⟨rfl,.bool _⟩)|exact ll rfl<|hn _
 case h_10=>cases hy;exact YV t hx<|.int _ _
 case h_19 e=>
  cases e;cases hx with
  |ptr hx=>cases hy with
   |int k n=>exact nV<|(xC hx).at fun p p' hp=>YN _ hp.1 _
theorem avr(hG:P.globals.size<=U.base)(op:BinOp)(t:lT){x:lH}(hx:VR F U x x')(hy:VR F U y y')(h1:∀b,x≠.pointer b)(h2:∀b,y≠.pointer b)(vF:x≠.tuple #[])(BW:y≠.tuple #[]):SR P F (fun U=>VR F U) U (binOp op t x y) (binOp op t x' y'):=by
 have key:∀{x y},(∀b,x≠.pointer b)->(∀b,y≠.pointer b)->(∀k a k' b,x=.int k a->y≠.int k' b)->(∀a b,x=.string a->y≠.string b)->(∀k a k' b,x=.float k a->y≠.float k' b)->(∀k a c k' b d,x=.complex k a c->y≠.complex k' b d)->
   binOp op t x y=(match op with|.eql=>(do pure (.bool<|<-Op.equal t x y):Sem Value)|.neq=>(do pure (.bool<|!(<-Op.equal t x y)):Sem Value)|_=>stuck "BinOp: no such operator on these operands"):=by
  intro x y g1 g2 g3 g4 g5 g6;unfold binOp;split
  all_goals try rfl
  all_goals try exact ll rfl<|g1 _
  all_goals try exact ll rfl<|g2 _
  all_goals try exact ll rfl<|g3 _ _ _ _ rfl
  all_goals try exact ll rfl<|g4 _ _ rfl
  all_goals try exact ll rfl<|g5 _ _ _ _ rfl
  all_goals try exact ll rfl<|g6 _ _ _ _ _ _ rfl
  split
  .simp_all
  .simp_all
  rfl
 by_cases hi:∃k a k' b,x=.int k a/\y=.int k' b
 .obtain⟨k,a,k',b,rfl,rfl⟩:=hi;cases hx;cases hy;exact nV<|Kz<|awZ _ _ _ _ _ _
 by_cases hs:∃a b,x=.string a/\y=.string b
 .obtain⟨a,b,rfl,rfl⟩:=hs;cases hx;cases hy;exact nV<|Kz<|aw0 _ _ _ _
 rw[key h1 h2 (fun k a k' b e1 e2=>hi ⟨k,a,k',b,e1,e2⟩) (fun a b e1 e2=>hs ⟨a,b,e1,e2⟩) (fun k a k' b e1 e2=>by subst e1;cases hx) (fun k a c k' b d e1 e2=>by subst e1;cases hx)]
 rw[key (fun b e=>by
   subst e;cases hx with
   |hole=>exact vF rfl|_=>exact h1 _ rfl) (fun b e=>by
   subst e;cases hy with
   |hole=>exact BW rfl|_=>exact h2 _ rfl) (fun k a k' b e1 e2=>by
   subst e1;subst e2;cases hx with
   |hole=>exact vF rfl|int=>cases hy with
    |hole=>exact BW rfl
    |int=>exact hi ⟨_,_,_,_,rfl,rfl⟩)
  (fun a b e1 e2=>by
   subst e1;subst e2;cases hx with
   |hole=>exact vF rfl|string=>cases hy with
    |hole=>exact BW rfl|string=>exact hs ⟨_,_,rfl,rfl⟩) (fun k a k' b e1 e2=>by
   subst e1;cases hx with
   |hole=>exact vF rfl) (fun k a c k' b d e1 e2=>by
   subst e1;cases hx with
   |hole=>exact vF rfl)]
 split
 .exact nV<|(Im hG t hx hy).eq fun q=>.ret ⟨Z,.bool _⟩
 .exact nV<|(Im hG t hx hy).eq fun q=>.ret ⟨Z,.bool _⟩
 exact .stuck
theorem avs(hG:P.globals.size<=U.base)(op:BinOp)(t:lT){x:lH}(hx:VR F U x x')(hy:VR F U y y'):SR P F (fun U=>VR F U) U (binOp op t x y) (binOp op t x' y'):=by
 by_cases vF:x=.tuple #[]
 .subst vF;exact .dead (OL op t y).1
 by_cases BW:y=.tuple #[]
 .subst BW;exact .dead (OL op t x).2
 by_cases h1:∃b,x=.pointer b
 .obtain⟨b,rfl⟩:=h1;cases hx with
  |rA=>exact agG hG op t .rA hy|ptr h=>exact agG hG op t (.ptr h) hy
 by_cases h2:∃b,y=.pointer b
 .obtain⟨b,rfl⟩:=h2;have hn:∀b,x≠.pointer b:=fun b e=>h1 ⟨b,e⟩;cases hy with
  |rA=>exact agH hG op t .rA hx hn vF|ptr h=>exact agH hG op t (.ptr h) hx hn vF
 exact avr hG op t hx hy (fun b e=>h1 ⟨b,e⟩) (fun b e=>h2 ⟨b,e⟩) vF BW
theorem aaV(op:BinOp)(t:lT)(x y:mN)(a b:lH)(h:a=.tuple #[]\/b=.tuple #[]):nh P (eqGuard op t x y a b>>= fun _=>binOp op t a b):=by
 have e:eqGuard op t x y a b=pure ():=by unfold eqGuard;cases op<;>first|rfl|(rcases h with rfl|rfl<;>first|rfl|(cases a<;>rfl)|(cases b<;>rfl))
 rw[e];show nh P (binOp op t a b);rcases h with rfl|rfl
 .exact(OL op t b).1
 exact(OL op t a).2
theorem avR(hG:P.globals.size<=U.base)(op:BinOp)(t:lT)(x y:mN){a a' b b':lH}(ha:VR F U a a')(hb:VR F U b b')(ht:OV P t):SR P F (fun U=>VR F U) U (eqGuard op t x y a b>>= fun _=>binOp op t a b) (eqGuard op t x y a' b'>>= fun _=>binOp op t a' b'):=by
 by_cases Md:a=.tuple #[]
 .exact .dead<|aaV op t x y a b<|.inl Md
 by_cases sj:b=.tuple #[]
 .exact .dead<|aaV op t x y a b<|.inr sj
 exact(avL op t x y ha hb ht Md sj).at fun _ _ _=>avs hG op t ha hb
theorem awu(op:UnOp){x:lH}(hx:VR F U x x'):SR P F (At U (VR F U)) U (Op.unary op x) (Op.unary op x'):=by
 unfold Op.unary;split
 all_goals try exact .stuck
 all_goals try exact .pv
 all_goals cases hx
 .exact Kz<|ahi _ _ _ _
 .exact Kz<|ahj _ _ _ _
 exact .ret ⟨Z,.bool _⟩
end
section
variable{P:lY}{F:nj}{U:Ren}
theorem avm(hz:zl P)(e:lT):SR P F (fun U=>VR F U) U (Instr.alloc e true (.tuple #[])) (Instr.alloc e true (.tuple #[])):=(Dp hz e).at fun z z' h=>(YW e h).bind fun mi a a' aBm hq=>.ret<|.ptr hq.1
theorem avv(e:lT)(h:VR F U v v'):SR P F (fun U=>VR F U) U (Instr.box e v) (Instr.box e v'):=(YW e h).bind fun mi a a' aBm hq=>.ret<|.ptr hq.1
theorem av0(t:lT)(h:VR F U v v'):SR P F (At U (VR F U)) U (Instr.loadAt t v) (Instr.loadAt t v'):=(NP h).at fun a a' ha=>Gt t ha
theorem awp(t:lT){x:lH}(h:VR F U v v')(hx:VR F U x x'):SR P F (At U fun _ _=>True) U (Instr.storeAt t v x) (Instr.storeAt t v' x'):=(NP h).at fun a a' ha=>YZ t ha hx
theorem avQ(t:lT)(h:VR F U v v')(n:Nat):SR P F (At U (VR F U)) U (Instr.fieldAt t v n) (Instr.fieldAt t v' n):=by
 unfold Instr.fieldAt;refine .under fun d hd=>?_;cases d<;>try exact .stuck
 dsimp only;split
 .exact(NP h).at fun a a' ha=>(YQ ha _).at fun b b' hb=>.ret ⟨Z,.ptr hb⟩
 exact .stuck
theorem avP(t:lT)(h:VR F U v v')(n:Nat):SR P F (At U (VR F U)) U (Instr.field t v n) (Instr.field t v' n):=by
 unfold Instr.field;refine .under fun d hd=>?_;cases d<;>try exact .stuck
 dsimp only;split
 .exact(avp h).at fun c c' hc=>EV _ hc _
 exact .stuck
theorem SR.mapA{γ δ:Type}{g g':γ->Sem δ}(h:∀a,SR P F (At U Eq) U (g a) (g' a))(l:Array γ):SR P F (At U Eq) U (l.mapM g) (l.mapM g'):=by
 have key:∀l:List γ,SR P F (At U Eq) U (l.mapM g) (l.mapM g'):=by
  intro l
  induction l with
  |nil=>exact .ret ⟨rfl,rfl⟩|cons a l ih=>rw[jw,jw];exact(h a).eq fun x=>ih.eq fun y=>.ret ⟨rfl,rfl⟩
 rw[eC,eC];exact(key _).eq fun x=>.ret ⟨Z,Z⟩
def R8(F:nj)(U:Ren)(p p':Nat×Value):Prop:=p.1=p'.1/\VR F U p.2 p'.2
theorem abu{off:Nat}:∀{l l':mb},LR (VR F U) l l'->∀(k:Nat) {c c':lW},AR (VR F U) c c'->
  AR (VR F U) ((l.zipIdx k).foldl (fun cs (x,j)=>cs.setIfInBounds (off+j) x) c) ((l'.zipIdx k).foldl (fun cs (x,j)=>cs.setIfInBounds (off+j) x) c')
 |_,_,.nil,_,_,_,h=>h|_,_,.cons (x:=x) (y:=y) hx t,k,c,c',h=>by rw[iE,iE,iW,iW];exact abu t (k+1)<|h.set (off+k) hx
theorem LJ(place:Nat->Option (Nat×Nat)):∀{l l':vq} {c c':lW},LR (R8 F U) l l'->AR (VR F U) c c'->OR (AR (VR F U)) (Instr.fill place c l) (Instr.fill place c' l')
 |_,_,c,c',.nil,h=>.some h|_,_,c,c',.cons (x:=(i,v)) (y:=(i',v')) hx t,h=>by
  obtain⟨e,hv⟩:=hx;dsimp only at e hv;subst e;unfold Instr.fill;cases place i with
  |none=>exact .none|some p=>
   obtain⟨off,size⟩:=p;have hc:=hv.cells;dsimp only;rw[hc.1,h.1];split
   .exact .none
   apply LJ place t;have:=abu (off:=off) hc.lr 0 h;rw[<-Array.foldl_toList,<-Array.foldl_toList,Array.toList_zipIdx,Array.toList_zipIdx];exact this
theorem avw(hz:zl P)(t:lT){p p':Array (Nat×Value)}(h:AR (R8 F U) p p'):SR P F (At U (VR F U)) U (Instr.build t p) (Instr.build t p'):=by
 unfold Instr.build;refine(Dp hz t).at fun z z' oM=>.under fun d hd=>?_;cases d<;>try exact .stuck
 .refine(tq _).eq fun n=>?_;have:=LJ (fun i=>some (i*n,n)) h.lr oM.cells;generalize Instr.fill _ z.cells p.toList=o at this|-;generalize Instr.fill _ z'.cells p'.toList=o' at this|-;cases this with
  |none=>exact .stuck|some h=>exact .ret ⟨rfl,.Bd h⟩
 refine SR.eq (SR.mapA (fun f:Field=>(tq f.type).eq fun n=>.ret ⟨Z,Z⟩) _) fun pl=>?_;have:=LJ (pl[·]?) h.lr oM.cells;generalize Instr.fill _ z.cells p.toList=o at this|-;generalize Instr.fill _ z'.cells p'.toList=o' at this|-;cases this with
 |none=>exact .stuck|some h=>exact .ret ⟨rfl,.Bd h⟩
theorem AR.aag{z z':lW}(h:AR (VR F U) z z')(i:Nat):VR F U z[i]! z'[i]!:=by
 rw[getElem!_def,getElem!_def];have:=h.opt i;generalize z[i]?=o at this|-;generalize z'[i]?=o' at this|-;cases this with
 |none=>exact VR.bool _|some h=>exact h
theorem AR.ym{z z':lW}(h:AR (VR F U) z z')(n:Nat):AR (VR F U) ((Array.range n).map (fun i=>z[i%z.size]!)) ((Array.range n).map (fun i=>z'[i%z'.size]!)):=by rw[<-h.1];exact AR.same fun i _=>h.aag _
theorem agI(e:lT)(n:Nat)(GA:String){o o':Option (Array Value)}(h:OR (AR (VR F U)) o o'):SR P F (fun U=>VR F U) U
  (match (generalizing:=false) o with|some cells=>(do pure (.slice (some<|<-newRow e cells) n n):Sem Value)|_=>stuck GA) (match (generalizing:=false) o' with|some cells=>(do pure (.slice (some<|<-newRow e cells) n n):Sem Value)|_=>stuck GA):=by
 cases h with
 |none=>exact .stuck|some h=>exact(Gu _ h).bind fun mi a a' aBm hq=>.ret<|.slice _ _ hq.1
theorem avx(hz:zl P)(t:lT)(len:Nat){p p':Array (Nat×Value)}(h:AR (R8 F U) p p'):SR P F (fun U=>VR F U) U (Instr.buildSlice t len p) (Instr.buildSlice t len p'):=by
 unfold Instr.buildSlice;refine .under fun d hd=>?_;cases d<;>try exact .stuck
 refine(tq _).eq fun n=>?_;dsimp only;split
 .exact .xF
 split
 .exact agI _ _ _<|LJ _ h.lr<|AR.ym .nil _
 exact(Dp hz _).at fun z z' oM=>agI _ _ _<|LJ _ h.lr<|oM.cells.ym _
theorem YO(n:Nat):SR P F (At U fun _ _=>True) U (askRoom n) (askRoom n):=by
 unfold askRoom;split
 .exact .room<|.pure ⟨Z,trivial⟩
 exact .ret ⟨Z,trivial⟩
theorem av4(hz:zl P)(t:lT){l l' c c':lH}(hl:VR F U l l')(hc:VR F U c c'):SR P F (fun U=>VR F U) U (Instr.makeSlice t l c) (Instr.makeSlice t l' c'):=by
 unfold Instr.makeSlice;refine .under fun d hd=>?_;cases d<;>try exact .stuck
 refine(EU hl).eq fun l=>(EU hc).eq fun c=>.info fun i hi=>?_;dsimp only;split
 .refine .dead ?_;split
  .exact(zr _).bind _
  split
  .exact(zr _).bind _
  exact .choose fun n=>(zr<|.error<|if n==1 then "makeslice: cap out of range" else "makeslice: len out of range").bind _
 refine(YO _).at fun _ _ _=>(tq _).eq fun n=>?_;split
 .exact(Gu _<|AR.ym .nil _).bind fun mi a a' aBm hq=>.ret<|.slice _ _ hq.1
 exact(Dp hz _).at fun z z' oM=>(Gu _<|oM.cells.ym _).bind fun mi a a' aBm hq=>.ret<|.slice _ _ hq.1
theorem mE.opt{a a':lO}(h:OR (mE U) a a')(n:Nat):OR (mE U) (a.map (·.add n)) (a'.map (·.add n)):=h.map fun _ _ h=>h.add n
theorem VR.agy{a a':lO}(h:OR (mE U) a a')(l c:Nat):VR F U (.slice a l c) (.slice a' l c):=by
 cases h with
 |none=>exact .qI l c|some h=>exact .slice l c h
theorem Dn(h:VR F U v v')(y:Nat)(c:BoundsCode):SR P F (At U Eq) U (Instr.sliceBound v y c) (Instr.sliceBound v' y c):=by
 unfold Instr.sliceBound;refine(NN h).eq fun k=>?_;dsimp only;split
 .exact .ret ⟨Z,Z⟩
 exact .bp
theorem Rs(b:Bool)(len cap:Nat){l l' h h' m m':Option Value}(hl:OR (VR F U) l l')(hh:OR (VR F U) h h')(hm:OR (VR F U) m m'):SR P F (At U Eq) U (Instr.sliceBounds b len cap l h m) (Instr.sliceBounds b len cap l' h' m'):=by
 unfold Instr.sliceBounds;cases hm with
 |none=>cases hh with
  |none=>cases hl with
   |none=>exact .ret ⟨rfl,rfl⟩|some hl=>exact(Dn hl _ _).eq fun n=>.ret ⟨rfl,rfl⟩
  |some hh=>cases hl with
   |none=>exact(Dn hh _ _).eq fun n=>.ret ⟨rfl,rfl⟩
   |some hl=>exact(Dn hh _ _).eq fun n=>(Dn hl _ _).eq fun m=>.ret ⟨rfl,rfl⟩
 |some hm=>cases hh with
  |none=>exact(Dn hm _ _).eq fun c=>.vQ
  |some hh=>cases hl with
   |none=>exact(Dn hm _ _).eq fun c=>(Dn hh _ _).eq fun n=>.ret ⟨rfl,rfl⟩
   |some hl=>exact(Dn hm _ _).eq fun c=>(Dn hh _ _).eq fun n=>(Dn hl _ _).eq fun m=>.ret ⟨rfl,rfl⟩
theorem avt(h:VR F U v v')(c:BoundsCode):SR P F (At U fun a b=>a=0/\b=0) U (Instr.sliceBound v 0 c) (Instr.sliceBound v' 0 c):=by
 unfold Instr.sliceBound;refine(NN h).eq fun k=>?_;dsimp only;split
 .rename_i hk;exact .ret ⟨Z,aa,aa⟩
 exact .bp
theorem avu{l l' h h' m m':Option Value}(hl:OR (VR F U) l l')(hh:OR (VR F U) h h')(hm:OR (VR F U) m m'):SR P F (At U fun a b=>a=(0,0,0)/\b=(0,0,0)) U (Instr.sliceBounds true 0 0 l h m) (Instr.sliceBounds true 0 0 l' h' m'):=by
 unfold Instr.sliceBounds;have b0:∀{v v':lH},VR F U v v'->∀(x x':Nat) (c:BoundsCode),x=0/\x'=0->SR P F (At U fun a b=>a=0/\b=0) U (Instr.sliceBound v x c) (Instr.sliceBound v' x' c):=fun h x x' c e=>by obtain⟨rfl,rfl⟩:=e;exact avt h c
 have fin:∀{x x' y y' z z':Nat},x=0/\x'=0->y=0/\y'=0->z=0/\z'=0->SR P F (At U fun(a b:Nat×Nat×Nat)=>a=(0,0,0)/\b=(0,0,0)) U (pure (x,y,z)) (pure (x',y',z')):=fun e1 e2 e3=>by obtain⟨rfl,rfl⟩:=e1;obtain⟨rfl,rfl⟩:=e2;obtain⟨rfl,rfl⟩:=e3;exact .ret ⟨Z,Z,Z⟩
 cases hm with
 |none=>cases hh with
  |none=>cases hl with
   |none=>exact fin ⟨rfl,rfl⟩ ⟨rfl,rfl⟩ ⟨rfl,rfl⟩|some hl=>exact(b0 hl _ _ _ ⟨rfl,rfl⟩).at fun n n' e=>fin e ⟨rfl,rfl⟩ ⟨rfl,rfl⟩
  |some hh=>cases hl with
   |none=>exact(b0 hh _ _ _ ⟨rfl,rfl⟩).at fun n n' e=>fin ⟨rfl,rfl⟩ e ⟨rfl,rfl⟩
   |some hl=>exact(b0 hh _ _ _ ⟨rfl,rfl⟩).at fun n n' e=>(b0 hl _ _ _ e).at fun m m' e'=>fin e' e ⟨rfl,rfl⟩
 |some hm=>cases hh with
  |none=>exact(b0 hm _ _ _ ⟨rfl,rfl⟩).at fun c c' e=>.vQ
  |some hh=>cases hl with
   |none=>exact(b0 hm _ _ _ ⟨rfl,rfl⟩).at fun c c' e=>(b0 hh _ _ _ e).at fun n n' e'=>fin ⟨rfl,rfl⟩ e' e
   |some hl=>exact(b0 hm _ _ _ ⟨rfl,rfl⟩).at fun c c' e=>(b0 hh _ _ _ e).at fun n n' e'=>(b0 hl _ _ _ e').at fun m m' e''=>fin e'' e' e
theorem awn(t:lT){x:lH}(hx:VR F U x x'){l l' h h' m m':Option Value}(hl:OR (VR F U) l l')(hh:OR (VR F U) h h')(hm:OR (VR F U) m m'):SR P F (At U (VR F U)) U (Instr.slice t x l h m) (Instr.slice t x' l' h' m'):=by
 unfold Instr.slice;refine .under fun d hd=>?_;split
 all_goals try exact .stuck
 case h_1=>
  cases hx;dsimp only;cases hm with
  |none=>exact(Rs _ _ _ hl hh .none).eq fun n=>.ret ⟨rfl,.string _⟩
  |some _=>exact .vQ
 case h_2=>
  have key:∀{a a':lO} (ha:OR (mE U) a a') (e:lT) (len cap:Nat),SR P F (At U<|VR F U) U (do let(l,h,m)<-Instr.sliceBounds true len cap l h m;let size<-sizeOf e;pure (.slice (if m=l then a else a.map (·.add (l*size))) (h-l)<|m-l))
    (do let(l,h,m)<-Instr.sliceBounds true len cap l' h' m';let size<-sizeOf e;pure (.slice (if m=l then a' else a'.map (·.add (l*size))) (h-l)<|m-l)):=by
   intro a a' ha e len cap;refine(Rs _ _ _ hl hh hm).eq fun n=>(tq _).eq fun s=>.ret ⟨Z,?_⟩;split
   .exact .agy ha _ _
   exact .agy (mE.opt ha _) _ _
  cases hx with
  |qI l c=>exact key .none _ _ _|slice l c ha=>exact key (.some ha) _ _ _|tn a=>refine(avu hl hh hm).at fun n n' e=>?_;obtain⟨rfl,rfl⟩:=e;exact(tq _).eq fun s=>.ret ⟨Z,(.tn _)⟩
 case h_3=>
  have key:∀{a a':Addr} (ha:mE U a a') (n:Nat) (e:lT),SR P F (At U<|VR F U) U (do let(l,h,m)<-Instr.sliceBounds false n n l h m;let size<-sizeOf e;pure (.slice (some<|if m=l then a else a.add (l*size)) (h-l)<|m-l))
    (do let(l,h,m)<-Instr.sliceBounds false n n l' h' m';let size<-sizeOf e;pure (.slice (some<|if m=l then a' else a'.add (l*size)) (h-l)<|m-l)):=by
   intro a a' ha n e;refine(Rs _ _ _ hl hh hm).eq fun n=>(tq _).eq fun s=>.ret ⟨Z,?_⟩;split
   .exact .slice _ _ ha
   exact .slice _ _<|ha.add _
  refine(NM hx).at fun a a' ha=>.under fun d2 uk=>?_;cases d2<;>try exact .stuck
  exact key ha _ _
theorem awo(t:lT){x:lH}(hx:VR F U x x'){l l' h h' m m':Option Value}(hl:OR (VR F U) l l')(hh:OR (VR F U) h h')(hm:OR (VR F U) m m'):SR P F (At U (VR F U)) U (Instr.sliceAt t x l h m) (Instr.sliceAt t x' l' h' m'):=by
 unfold Instr.sliceAt;refine .under fun d hd=>?_;cases d<;>try exact awn t hx hl hh hm
 refine(NP hx).at fun a a' ha=>(Rs _ _ _ hl hh hm).eq fun n=>(tq _).eq fun s=>.ret ⟨Z,?_⟩;split
 .exact .slice _ _ ha
 exact .slice _ _<|ha.add _
theorem avT(t:lT){x i i':lH}(hx:VR F U x x')(hi:VR F U i i'):SR P F (At U (VR F U)) U (Instr.indexAt t x i) (Instr.indexAt t x' i'):=by
 unfold Instr.indexAt;refine(NN hi).eq fun k=>.under fun d hd=>?_;have key:∀{b b':lO} (hb:OR (mE U) b b') (len:Nat) (elem:lT) (Y9:Bool),SR P F (At U<|VR F U) U
   (match (generalizing:=false) b with
    |some a=>if 0<=k.2/\k.2<len then(do pure (.pointer<|some<|a.add<|k.2.toNat*(<-sizeOf elem)):Sem Value)else if Y9 then unsupported (.noEntry "op/indexAddr.an index out of range at an array of length 0 or 1 (ledger 616)")else boundsPanic k.1 k.2 len .index
    |none=>boundsPanic k.1 k.2 0 .index)
   (match (generalizing:=false) b' with
    |some a=>if 0<=k.2/\k.2<len then(do pure (.pointer<|some<|a.add<|k.2.toNat*(<-sizeOf elem)):Sem Value)else if Y9 then unsupported (.noEntry "op/indexAddr.an index out of range at an array of length 0 or 1 (ledger 616)")else boundsPanic k.1 k.2 len .index
    |none=>boundsPanic k.1 k.2 0 .index):=by
  intro b b' hb len elem Y9;cases hb with
  |none=>exact .bp|some hb=>
   dsimp only;split
   .exact(tq _).eq fun n=>.ret ⟨Z,.ptr<|hb.add _⟩
   split
   .exact .pv
   exact .bp
 split
 .exact(NP hx).at fun a a' ha=>.under fun d2 uk=>key (.some ha) _ _ _
 .cases hx with
  |qI l c=>exact .under fun d2 uk=>.bp
  |slice l c ha=>exact .under fun d2 uk=>key (.some ha) _ _ _
  |tn a=>
   refine .under fun d2 uk=>?_;have hk:¬(0<=k.2/\k.2<((0:Nat):Int)):=aa;dsimp only;rw[lp hk];split
   .exact .pv
   exact .bp
 exact .vQ
theorem avS(t:lT){x i i':lH}(hx:VR F U x x')(hi:VR F U i i'):SR P F (At U (VR F U)) U (Instr.index t x i) (Instr.index t x' i'):=by
 unfold Instr.index;refine(NN hi).eq fun k=>.under fun d hd=>?_;split
 .cases hx with
  |agg h1 h2=>
   dsimp only;split
   .exact(tq _).eq fun n=>EV _ ⟨h1,h2⟩ _
   exact .bp
 .cases hx;dsimp only;split
  .exact .ret ⟨Z,.int _ _⟩
  exact .bp
 exact .stuck
end
section
variable{P:lY}{F:nj}{U:Ren}
theorem SR.abC{γ:Type}{g g':γ->PUnit->Sem (ForInStep PUnit)}(h:∀a,SR P F (At U fun x y=>x=.yield ⟨⟩/\y=.yield ⟨⟩) U (g a ⟨⟩) (g' a ⟨⟩))(l:List γ):SR P F (At U fun _ _=>True) U (forIn l PUnit.unit g) (forIn l PUnit.unit g'):=by
 induction l with
 |nil=>rw[jv,jv];exact .ret ⟨rfl,trivial⟩|cons a l ih=>rw[iX,iX];refine(h a).at fun s s' hs=>?_;obtain⟨rfl,rfl⟩:=hs;exact ih
theorem SR.alZ{γ:Type}{g g':γ->PUnit->Sem (ForInStep PUnit)}(h:∀a,SR P F (At U fun x y=>x=.yield ⟨⟩/\y=.yield ⟨⟩) U (g a ⟨⟩) (g' a ⟨⟩))(l:Array γ):SR P F (At U fun _ _=>True) U (forIn l PUnit.unit g) (forIn l PUnit.unit g'):=by rw[<-gw,<-gw];exact SR.abC h _
theorem SR.al0{g g':Nat->PUnit->Sem (ForInStep PUnit)}(h:∀a,SR P F (At U fun x y=>x=.yield ⟨⟩/\y=.yield ⟨⟩) U (g a ⟨⟩) (g' a ⟨⟩))(r:Std.Legacy.Range):SR P F (At U fun _ _=>True) U (forIn r PUnit.unit g) (forIn r PUnit.unit g'):=by rw[dQ,dQ];exact SR.abC h _
theorem Il(e:Bool):∀(n:Nat) (t:lT) {v v':lH},VR F U v v'->SR P F (At U fun _ _=>True) U (Instr.checkKey e n t v) (Instr.checkKey e n t v')
 |0,_,_,_,_=>.pv|n+1,t,v,v',hv=>by
  unfold Instr.checkKey;refine .under fun d hd=>?_;split
  case h_1=>
   cases hv with
   |iface t1 hv=>
    refine .info fun i hi=>?_;split
    .split
     .exact .EP
     exact(ag0 _).eq fun s=>.EP
    exact Il e n _ hv
  case h_2=>
   cases hv with
   |agg h1 h2=>exact SR.at (SR.al0 (fun i=>(tq _).eq fun s=>(EV _ ⟨h1,h2⟩ _).at fun u u' hu=>(Il e n _ hu).at fun _ _ _=>.ret ⟨Z,Z,Z⟩) _) fun _ _ _=>.ret ⟨Z,trivial⟩
  case h_3=>
   cases hv with
   |agg h1 h2=>
    refine SR.at (SR.alZ (fun f=>?_) _) fun _ _ _=>.ret ⟨Z,trivial⟩;split
    .exact(EV _ ⟨h1,h2⟩ _).at fun u u' hu=>(Il e n _ hu).at fun _ _ _=>.ret ⟨Z,Z,Z⟩
    exact .ret ⟨Z,Z,Z⟩
  case h_4=>cases hv;exact .ret ⟨rfl,trivial⟩
  case h_5=>exact .stuck
  case h_6=>exact .stuck
  case h_7=>exact .stuck
  case h_8=>
   split
   all_goals first
    |exact .ret ⟨rfl,trivial⟩|(exfalso;simp_all;done)
def R2(F:nj)(U:Ren):Option (Nat×Value)->Option (Nat×Value)->Prop:=OR fun a b=>a.1=b.1/\VR F U a.2 b.2
theorem agL(hG:P.globals.size<=U.base)(t:lT){k k':lH}(hk:VR F U k k'):∀{l l':List MapEntry} (i:Nat),LR (AU F U) l l'->SR P F (At U (R2 F U)) U (Instr.findAsking t k l i) (Instr.findAsking t k' l' i)
 |[],[],_,.nil=>.ret ⟨rfl,.none⟩|_::_,_::_,i,.cons (.mk b h1 h2) tl=>by
  unfold Instr.findAsking;refine(Im hG t hk h1).eq fun q=>?_;cases q with
  |true=>exact .ret ⟨rfl,.some ⟨rfl,h2⟩⟩|false=>exact agL hG t hk (i+1) tl
theorem agn(d:TypeDesc)(hk:VR F U k k')(hv:VR F U v v')(r:Bool)(hr:Instr.sameNow d k v=some r):Instr.sameNow d k' v'=some r:=by
 unfold Instr.sameNow at hr;split at hr
 all_goals first
  |(cases hk;cases hv;exact hr)|(exact ll hr aq)
theorem auR(d:TypeDesc)(hk:VR F U k k')(hv:VR F U v v')(h:Instr.sameNow d k v=none):Instr.sameNow d k' v'=none\/k=.tuple #[]\/v=.tuple #[]:=by
 by_cases h1:k=.tuple #[]
 .exact .inr<|.inl h1
 by_cases h2:v=.tuple #[]
 .exact .inr<|.inr h2
 refine .inl ?_;cases h':Instr.sameNow d k' v' with
 |none=>rfl|some r=>
  exfalso;unfold Instr.sameNow at h';split at h'
  all_goals first
   |(cases hk with
     |hole=>exact h1 rfl|_=>cases hv with
      |hole=>exact h2 rfl
      |_=>exact ll (h.symm.trans h') aq)
   |(exact ll h' aq)
theorem axd{γ:Type}{d:TypeDesc}{f:TypeDesc->Sem γ}(hd:P.underlying t=some d)(h:nh P (f d)):nh P (underlying t>>= f):=by rw[OC];refine .program ?_;rw[hd];exact h
theorem eq_false{d:TypeDesc}{n:Nat}(hd:P.underlying t=some d)(hs:Instr.sameNow d k v=some false){γ:Type}(f:Bool->Sem γ)(hf:nh P (f false)):nh P (Op.equalIn (n+1) t k v>>= f):=by
 unfold Op.equalIn;show nh P (Sem.bind (Sem.bind _ _) f);rw[bind_assoc'];apply axd (d:=d) hd;unfold Instr.sameNow at hs;split at hs
 .dsimp only;split at hs
  .next h=>rw[lq h];injection hs with hs;rw[hs];exact hf
  cases hs
 .injection hs with hs;dsimp only;rw[hs];exact hf
 .injection hs with hs;dsimp only;rw[hs];exact hf
 cases hs
theorem aaT(t:lT){d:TypeDesc}(hd:P.underlying t=some d){k k':lH}(hk:VR F U k k'):∀{l l':List MapEntry} (i j:Nat) (r:Option (Nat×Value)),LR (AU F U) l l'->Instr.findNow d k l i=none->Instr.findNow d k' l' i=some r->nh P (Instr.findAsking t k l j)
 |[],[],i,j,r,.nil,h,_=>by simp[Instr.findNow]at h
 |_::_,_::_,i,j,r,.cons (.mk (k:=kk) b h1 h2) tl,h,h'=>by
  unfold Instr.findNow at h h';unfold Instr.findAsking;dsimp only at h h'|-;have he:=aaU (P:=P) Op.maxDepth t;cases hs:Instr.sameNow d k kk with
  |none=>
   rcases auR d hk h1 hs with hn|rfl|rfl
   .rw[hn]at h';cases h'
   .exact nh.bind (he _).1 _
   exact nh.bind (he _).2 _
  |some q=>
   rw[hs]at h;rw[agn d hk h1 q hs]at h';cases q with
   |true=>cases h
   |false=>have ih:=aaT t hd hk (i+1) (j+1) r tl h h';exact eq_false (n:=9999) hd hs _ ih
theorem abw(d:TypeDesc){k k':lH}(hk:VR F U k k'):∀{l l':List MapEntry} (i:Nat) (r:Option (Nat×Value)),LR (AU F U) l l'->Instr.findNow d k l i=some r->∃r',Instr.findNow d k' l' i=some r'/\R2 F U r r'
 |[],[],i,r,.nil,h=>by simp only[Instr.findNow,ia]at h;subst h;exact⟨none,Z,.none⟩
 |_::_,_::_,i,r,.cons (.mk b h1 h2) tl,h=>by
  unfold Instr.findNow at h|-;dsimp only at h|-;cases hs:Instr.sameNow d k _ with
  |none=>rw[hs]at h;cases h
  |some q=>
   rw[hs]at h;rw[agn d hk h1 q hs];cases q with
   |true=>injection h with h;subst h;exact⟨_,Z,.some ⟨Z,h2⟩⟩
   |false=>exact abw d hk (i+1) r tl h
theorem YR(hG:P.globals.size<=U.base)(t:lT)(hk:VR F U k k'){l l':List MapEntry}(hl:LR (AU F U) l l'):SR P F (At U (R2 F U)) U (Instr.findKey t k l) (Instr.findKey t k' l'):=by
 unfold Instr.findKey;refine .under fun d hd=>?_;cases h:Instr.findNow d k l 0 with
 |none=>
  cases h':Instr.findNow d k' l' 0 with
  |none=>exact agL hG t hk 0 hl|some r=>exact .dead<|aaT t hd hk 0 0 r hl h h'
 |some r=>have⟨r',e,hr⟩:=abw d hk 0 r hl h;rw[e];exact .ret ⟨Z,hr⟩
theorem av1(hz:zl P)(hG:P.globals.size<=U.base)(t:lT){x:lH}(hx:VR F U x x')(hk:VR F U k k')(ok:Bool):SR P F (At U (VR F U)) U (Instr.lookup t x k ok) (Instr.lookup t x' k' ok):=by
 unfold Instr.lookup;refine .under fun d hd=>?_;cases d<;>try exact .stuck
 rename_i key elem;have tail:∀{es es':Array MapEntry},AR (AU F U) es es'->SR P F (At U<|VR F U) U
   (do Instr.checkKey es.isEmpty 10000 key k
       let(v,o)<-match<-Instr.findKey key k es.toList with
        |some (_,v)=>pure (v,true)|none=>pure (<-zeroValue elem,false)
       pure (if ok then .tuple #[v,.bool o]else v))
   (do Instr.checkKey es'.isEmpty 10000 key k'
       let(v,o)<-match<-Instr.findKey key k' es'.toList with
        |some (_,v)=>pure (v,true)|none=>pure (<-zeroValue elem,false)
       pure (if ok then .tuple #[v,.bool o]else v)):=by
  intro es es' he;have hr:∀{v v':lH} (b:Bool),VR F U v v'->SR P F (At U<|VR F U) U (pure<|if ok then .tuple #[v,.bool b]else v) (pure<|if ok then .tuple #[v',.bool b]else v'):=by
   intro v v' b hv;cases ok with
   |true=>exact .ret ⟨rfl,.tuple'<|(AR.nil.push hv).push<|.bool b⟩|false=>exact .ret ⟨rfl,hv⟩
  have e1:es'.isEmpty=es.isEmpty:=by unfold Array.isEmpty;rw[he.1]
  rw[e1];refine(Il _ _ _ hk).at fun _ _ _=>(YR hG key hk he.lr).at fun o o' ho=>?_;cases ho with
  |none=>exact(Dp hz _).at fun z z' oM=>hr false oM
  |some h=>exact hr true h.2
 cases hx with
 |xz=>exact tail .nil|map hr=>exact .Bw hr fun o o' ho=>by cases ho<;>first|exact .vQ|exact tail ‹_›
 |_=>exact .vQ
theorem auP:∀(n:Nat) {a a' b b':lH},VR F U a a'->VR F U b b'->Instr.sameBits n a b->Instr.sameBits n a' b':=by
 have hc:∀{r r' s s':Nat},U.to r=some r'->U.to s=some s'->(some r==some s)->(some r'==some s'):=by intro r r' s s' h k;simp only[kM,ia];intro e;subst e;exact jl<|h.symm.trans k
 have hp:∀{a a' b b':Addr},mE U a a'->mE U b b'->(some a==some b)->(some a'==some b'):=by intro a a' b b' h k;simp only[kM,ia];exact(h.eq_iff k).2
 intro n
 induction n with
 |zero=>
  intro a a' b b' ha hb hs;cases ha with
  |ptr h=>cases hb with
   |ptr k=>exact hp h k hs|_=>exact ll hs br
  |chan h=>cases hb with
   |chan k=>exact hc h k hs|_=>exact ll hs br
  |_=>cases hb<;>first|exact hs|exact ll hs br
 |succ n ih=>
  intro a a' b b' ha hb hs;cases ha with
  |ptr h=>cases hb with
   |ptr k=>exact hp h k hs|_=>exact ll hs br
  |chan h=>cases hb with
   |chan k=>exact hc h k hs|_=>exact ll hs br
  |iface t h=>cases hb with
   |iface u k=>have r8:(t==u&&Instr.sameBits n _ _):=hs;rw[ij]at r8;show(t==u&&_);rw[ij];exact⟨r8.1,ih h k r8.2⟩
   |_=>exact ll hs br
  |agg h1 h2=>cases hb with
   |agg k1 k2=>
    rename_i c c' d d';have r8:(c.size==d.size&&(c.toList.zip d.toList).all fun p=>Instr.sameBits n p.1 p.2):=hs;show(c'.size==d'.size&&(c'.toList.zip d'.toList).all fun p=>Instr.sameBits n p.1 p.2);rw[<-h1,<-k1];rw[ij]at r8|-;refine⟨r8.1,?_⟩;have tF:=r8.2;clear hs r8;have e1:LR (VR F U) c.toList c'.toList:=AR.lr ⟨h1,h2⟩;have e2:LR (VR F U) d.toList d'.toList:=AR.lr ⟨k1,k2⟩;generalize c.toList=l1 at e1 tF;generalize c'.toList=l2 at e1;generalize d.toList=l3 at e2 tF;generalize d'.toList=l4 at e2;clear h1 h2 k1 k2
    induction e1 generalizing l3 l4 with
    |nil=>rfl|cons hx _ Xe=>
     cases e2 with
     |nil=>rfl|cons hy t2=>simp only[List.zip_cons_cons,jK,ij]at tF|-;exact⟨ih hx hy tF.1,Xe _ tF.2 _ t2⟩
   |_=>exact ll hs br
  |_=>cases hb<;>first|exact hs|exact ll hs br
theorem avX{a a' b b':lH}(ha:VR F U a a')(hb:VR F U b b'):SR P F (At U (VR F U)) U (Instr.keyThatStays a b) (Instr.keyThatStays a' b'):=by
 unfold Instr.keyThatStays;cases h:Instr.sameBits 10000 a b with
 |true=>rw[auP 10000 ha hb h];exact .ret ⟨Z,hb⟩|false=>
  cases h':Instr.sameBits 10000 a' b' with
  |false=>
   refine .DY fun n=>.ret ⟨Z,?_⟩;split
   .exact hb
   exact ha
  |true=>exact .Fw 0 Z<|.ret ⟨Z,hb⟩
theorem aqC{es es':Array MapEntry}(h:AR (AU F U) es es')(i:Nat)(hk:VR F U k k'):VR F U (((es[i]?).map (·.key)).getD k) (((es'[i]?).map (·.key)).getD k'):=by
 have:=h.opt i;generalize es[i]?=o at this|-;generalize es'[i]?=o' at this|-;cases this with
 |none=>exact hk|some h=>cases h with
  |mk b h1 h2=>exact h1
theorem agP(hG:P.globals.size<=U.base)(t:lT){x:lH}(hx:VR F U x x')(hk:VR F U k k')(hv:VR F U v v'):SR P F (At U fun _ _=>True) U (Instr.mapUpdate t x k v) (Instr.mapUpdate t x' k' v'):=by
 unfold Instr.mapUpdate;refine .under fun d hd=>?_;cases d<;>try exact .stuck
 cases hx with
 |xz=>exact .rt|map hr=>
  refine .Bw hr fun o o' ho=>?_;cases ho<;>try exact .stuck
  rename_i es es' n he;refine(Il _ _ _ hk).at fun _ _ _=>(YR hG _ hk he.lr).at fun f f' hf=>?_;cases hf with
  |none=>exact .Kq hr (.map _<|he.push<|.mk _ hk hv)<|.ret ⟨rfl,trivial⟩|some h=>
   rename_i p p';have⟨i,u⟩:=p;obtain⟨i',u'⟩:=p';obtain⟨e,h⟩:=h;dsimp only at e h;subst e;refine(avX (aqC he i hk) hk).at fun q q' hq=>.Kq hr (.map _<|he.modify _ fun a b qU=>?_)<|.ret ⟨Z,trivial⟩;cases qU with
   |mk b h1 h2=>exact .mk b hq hv
 |_=>exact .stuck
theorem awi(t:lT){x:lH}(hx:VR F U x x'):SR P F (fun U=>VR F U) U (Instr.range t x) (Instr.range t x'):=by
 unfold Instr.range;refine .under fun d hd=>?_;have mk:∀{o o':Obj},tT F U o o'->SR P F (fun U=>VR F U) U (do pure (lJ (<-newObj o) 0):Sem Value) (do pure (lJ (<-newObj o') 0):Sem Value):=fun ho=>.news ho fun mi n n' aBm h1 h2=>.ret<|.ptr ⟨h1,rfl,rfl⟩;split
 .cases hx;exact mk<|.stringIter _ _
 .cases hx;exact mk<|.HV _ _ _
 .cases hx with
  |map hr=>
   refine .Bw hr fun o o' ho=>?_;cases ho<;>try exact .vQ
   exact mk<|.mapIter _ _ _ hr
 exact .vQ
end
section
variable{P:lY}{F:nj}{U:Ren}
theorem avO(h:VR F U v v')(i:Nat):SR P F (At U (VR F U)) U (Instr.extract v i) (Instr.extract v' i):=by
 unfold Instr.extract;cases h<;>try exact .stuck
 rename_i c c' h1 h2;dsimp only;rcases e:c[i]? with _|x
 .exact .stuck
 have⟨y,hy,hr⟩:=AR.get ⟨h1,h2⟩ e;rw[hy];exact .ret ⟨rfl,hr⟩
theorem av2(t:lT)(h:VR F U v v'):SR P F (At U (VR F U)) U (Instr.makeInterface t v) (Instr.makeInterface t v'):=by unfold Instr.makeInterface;refine .under fun d hd=>?_;cases d<;>first|exact .stuck|exact .ret ⟨rfl,.iface t h⟩
theorem av3(t:lT){r r':Option Value}(h:OR (VR F U) r r'):SR P F (fun U=>VR F U) U (Instr.makeMap t r) (Instr.makeMap t r'):=by
 unfold Instr.makeMap;have mk:SR P F (fun U=>VR F U) U (do pure (.map<|some<|<-newObj (.map #[] 0)):Sem Value) (do pure (.map<|some<|<-newObj (.map #[] 0)):Sem Value):=.news (.map 0 .nil) fun mi n n' aBm h1 h2=>.ret<|.map h1;cases h with
 |none=>exact mk|some h=>
  refine .under fun d hd=>?_;cases d<;>try exact .vQ
  exact(EU h).eq fun n=>mk
theorem awg(h:VR F U v v'){β:Type}{Q:Ren->Value->β->Prop}{s':Sem β}:SR P F Q U (Instr.panic v) s':=by
 unfold Instr.panic;cases h<;>first
  |exact .stuck|exact .dead<|yz _|skip
 refine .dead<|.sys fun r=>?_;cases r<;>first
  |exact(oH (P:=P) "strings expected").bind _|skip
 refine .program ?_;show nh P (if _ then _ else _);split
 .exact yz _
 exact zr _
theorem aws(hz:zl P){x:lH}(hx:VR F U x x')(xt t:lT)(ok:Bool):SR P F (At U (VR F U)) U (Instr.typeAssert x xt t ok) (Instr.typeAssert x' xt t ok):=by
 unfold Instr.typeAssert;have holds:∀{v v':lH},VR F U v v'->SR P F (At U<|VR F U) U (pure (if ok then .tuple #[v,.bool true]else v):Sem Value) (pure (if ok then .tuple #[v',.bool true]else v'):Sem Value):=by
  intro v v' hv;cases ok with
  |true=>exact .ret ⟨rfl,.tuple'<|(AR.nil.push hv).push<|.bool _⟩|false=>exact .ret ⟨rfl,hv⟩
 have TL:∀(a b:Option TypeId) (m:String),SR P F (At U<|VR F U) U (if ok then do pure (.tuple #[<-zeroValue t,.bool false])else runtimePanic (.typeAssertion a b t m):Sem Value) (if ok then do pure (.tuple #[<-zeroValue t,.bool false])else runtimePanic (.typeAssertion a b t m):Sem Value):=by
  intro a b m;split
  .exact(Dp hz t).at fun z z' h=>.ret ⟨Z,.tuple'<|(AR.nil.push h).push<|.bool _⟩
  exact .rt
 refine .under fun d hd=>?_;cases hx with
 |nilIface=>cases d<;>exact TL _ _ _
 |iface t1 hv=>
  cases d
  case interface ms=>
   refine .info fun i hi=>?_;dsimp only;split
   .exact holds<|.iface t1 hv
   exact TL _ _ _
  all_goals
   dsimp only;split
   .exact holds hv
   exact TL _ _ _
 |_=>cases d<;>exact .stuck
theorem avY(h:AR (VR F U) args mD)(ts:Array TypeId)(t:lT):SR P F (At U (VR F U)) U (Builtin.len_ ts t args) (Builtin.len_ ts t mD):=by
 unfold Builtin.len_;have h0:=h.opt 0;generalize args[0]?=o at h0|-;generalize mD[0]?=o' at h0|-;cases ts[0]? with
 |none=>exact .stuck|some xt=>
  cases h0 with
  |none=>exact .stuck|some hx=>
   refine .under fun d hd=>?_;split
   case h_1=>cases hx;exact .ret ⟨rfl,.int _ _⟩
   case h_2=>cases hx<;>exact .ret ⟨rfl,.int _ _⟩
   case h_3=>exact .under fun d2 uk=>cE
   case h_4=>cases hx<;>exact .ret ⟨rfl,.int _ _⟩
   case h_5=>cases hx;exact .ret ⟨rfl,.int _ _⟩
   case h_6=>cases hx;exact .ret ⟨rfl,.int _ _⟩
   case h_7=>
    cases hx with
    |map hr=>
     refine .Bw hr fun o o' ho=>?_;cases ho<;>try exact .stuck
     rename_i es es' n he;exact .ret ⟨Z,by rw[he.1];exact .int _ _⟩
   case h_8=>
    cases hx with
    |chan hr=>exact .Bw hr fun o o' ho=>by cases ho<;>exact .stuck
   case h_9=>exact .stuck
def Zz(x:lH):Prop:=∃a,x=.slice (some a) 0 0
theorem Rw{x:lH}(hx:VR F U x x'):SR P F (At U fun n n'=>n=n'/\(Zz x->n=0)) U (Builtin.lenOf x) (Builtin.lenOf x'):=by unfold Builtin.lenOf;cases hx<;>first|exact .ret ⟨rfl,rfl,fun⟨_,e⟩=>(by injection e)⟩|exact .ret ⟨rfl,rfl,fun _=>rfl⟩|exact .ret ⟨rfl,rfl,fun⟨_,e⟩=>(by cases e)⟩|exact .stuck
theorem Io(size n:Nat){x:lH}(hx:VR F U x x')(hz:Zz x->n=0):SR P F (At U fun c c'=>AR (VR F U) c c'/\(n=0->c= #[]/\c'= #[])) U (Builtin.firstCells size n x) (Builtin.firstCells size n x'):=by
 unfold Builtin.firstCells;have z:∀(a a':Addr),n=0->SR P F (At U fun c c'=>AR (VR F U) c c'/\(n=0->c= #[]/\c'= #[])) U (loadCells a<|n*size) (loadCells a'<|n*size):=fun a a' e=>by subst e;rw[kh];exact .ret ⟨Z,.nil,fun _=>⟨Z,Z⟩⟩
 cases hx with
 |qI l c=>exact .ret ⟨rfl,.nil,fun _=>⟨rfl,rfl⟩⟩|slice l c ha=>
  rcases gJ n with e|e
  .exact z _ _ e
  exact(Rx ha _).mono fun mi c c' _ h=>⟨h.1,h.2,fun e'=>aa⟩
 |tn a=>exact z _ _<|hz ⟨a,rfl⟩|string s=>exact .ret ⟨rfl,AR.same fun b _=>.int _ _,fun e=>by subst e;simp⟩|_=>exact .stuck
theorem AR.zeroCells{z z':lW}(h:AR (VR F U) z z')(n:Nat):AR (VR F U) (Builtin.zeroCells z n) (Builtin.zeroCells z' n):=by unfold Builtin.zeroCells;rw[h.1];exact AR.same fun i _=>h.aag _
theorem akU{γ:Type}(size l n:Nat)(b:lO)(x:lH)(f:Bool->Sem γ)(hf:∀b,nh P (f b)):nh P (Builtin.mayShare size l n b x>>= f):=by
 have hh:∀(a:Addr) (n:Nat) (g:Bool->Sem γ),(∀b,nh P<|g b)->nh P (Builtin.holdsCells a n>>= g):=fun a n g hg=>.shape fun s=>by cases s<;>exact hg _
 unfold Builtin.mayShare;show nh P (Sem.bind _ _);cases b with
 |none=>
  cases x with
  |slice a l c=>cases a with
   |none=>exact hf _|some a=>exact .shape fun s=>by cases s<;>exact hf _
  |_=>exact hf _
 |some a=>
  refine .shape fun s=>?_;cases s with
  |none=>exact .frozen fun fr=>hf _
  |some s=>
   refine .frozen fun fr=>?_;show nh P (Sem.bind (if _ then _ else _) _);split
   .exact hf _
   cases x with
   |slice a l c=>cases a with
    |none=>exact hf _|some a=>exact .shape fun s=>by cases s<;>exact hf _
   |_=>exact hf _
theorem avn(hz:zl P)(h:AR (VR F U) args mD)(ts:Array TypeId)(t:lT)(hn:∀xt k,ts[1]?=some xt->P.underlying xt≠some (.int k)):
  SR P F (fun U=>VR F U) U (Builtin.append_ ts t args) (Builtin.append_ ts t mD):=by
 unfold Builtin.append_;have h0:=h.opt 0;have h1:=h.opt 1;generalize args[0]?=o at h0|-;generalize mD[0]?=o' at h0|-;generalize args[1]?=p at h1|-;generalize mD[1]?=p' at h1|-;generalize ts[1]?=t1 at hn|-;cases ts[0]? with
 |none=>exact .stuck|some st=>
  cases h0 with
  |none=>exact .stuck|some hs=>
   cases h1 with
   |none=>exact .stuck|some hx=>
    refine .under fun d hd=>?_;cases d<;>try exact .stuck
    rename_i elem;have MM:=hs;cases hs<;>try exact .stuck
    all_goals
     refine(tq _).eq fun size=>?_;rcases t1 with _|xt
     all_goals try
      refine SR.under fun d2 uk=>?_;have hb:(match (generalizing:=false) d2 with|TypeDesc.int _=>true|_=>false)=false:=by cases d2<;>first|rfl|exact ll uk<|hn _ _ rfl
      refine SR.at (R:=fun a b=>a=false/\b=false) (s:=Pure.pure (match (generalizing:=false) d2 with|TypeDesc.int _=>true|_=>false)) (s':=Pure.pure (match (generalizing:=false) d2 with|TypeDesc.int _=>true|_=>false)) (.ret ⟨Z,hb,hb⟩) fun b b' e=>?_;obtain⟨rfl,rfl⟩:=e
    all_goals
     refine(Rw hx).at fun n n' CS=>?_;obtain⟨rfl,JD⟩:=CS;dsimp only;split
     .rename_i aBm;refine(Io _ _ hx JD).at fun c c' hc=>?_
      first
       |exact .ret<|.qI _ _|exact(Kx (mE.add aX _) 0 hc.1.lr).at fun _ _ _=>.ret<|.slice _ _ aX
       |(obtain⟨rfl,rfl⟩:=hc.2 aa
         obtain rfl:n=0:=aa
         exact .ret (.tn _))
     refine .info fun i hi=>?_;split
     .exact .EP
     refine .info fun i2 rX=>?_;split
     .simp only[gy,kZ];exact .dead<|(akU _ _ _ _ _ _ fun b=>by cases b<;>first|exact .mark (zt aq)|exact zt aq).bind _
     exact .DY fun cap=>.info fun i3 Ar=>(YO _).at fun _ _ _=>(Io _ _ MM<|fun⟨_,e⟩=>by injection e).at fun old asr ho=>(Io _ _ hx JD).at fun new ar3 hw=>(Dp hz _).at fun z z' oM=>(Gu _<|(ho.1.app hw.1).app<|oM.cells.zeroCells _).bind fun mi a a' aBm hq=>.ret<|.slice _ _ hq.1
theorem SR.M8{α β:Type}{Q:Ren->α->β->Prop}{c:Prop}[Decidable c]{a b:Sem α}{a' b':Sem β}(h1:c->SR P F Q U a a')(h2:¬c->SR P F Q U b b'):SR P F Q U (if c then a else b) (if c then a' else b'):=by
 by_cases h:c
 .rw[lq h,lq h];exact h1 h
 rw[lp h,lp h];exact h2 h
theorem avo(hz:zl P)(h:AR (VR F U) args mD)(ts:Array TypeId)(t:lT){xt:lT}{k:IntKind}(hn:ts[1]?=some xt)(hk:P.underlying xt=some (.int k)):
  SR P F (fun U=>VR F U) U (Builtin.append_ ts t args) (Builtin.append_ ts t mD):=by
 unfold Builtin.append_;have h0:=h.opt 0;have h1:=h.opt 1;generalize args[0]?=o at h0|-;generalize mD[0]?=o' at h0|-;generalize args[1]?=p at h1|-;generalize mD[1]?=p' at h1|-;rw[hn];cases ts[0]? with
 |none=>exact .stuck|some st=>
  cases h0 with
  |none=>exact .stuck|some hs=>
   cases h1 with
   |none=>exact .stuck|some hx=>
    refine .under fun d hd=>?_;cases d<;>try exact .stuck
    rename_i elem;have MM:=hs;cases hs<;>try exact .stuck
    all_goals
     refine(tq _).eq fun size=>SR.under fun d2 uk=>?_;rw[hk]at uk;injection uk with uk;subst uk;refine SR.at (R:=fun a b=>a=true/\b=true) (s:=Pure.pure true) (s':=Pure.pure true) (.ret ⟨Z,Z,Z⟩) fun b b' e=>?_;obtain⟨rfl,rfl⟩:=e;simp only[lj,jH,gy,kZ];have CJ:∀n:Nat,SR P F (At U fun c c'=>AR (VR F U) c c'/\(n=0->c= #[]/\c'= #[])) U (if n*size=0 then pure #[]else do pure (Builtin.zeroCells (<-zeroValue elem).cells n):Sem (Array Value)) (if n*size=0 then pure #[]else do pure (Builtin.zeroCells (<-zeroValue elem).cells n):Sem (Array Value)):=by
      intro n;split
      .exact .ret ⟨Z,.nil,fun _=>⟨Z,Z⟩⟩
      rename_i mK;exact(Dp hz _).at fun z z' oM=>.ret ⟨Z,oM.cells.zeroCells _,fun e=>ll (by rw[e,kh]) mK⟩
     refine(EU hx).eq fun iv=>.M8 (fun _=>.EP) fun _=>.info fun i hi=>.M8 (fun _=>.DY fun m=>.EP) fun _=>SR.eq (s:=Pure.pure (IntKind.i64.wrap iv).toNat) (s':=Pure.pure (IntKind.i64.wrap iv).toNat) (.ret ⟨Z,Z⟩) fun n=>.M8 (fun aBm=>?_) fun _=>?_
     .refine(CJ n).at fun c c' hc=>?_
      first
       |exact .ret<|.qI _ _|exact(Kx (mE.add aX _) 0 hc.1.lr).at fun _ _ _=>.ret<|.slice _ _ aX
       |(obtain⟨rfl,rfl⟩:=hc.2 aa
         obtain rfl:n=0:=aa
         exact .ret (.tn _))
     refine .info fun i hi=>.M8 (fun _=>.EP) fun _=>.info fun i2 rX=>.M8 (fun _=>.EP) fun _=>?_;exact .DY fun cap=>.info fun i3 Ar=>(YO _).at fun _ _ _=>(Io _ _ MM<|fun⟨_,e⟩=>by injection e).at fun old asr ho=>(CJ n).at fun new ar3 hw=>(Dp hz _).at fun z z' oM=>(Gu _<|(ho.1.app hw.1).app<|oM.cells.zeroCells _).bind fun mi a a' aBm hq=>.ret<|.slice _ _ hq.1
theorem avC(h:AR (VR F U) args mD)(ts:Array TypeId)(t:lT):SR P F (At U (VR F U)) U (Builtin.cap_ ts t args) (Builtin.cap_ ts t mD):=by
 unfold Builtin.cap_;have h0:=h.opt 0;generalize args[0]?=o at h0|-;generalize mD[0]?=o' at h0|-;cases ts[0]? with
 |none=>exact .stuck|some xt=>
  cases h0 with
  |none=>exact .stuck|some hx=>
   refine .under fun d hd=>?_;split
   case h_1=>cases hx<;>exact .ret ⟨rfl,.int _ _⟩
   case h_2=>exact .under fun d2 uk=>cE
   case h_3=>cases hx<;>exact .ret ⟨rfl,.int _ _⟩
   case h_4=>cases hx;exact .ret ⟨rfl,.int _ _⟩
   case h_5=>
    cases hx with
    |chan hr=>exact .Bw hr fun o o' ho=>by cases ho<;>exact .stuck
   case h_6=>exact .stuck
theorem avF(h:AR (VR F U) args mD)(ts:Array TypeId)(t:lT):SR P F (At U (VR F U)) U (Builtin.copy_ ts t args) (Builtin.copy_ ts t mD):=by
 unfold Builtin.copy_;have h0:=h.opt 0;have h1:=h.opt 1;generalize args[0]?=o at h0|-;generalize mD[0]?=o' at h0|-;generalize args[1]?=p at h1|-;generalize mD[1]?=p' at h1|-;cases ts[0]? with
 |none=>exact .stuck|some st=>
  cases h0 with
  |none=>exact .stuck|some hs=>
   cases h1 with
   |none=>exact .stuck|some hx=>
    refine .under fun d hd=>?_;cases d<;>try exact .stuck
    cases hs<;>try exact .stuck
    .refine(Rw hx).at fun n n' CS=>?_;obtain⟨rfl,JD⟩:=CS;exact(tq _).eq fun size=>(Io _ _ hx<|fun h=>dc).at fun c c' hc=>.ret ⟨rfl,.int _ _⟩
    .rename_i ha;refine(Rw hx).at fun n n' CS=>?_;obtain⟨rfl,JD⟩:=CS;exact(tq _).eq fun size=>(Io _ _ hx<|fun h=>dc).at fun c c' hc=>(Kx ha 0 hc.1.lr).at fun _ _ _=>.ret ⟨rfl,.int _ _⟩
    refine(Rw hx).at fun n n' CS=>?_;obtain⟨rfl,JD⟩:=CS;refine(tq _).eq fun size=>(Io _ _ hx<|fun h=>dc).at fun c c' hc=>?_;obtain⟨rfl,rfl⟩:=hc.2<|Nat.min_zero _;exact .ret ⟨Z,.int _ _⟩
theorem agJ{a a':Addr}(ha:mE U a a'):∀(n:Nat) (s:ByteArray),SR P F (At U fun x y=>x=y) U (loadBytes a s n) (loadBytes a' s n)
 |0,s=>.ret ⟨rfl,rfl⟩|n+1,s=>by
  refine .Qs ha fun v v' hv=>?_;cases hv<;>first|exact .stuck|skip
  rename_i k z;cases k<;>first|exact .stuck|skip
  exact agJ (ha.add 1) n _
theorem AR.aet{α β:Type}{r:α->β->Prop}{x y:α}{l:Array β}(h:AR r #[x,y] l):∃x' y',l= #[x',y']/\r x x'/\r y y':=by
 obtain⟨hs,hr⟩:=h;have h2:l.size=2:=hs.symm;refine⟨l[0],l[1],?_,hr 0 _ _ Z<|eB _,hr 1 _ _ Z<|eB _⟩;apply kU
 .exact h2
 intro i h1 h3
 match i,h3 with
 |0,_=>rfl|1,_=>rfl
theorem awv(h:AR (VR F U) args mD)(ts:Array TypeId)(t:lT):SR P F (At U (VR F U)) U (Builtin.unsafeString_ ts t args) (Builtin.unsafeString_ ts t mD):=by
 by_cases hk:∃p l,args= #[.pointer p,l];rotate_left
 .refine .dead ?_;have e:Builtin.unsafeString_ ts t args=stuck "unsafe.String: a pointer and an integer expected" :=by
   obtain⟨l⟩:=args;rcases l with _|⟨x,_|⟨y,_|⟨z,l⟩⟩⟩
   .rfl
   .rfl
   .cases x with
    |pointer p=>exact ll ⟨p,y,rfl⟩ hk|_=>rfl
   rfl
  rw[e];exact .halt<|.stuck _
 obtain⟨p,l,rfl⟩:=hk;obtain⟨y,l',rfl,h0,h1⟩:=AR.aet h;unfold Builtin.unsafeString_;cases h0 with
 |rA=>
  refine(EU h1).eq fun n=>?_;cases ts[0]? with
  |none=>exact .stuck|some pt=>
   dsimp only;split
   .exact .EP
   split
   .exact .xF
   split
   .exact .ret ⟨Z,.string _⟩
   exact .rt
 |ptr ha=>
  refine(EU h1).eq fun n=>?_;cases ts[0]? with
  |none=>exact .stuck|some pt=>
   dsimp only;split
   .exact .EP
   split
   .exact .xF
   split
   .exact .ret ⟨Z,.string _⟩
   next hn=>
   refine(avJ pt).eq fun e=>(aww ha e n.toNat).eq fun q=>?_;cases q with
   |false=>exact .pv|true=>
    obtain⟨m,hm⟩:∃m,n.toNat=m+1:=⟨n.toNat-1,aa⟩
    simp only[lj,hm];refine .aqS ha fun v v' hv h8=>?_;cases hv<;>first|exact .vQ|skip
    rename_i k z;cases k<;>first|exact .vQ|skip
    have ho:=eD fun ho=>h8 ho _ rfl;exact(agJ (ha.add 1) m _).at fun s s' hs=>by subst hs;exact .freeze ha ho<|.pure ⟨Z,.string _⟩
theorem avD(hz:zl P)(h:AR (VR F U) args mD)(ts:Array TypeId)(t:lT):SR P F (At U (VR F U)) U (Builtin.clear_ ts t args) (Builtin.clear_ ts t mD):=by
 unfold Builtin.clear_;have hr:SR P F (At U<|VR F U) U (pure (.tuple #[]):Sem Value) (pure (.tuple #[]):Sem Value):=.ret ⟨rfl,.tuple' .nil⟩;have h0:=h.opt 0;generalize args[0]?=o at h0|-;generalize mD[0]?=o' at h0|-;cases ts[0]? with
 |none=>exact .stuck|some st=>
  cases h0 with
  |none=>exact .stuck|some hx=>
   refine .under fun d hd=>?_;cases hx with
   |xz=>cases d<;>exact hr
   |qI l c=>cases d<;>exact hr
   |tn a=>cases d<;>exact hr
   |map hm=>cases d<;>(refine .Bw hm fun o o' ho=>?_;cases ho<;>first|exact .vQ|exact .Kq hm (.map _ .nil) hr)
   |slice l c ha=>
    rcases l with _|l
    .cases d<;>exact hr
    cases d<;>first
     |exact .vQ|exact(Dp hz _).at fun z z' oM=>(Kx ha 0 (AR.zeroCells oM.cells _).lr).at fun _ _ _=>hr
   |_=>cases d<;>exact .vQ
theorem avH(hG:P.globals.size<=U.base)(h:AR (VR F U) args mD)(ts:Array TypeId)(t:lT):SR P F (At U (VR F U)) U (Builtin.delete_ ts t args) (Builtin.delete_ ts t mD):=by
 unfold Builtin.delete_;have hr:SR P F (At U<|VR F U) U (pure (.tuple #[]):Sem Value) (pure (.tuple #[]):Sem Value):=.ret ⟨rfl,.tuple' .nil⟩;have h0:=h.opt 0;have h1:=h.opt 1;generalize args[0]?=o at h0|-;generalize mD[0]?=o' at h0|-;generalize args[1]?=p at h1|-;generalize mD[1]?=p' at h1|-;cases ts[0]? with
 |none=>exact .stuck|some st=>
  cases h0 with
  |none=>exact .stuck|some hm=>
   cases h1 with
   |none=>exact .stuck|some hk=>
    refine .under fun d hd=>?_;cases d<;>try exact .stuck
    cases hm with
    |xz=>exact(Il _ _ _ hk).at fun _ _ _=>hr
    |map hm=>
     refine .Bw hm fun o o' ho=>?_;cases ho<;>try exact .vQ
     rename_i es es' n he;have e1:es'.isEmpty=es.isEmpty:=by unfold Array.isEmpty;rw[he.1]
     dsimp only;rw[e1];refine(Il _ _ _ hk).at fun _ _ _=>(YR hG _ hk he.lr).at fun f f' hf=>?_;cases hf with
     |none=>exact .Kq hm (.map _ he) hr|some h=>rename_i p p';have⟨i,u⟩:=p;obtain⟨i',u'⟩:=p';obtain⟨e,h⟩:=h;dsimp only at e h;subst e;exact .Kq hm (.map _<|he.erase i) hr
    |_=>exact .vQ
theorem awa{x:lH}(hx:VR F U x x')(hy:VR F U y y'):SR P F (At U (VR F U)) U (Builtin.min2 x y) (Builtin.min2 x' y'):=by
 unfold Builtin.min2;split
 all_goals try exact .stuck
 all_goals try exact .pv
 .cases hx;cases hy;exact .ret ⟨rfl,.int _ _⟩
 .cases hx
 cases hx;cases hy;exact(Kz<|Y6 _ _ _).at fun v v' hv=>(YP hv).eq fun b=>by cases b<;>exact .ret ⟨rfl,.string _⟩
theorem av7{x:lH}(hx:VR F U x x')(hy:VR F U y y'):SR P F (At U (VR F U)) U (Builtin.max2 x y) (Builtin.max2 x' y'):=by
 unfold Builtin.max2;split
 all_goals try exact .stuck
 all_goals try exact .pv
 .cases hx;cases hy;exact .ret ⟨rfl,.int _ _⟩
 .cases hx
 cases hx;cases hy;exact(Kz<|Y6 _ _ _).at fun v v' hv=>(YP hv).eq fun b=>by cases b<;>exact .ret ⟨rfl,.string _⟩
theorem YS{f:Value->Value->Sem Value}(h:∀{x x' y y':lH},VR F U x x'->VR F U y y'->SR P F (At U (VR F U)) U (f x y) (f x' y')):∀{l l':mb},LR (VR F U) l l'->∀{x x':lH},VR F U x x'->SR P F (At U (VR F U)) U (l.foldlM f x) (l'.foldlM f x')
 |_,_,.nil,_,_,hx=>.ret ⟨rfl,hx⟩|_,_,.cons hy t,_,_,hx=>by rw[List.foldlM_cons,List.foldlM_cons];exact(h hx hy).at fun v v' hv=>YS h t hv
theorem av9(h:AR (VR F U) args mD)(ts:Array TypeId)(t:lT):SR P F (At U (VR F U)) U (Builtin.min_ ts t args) (Builtin.min_ ts t mD):=by
 unfold Builtin.min_;have:=h.lr;generalize args.toList=l at this|-;generalize mD.toList=l' at this|-;cases this with
 |nil=>exact .stuck|cons hx t=>exact YS awa t hx
theorem av6(h:AR (VR F U) args mD)(ts:Array TypeId)(t:lT):SR P F (At U (VR F U)) U (Builtin.max_ ts t args) (Builtin.max_ ts t mD):=by
 unfold Builtin.max_;have:=h.lr;generalize args.toList=l at this|-;generalize mD.toList=l' at this|-;cases this with
 |nil=>exact .stuck|cons hx t=>exact YS av7 t hx
end
end Go.Proofs.YtfjcghhjlmfggaaGreatDoor
namespace Go.Proofs.YtfjcghhjlmfggaaGreatDoor
noncomputable section
theorem cX{p:Prop}(h:p:=by simp[stepG,unwind,Frame.catches,hm,hd,hf]):p:=h
theorem dM{p:Prop}(h:p:=by simpa using e):p:=h
theorem ay{p:Prop}(h:p:=by simpa[exitTo]using h):p:=h
theorem bu{p:Prop}(h:p:=by cases hq;exact .inr (.inl ⟨_,rfl⟩);exact .inl rfl;exact .inr (.inr ⟨_,_,rfl⟩)):p:=h
theorem cY{p:Prop}(h:p:=by simp[Scope.item]):p:=h
theorem cH{p:Prop}(h:p:=by simp only[runNT,MR,wJ];exact qF):p:=h
theorem cZ{p:Prop}(h:p:=by simpa using hj):p:=h
theorem aG{p:Prop}(h:p:=by obtain⟨e,_,rfl⟩:=Go.Conc.mem_ofEvents mw;rfl):p:=h
theorem di{p:Prop}(h:p:=by simp at hj;omega):p:=h
def gL:=@Go.Stepped.next.injEq
def iM:=@Go.Conc.stepG_region_end
def iQ:=@Go.Frame.finish_at
def jq:=@Go.step_lone_ended
def jR:=@Go.Conc.runT_crowd_go
def jS:=@Go.Conc.stepG_inBlock
def kj:=@Go.Conc.stepG_inLoop
def ko:=@Go.Conc.stepG_region
def kp:=@Go.step_lone_go
def kq:=@Go.Conc.woken_quitsD
def kE:=@Go.Conc.stepG_block
def kJ:=@Go.Conc.Deaf_other
def kO:=@Go.Conc.mem_listed
def kW:=@Go.Conc.stepG_seq
open Tryz
open Go Go.Conc
variable{a a':Addr}{aBi:nI}{T args mD t t':lW}{c:Code}{fn:Func}{f:FuncId}{i id k:Nat}{M:lF}{P:lY}{u x':lH}{v w w':lE}
inductive qx(P:lY)(F:nj)(U:Ren):Next->Next->Prop where
 |value {v v':lH}:VR F U v v'->qx P F U (.value v) (.value v')|skip:qx P F U .skip .skip|enter {f:FuncId} {args mD:lW}:F f->(∃fn c,P.funcs[f]?=some fn/\fn.body=some c)->AR (VR F U) args mD->qx P F U (.enter f args) (.enter f mD)
structure Gd(P:lY)(V:pw)(U:Ren):Prop where
 base:P.globals.size<=U.base
 vars:∀g,V g->U.to g=some g
structure Okay(P:lY)(F:nj)(I:String->Prop)(V:pw):Prop where
 ym:zl P
 funcs:∀f,F f->∃fn,P.funcs[f]?=some fn/\(fn.name== "runtime.NumGoroutine")=false/\
  (fn.body.isSome\/∀U args mD,Gd P V U->AR (VR F U) args mD->SR P F (qx P F) U (callFunc f args) (callFunc f mD))
 Ex:∀name,I name->∀t i,P.info? t=some i->∀m∈i.methods,m.name=name->∀f b,m.func=some (f,b)->F f
inductive IK(F:nj)(U:Ren):Place->Place->Prop where
 |val {v v':lH}:VR F U v v'->IK F U (.val v) (.val v')|var {a a':Addr}:mE U a a'->IK F U (.var a) (.var a')
inductive Oo(F:nj)(I:String->Prop)(U:Ren):Target->Target->Prop where
 |fn {f:FuncId} {c c':lW}:F f->AR (VR F U) c c'->Oo F I U (.fn (.func f) c) (.fn (.func f) c')|method {n:String}:I n->Oo F I U (.fn (.method n) #[]) (.fn (.method n) #[])|nil:Oo F I U .nil .nil
section
variable{P:lY}{F:nj}{I:String->Prop}{U:Ren}
theorem SR.abB{γ Iw δ:Type}{R:γ->Iw->Prop}{g:γ->δ->Sem (ForInStep δ)}{g':Iw->δ->Sem (ForInStep δ)}(h:∀a a' b,R a a'->SR P F (At U Eq) U (g a b) (g' a' b)):∀{l:List γ} {l':List Iw},LR R l l'->∀b:δ,SR P F (At U Eq) U (forIn l b g) (forIn l' b g')
 |_,_,.nil,b=>by rw[jv,jv];exact .ret ⟨rfl,rfl⟩
 |_,_,.cons hx t,b=>by
  rw[iX,iX];refine(h _ _ b hx).eq fun s=>?_;cases s with
  |done b=>exact .ret ⟨rfl,rfl⟩|yield b=>exact SR.abB h t b
theorem SR.abA{γ Iw δ:Type}{R:γ->Iw->Prop}{g:γ->δ->Sem (ForInStep δ)}{g':Iw->δ->Sem (ForInStep δ)}(h:∀a a' b,R a a'->SR P F (At U Eq) U (g a b) (g' a' b)){l:Array γ}{l':Array Iw}(hl:AR R l l')(b:δ):SR P F (At U Eq) U (forIn l b g) (forIn l' b g'):=by rw[<-gw,<-gw];exact SR.abB h hl.lr b
theorem avz{x:lH}(hx:VR F U x x'):SR P F (At U (VR F U)) U (Conv.bytesToString x) (Conv.bytesToString x'):=by
 unfold Conv.bytesToString;cases hx with
 |qI l c=>exact .ret ⟨rfl,.string _⟩|tn a=>exact .ret ⟨rfl,.string _⟩|slice l c ha=>
  refine(Rx ha l).at fun c c' hc=>SR.eq (SR.abA (fun a a' b qU=>?_) hc _) fun s=>.ret ⟨Z,.string _⟩;cases qU<;>try exact .stuck
  rename_i k n;cases k<;>first|exact .stuck|exact .ret ⟨rfl,rfl⟩
 |_=>exact .stuck
theorem awl{x:lH}(hx:VR F U x x'):SR P F (At U (VR F U)) U (Conv.runesToString x) (Conv.runesToString x'):=by
 unfold Conv.runesToString;cases hx with
 |qI l c=>exact .ret ⟨rfl,.string _⟩|tn a=>exact .ret ⟨rfl,.string _⟩|slice l c ha=>
  refine(Rx ha l).at fun c c' hc=>SR.eq (SR.abA (fun a a' b qU=>?_) hc _) fun s=>.ret ⟨Z,.string _⟩;cases qU<;>try exact .stuck
  rename_i k n;cases k<;>first|exact .stuck|exact .ret ⟨rfl,rfl⟩
 |_=>exact .stuck
theorem av5(ha:mE U a a')(ho:U.own a.block):SR P F (At U fun _ _=>True) U (markStringish a) (markStringish a'):=by
 unfold markStringish;refine .ES ha.1 fun s=>?_;cases s with
 |none=>exact .ret ⟨rfl,trivial⟩|some s=>exact .freeze ⟨ha.1,rfl,rfl⟩ ho<|.pure ⟨rfl,trivial⟩
theorem awq(e:lT)(s:ByteArray):SR P F (fun U=>VR F U) U (Conv.stringToBytes e s) (Conv.stringToBytes e s):=by unfold Conv.stringToBytes;exact .DY fun cap=>SR.bind (Gu e<|(AR.same fun b _=>.int _ _).app<|AR.rep _<|.int _ _) fun mi a a' aBm hq=>(av5 hq.1 hq.2).at fun _ _ _=>.ret<|.slice _ _ hq.1
theorem agk(s:ByteArray):∀(b i:Nat) {acc Z0:lW},AR (VR F U) acc Z0->AR (VR F U) (Conv.runesFrom s b i acc) (Conv.runesFrom s b i Z0)
 |0,_,_,_,h=>h|b+1,i,_,_,h=>by
  unfold Conv.runesFrom;split
  .exact agk s b _<|h.push<|.int _ _
  exact h
theorem awr(e:lT)(s:ByteArray):SR P F (fun U=>VR F U) U (Conv.stringToRunes e s) (Conv.stringToRunes e s):=by unfold Conv.stringToRunes;exact .DY fun cap=>SR.bind (Gu e<|(agk s _ _ .nil).app<|AR.rep _<|.int _ _) fun mi a a' aBm hq=>.ret<|.slice _ _ hq.1
def XH(P:lY)(s d:lT):Bool:=match P.underlying s,P.underlying d with
 |some (.int _),some (.int _)|some (.int _),some .string|some .string,some .string|some .string,some (.slice _)|some (.slice _),some .string=>true|_,_=>false
theorem avE(s d:lT)(hc:XH P s d){x:lH}(hx:VR F U x x'):SR P F (fun U=>VR F U) U (convert s d x) (convert s d x'):=by
 unfold convert;unfold XH at hc;refine .under fun ds hs=>.under fun dd hd=>?_;rw[hs,hd]at hc;cases ds<;>cases dd<;>first
  |(simp at hc;done)|skip
 .cases hx<;>first
   |exact .pv|exact .ret<|.int _ _
 .cases hx<;>first
   |exact .pv|exact .ret<|.string _
 .cases hx<;>first
   |exact .pv|exact .ret<|.string _
 .cases hx<;>first
   |exact .pv|skip
  refine .under fun de he=>?_;cases de<;>try exact .stuck
  rename_i k;cases k<;>first
   |exact .stuck|exact awq _ _|exact awr _ _
 have h0:=hx;cases hx
 case hole=>
  refine .dead<|OM fun de=>?_;cases de<;>first
   |exact oH _|(rename_i k;cases k<;>exact oH _)
 all_goals try exact .ret<|.string _
 all_goals
  refine .under fun de he=>?_;cases de<;>try exact .stuck
  rename_i k;cases k<;>first
   |exact .stuck|exact nV<|avz h0|exact nV<|awl h0
end
section
variable{P:lY}{F:nj}{I:String->Prop}{V:pw}{U:Ren}
theorem Ip(t:lT){x x':Place}(h:IK F U x x'):SR P F (At U (VR F U)) U (x.get t) (x'.get t):=by
 cases h with
 |val h=>exact .ret ⟨rfl,h⟩|var h=>exact Gt t h
theorem Rv:∀(l:List FieldStep) (t:lT) {x x':Place},IK F U x x'->SR P F (At U fun p p'=>p.1=p'.1/\IK F U p.2 p'.2) U (follow l t x) (follow l t x')
 |[],t,_,_,h=>.ret ⟨rfl,rfl,h⟩|s::rest,t,x,x',h=>by
  unfold follow;refine .under fun d hd=>?_;cases d<;>try exact .stuck
  rename_i fields;dsimp only;cases fields[s.index]? with
  |none=>exact .stuck|some f=>
   dsimp only;split
   .exact(Ip t h).at fun v v' hv=>(NM hv).at fun a a' ha=>(YQ ha f).at fun b b' hb=>Rv rest _<|.var hb
   cases h with
   |var ha=>exact(YQ ha f).at fun b b' hb=>Rv rest _<|.var hb
   |val hv=>cases hv with
    |agg h1 h2=>exact(EV _ ⟨h1,h2⟩ _).at fun u u' hu=>Rv rest _<|.val hu
    |_=>exact .stuck
theorem akV(t:lT)(m:ByteArray)(b:ByteArray)(ts:Array TypeId):nh P (Builtin.ssaWrapNilChk_ ts t #[.pointer none,.string b,.string m]):=by
 unfold Builtin.ssaWrapNilChk_;refine .choose fun n=>?_;dsimp only;show nh P (if _ then _ else _);split
 .exact(zr _).bind _
 cases ts[0]? with
 |none=>exact oH _|some pt=>
  refine OM fun d=>?_;cases d<;>try exact oH _
  refine akT fun i=>?_;split
  .split
   .split
    .exact zr _
    exact zt aq
   exact oH _
  exact oH _
theorem awd(ts:Array TypeId)(t:lT)(s m:String){x:lH}(h:VR F U x x'):SR P F (At U (VR F U)) U (Builtin.ssaWrapNilChk_ ts t #[x,strVal s,strVal m]) (Builtin.ssaWrapNilChk_ ts t #[x',strVal s,strVal m]):=by
 cases h with
 |ptr ha=>exact .ret ⟨rfl,.ptr ha⟩|rA=>exact .dead<|akV _ _ _ _|_=>exact .stuck
theorem awj(t:lT){x x':Place}(h:IK F U x x')(b:Bool)(w:Option String):SR P F (At U (VR F U)) U (receiverAt t x b w) (receiverAt t x' b w):=by
 unfold receiverAt;refine .under fun d hd=>?_;have val:∀e,SR P F (At U<|VR F U) U (do let ptr<-x.get t;let ptr<-(match w with|some name=>Builtin.ssaWrapNilChk_ #[t] t #[ptr,strVal "",strVal name]|none=>pure ptr);loadVar e (<-asAddr ptr))
   (do let ptr<-x'.get t;let ptr<-(match w with|some name=>Builtin.ssaWrapNilChk_ #[t] t #[ptr,strVal "",strVal name]|none=>pure ptr);loadVar e (<-asAddr ptr)):=by
  intro e;refine(Ip t h).at fun v v' hv=>?_;cases w with
  |none=>exact(NM hv).at fun a a' ha=>Gt _ ha
  |some n=>exact(awd _ _ _ _ hv).at fun u u' hu=>(NM hu).at fun a a' ha=>Gt _ ha
 cases b with
 |true=>
  cases d
  case pointer e=>cases h<;>first|exact Ip t (.val ‹_›)|exact Ip t<|.var ‹_›
  all_goals
   cases h with
   |val h=>exact .stuck|var h=>exact .ret ⟨rfl,.ptr h⟩
 |false=>
  cases d
  case pointer e=>cases w<;>cases h<;>exact val e
  all_goals cases h<;>first|exact Ip t (.val ‹_›)|exact Ip t<|.var ‹_›
theorem agR(K:Okay P F I V)(name:String)(hI:I name):∀(aBo:Nat) (t:lT) {v v':lH},VR F U v v'->SR P F (At U fun p p'=>p.1=p'.1/\F p.1/\VR F U p.2 p'.2) U (method aBo t v name) (method aBo t v' name)
 |0,_,_,_,_=>.pv|aBo+1,t,v,v',hv=>by
  unfold method;refine .info fun i hi=>?_;cases hm:i.methods.find? (·.name==name)with
  |none=>exact .stuck|some m=>
   have h1:=Array.mem_of_find?_eq_some hm;have h2:m.name=name:=by simpa using Array.find?_some hm
   refine(Rv m.path.toList t<|.val hv).at fun p p' hp=>?_;have⟨xt,x⟩:=p;obtain⟨xt',x'⟩:=p';obtain⟨e,hx⟩:=hp;dsimp only at e hx;subst e;cases hf:m.func with
   |none=>
    refine(Ip xt hx).at fun u u' hu=>?_;cases hu with
    |iface t2 hu=>exact agR K name hI aBo t2 hu|nilIface=>exact .rt|_=>exact .stuck
   |some q=>obtain⟨f,b⟩:=q;exact(awj xt hx b _).at fun u u' hu=>.ret ⟨Z,Z,K.Ex name hI t i hi m h1 h2 f b hf,hu⟩
theorem agK(K:Okay P F I V)(hG:Gd P V U)(hf:F f)(ha:AR (VR F U) args mD):SR P F (qx P F) U (callFunc f args) (callFunc f mD):=by
 have⟨fn,h1,h2,h3⟩:=K.funcs f hf;rcases h3 with h3|h3
 .unfold callFunc;refine .prog ?_;rw[h1];have h4:fn.body.isNone=false:=by cases hb:fn.body<;>simp_all
  simp only[h2,h4,gy,kZ];refine .ret<|.enter hf ?_ ha;have⟨c,hc⟩:=eO.1 h3;exact⟨fn,c,h1,hc⟩
 exact h3 U args mD hG ha
theorem avB(K:Okay P F I V)(hG:Gd P V U){name:String}(hI:I name){r r':lH}(hr:VR F U r r')(ha:AR (VR F U) args mD):SR P F (qx P F) U (callMethod r name args) (callMethod r' name mD):=by
 unfold callMethod;cases hr with
 |iface t hv=>refine .prog<|(agR K name hI _ t hv).at fun p p' hp=>?_;have⟨f,x⟩:=p;obtain⟨f',x'⟩:=p';obtain⟨e,hF,hx⟩:=hp;dsimp only at e hx hF;subst e;exact agK K hG hF<|(AR.nil.push hx).app ha
 |nilIface=>exact .rt|_=>exact .stuck
theorem YT(K:Okay P F I V)(hG:Gd P V U){t t':Target}(ht:Oo F I U t t')(ha:AR (VR F U) args mD):SR P F (qx P F) U (invoke t args) (invoke t' mD):=by
 unfold invoke;cases ht with
 |fn hf hc=>exact agK K hG hf<|ha.app hc|nil=>exact .rt|method hI=>
  have h0:=ha.opt 0;dsimp only;generalize args[0]?=o at h0|-;generalize mD[0]?=o' at h0|-;cases h0 with
  |none=>exact .stuck|some hr=>
   have e:=(ha.extract 1 args.size)
   conv at e=>rhs;rw[ha.1]
   exact avB K hG hI hr e
def vM:Nat->Value->Bool
 |_,.bool _|_,.int _ _|_,.string _|_,.pointer none|_,.slice none _ _|_,.map none|_,.chan none|_,.nilFunc|_,.nilIface=>true|n+1,.agg c=>c.all<|vM n|n+1,.tuple c=>c.all<|vM n|n+1,.iface _ v=>vM n v|_,_=>false
theorem aeY:∀(n:Nat) (v:lH),vM n v->Plain v:=by
 have sc:∀(n:Nat) (v:lH),(∀c,v≠.agg c)->(∀c,v≠.tuple c)->(∀t w,v≠.iface t w)->vM n v->Plain v:=by
  intro n v h1 h2 h3 h F U;cases v with
  |bool b=>exact .bool b|int k i=>exact .int k i|string s=>exact .string s|pointer a=>cases a with
   |none=>exact .rA|some a=>cases n<;>simp[vM]at h
  |slice a l c=>cases a with
   |none=>exact .qI l c|some a=>cases n<;>simp[vM]at h
  |map a=>cases a with
   |none=>exact .xz|some a=>cases n<;>simp[vM]at h
  |chan a=>cases a with
   |none=>exact .yy|some a=>cases n<;>simp[vM]at h
  |nilFunc=>exact .nilFunc|nilIface=>exact .nilIface|agg c=>exact ll rfl<|h1 c|tuple c=>exact ll rfl<|h2 c|iface t w=>exact ll rfl<|h3 t w|float k b=>cases n<;>simp[vM]at h
  |complex k a b=>cases n<;>simp[vM]at h
  |func f a b=>cases n<;>simp[vM]at h
 intro n
 induction n with
 |zero=>
  intro v h;refine sc 0 v ?_ ?_ ?_ h
  .rintro c rfl;simp[vM]at h
  .rintro c rfl;simp[vM]at h
  rintro c w rfl;simp[vM]at h
 |succ n ih=>
  intro v h;have ar:∀c:lW,c.all (vM n)->∀F U,AR (VR F U) c c:=by intro c hc F U;refine⟨Z,fun i x y hx hy=>?_⟩;have e:=hx.symm.trans hy;injection e with e;subst e;rw[dR]at hc;exact ih x (hc x<|fz hx) F U
  by_cases h1:∃c,v=.agg c
  .obtain⟨c,rfl⟩:=h1;exact fun F U=>.Bd<|ar c h F U
  by_cases h2:∃c,v=.tuple c
  .obtain⟨c,rfl⟩:=h2;exact fun F U=>.tuple'<|ar c h F U
  by_cases h3:∃t w,v=.iface t w
  .obtain⟨t,w,rfl⟩:=h3;exact fun F U=>.iface t<|ih w h F U
  exact sc (n+1) v (fun c e=>h1 ⟨c,e⟩) (fun c e=>h2 ⟨c,e⟩) (fun t w e=>h3 ⟨t,w,e⟩) h
structure Scope where
 fns:FuncId->Bool
 Ex:String->Bool
 vars:pw
def Scope.x(S:Scope):Operand->Bool
 |.tmp _=>true|.const v=>vM 4 v|.global g=>S.vars g|.func f=>S.fns f
def Scope.call(S:Scope)(P:lY)(c:Call):Bool:=c.args.all S.x&&match c.callee with
 |.value f=>S.x f|.invoke r m=>S.x r&&S.Ex m|.builtin b=>match b with
  |.append|.cap|.clear|.copy|.delete|.len|.max|.min|.unsafeString=>true|_=>false
def Scope.op(S:Scope)(P:lY):Op->Bool
 |.move x|.assign x|.box _ x|.load _ x|.nilCheck x|.unOp _ _ x|.makeInterface _ x|.fieldAddr _ x _|.field _ x _|.typeAssert x _ _ _|.extract x _|.panic x=>S.x x|.pick c a b=>S.x c&&S.x a&&S.x b|.alloc _=>true|.build _ ps|.buildSlice _ _ ps=>ps.all fun p=>S.x p.2
 |.store _ a v|.makeSlice _ a v|.indexAddr _ a v|.index _ a v|.lookup _ a v _=>S.x a&&S.x v|.binOp _ t a v _=>S.x a&&S.x v&&OV P t|.convert s d x=>S.x x&&XH P s d|.makeFunc (.func f) first cap=>S.fns f&&first.all S.x&&cap.all S.x
 |.makeMap _ r=>r.all S.x|.slice _ x l h m=>S.x x&&l.all S.x&&h.all S.x&&m.all S.x|.mapUpdate _ m k v|.insert _ m k v=>S.x m&&S.x k&&S.x v|.call c=>S.call P c|.range _ x=>S.x x|.next x q=>S.x x&&q|_=>false
end
section
variable{P:lY}{S:Scope}{U:Ren}
theorem AR.mapA{α γ δ:Type}{R':γ->δ->Prop}{f:α->γ}{g:α->δ}{l:Array α}{p:α->Bool}(hl:l.all p)(h:∀a,p a->R' (f a) (g a)):AR R' (l.map f) (l.map g):=AR.same fun a ha=>h a (by rw[dR]at hl;exact hl a ha)
theorem OR.Qy{α γ δ:Type}{R':γ->δ->Prop}{f:α->γ}{g:α->δ}{o:Option α}{p:α->Bool}(hl:o.all p)(h:∀a,p a->R' (f a) (g a)):OR R' (o.map f) (o.map g):=by
 cases o with
 |none=>exact .none|some a=>exact .some<|h a hl
theorem qu{F:nj}{s s':Sem Value}(h:SR P F (fun U=>VR F U) U s s'):SR P F (qx P F) U (s>>= fun v=>pure (.value v)) (s'>>= fun v=>pure (.value v)):=h.bind fun mi a b _ r=>.ret (.value r)
theorem Y1{F:nj}{s s':Sem Unit}(h:SR P F (At U fun _ _=>True) U s s'):SR P F (qx P F) U (s>>= fun _=>pure .skip) (s'>>= fun _=>pure .skip):=h.at fun _ _ _=>.ret .skip
variable{F:nj}{I:String->Prop}{V:pw}
theorem avy(K:Okay P F I V)(hG:Gd P V U){b:Builtin}{ts:Array TypeId}{t:lT}{cs:pe}(ha:AR (VR F U) args mD)
  (hb:(match b with
   |.append|.cap|.clear|.copy|.delete|.len|.max|.min|.unsafeString=>true
   |_=>false)=true):SR P F (qx P F) U (builtin b ts t cs args) (builtin b ts t cs mD):=by
 unfold builtin;cases b
 all_goals first
  |(simp at hb;done)|skip
 case append=>
  by_cases hm:∃xt k,ts[1]?=some xt/\P.underlying xt=some (.int k)
  .obtain⟨xt,k,h1,h2⟩:=hm;exact qu<|avo K.ym ha ts t h1 h2
  exact qu<|avn K.ym ha ts t fun xt k e1 e2=>hm ⟨xt,k,e1,e2⟩
 case cap=>exact qu<|nV<|avC ha ts t
 case clear=>exact qu<|nV<|avD K.ym ha ts t
 case copy=>exact qu<|nV<|avF ha ts t
 case delete=>exact qu<|nV<|avH hG.base ha ts t
 case len=>exact qu<|nV<|avY ha ts t
 case max=>exact qu<|nV<|av6 ha ts t
 case min=>exact qu<|nV<|av9 ha ts t
 case unsafeString=>exact qu<|nV<|awv ha ts t
theorem avA(K:Okay P F I V)(hG:Gd P V U)(hI:∀m,S.Ex m->I m){ρ oK:Operand->Value}(oC:∀x,S.x x->VR F U (ρ x) (oK x))(c:Call)(t:lT)(hc:S.call P c):
  SR P F (qx P F) U (do let d<-resolve ρ c t;invoke d.target d.args) (do let d<-resolve oK c t;invoke d.target d.args):=by
 unfold resolve;unfold Scope.call at hc;rw[ij]at hc;obtain⟨h1,h2⟩:=hc;have ha:AR (VR F U) (c.args.map ρ) (c.args.map oK):=AR.mapA h1 oC;cases UX:c.callee with
 |value f=>
  rw[UX]at h2;have hv:=oC f h2;dsimp only;generalize ρ f=v at hv|-;generalize oK f=v' at hv|-;cases hv with
  |func hf h3 h4 h5 h6=>cases hf with
   |func hf=>exact YT (I:=I) K hG (.fn hf ⟨h5,h6⟩)<|AR.app ⟨h3,h4⟩ ha
  |nilFunc=>exact YT (I:=I) K hG .nil ha|Ew=>
   rename_i n n' a1 c1;refine .dead ?_;show nh P (invoke (.fn (.method n) #[])<|#[.nilIface]++Array.map ρ c.args);unfold invoke;have e:(#[Value.nilIface]++Array.map ρ c.args)[0]?=some .nilIface:=by rw[ef aq];rfl
   dsimp only;rw[e];show nh P (callMethod .nilIface n _);unfold callMethod;exact zr _
  |_=>exact .vQ
 |invoke r m=>rw[UX]at h2;rw[ij]at h2;exact YT K hG (.method<|hI m h2.2)<|(AR.nil.push<|oC r h2.1).app ha|builtin b=>rw[UX]at h2;exact avy K hG ha h2
theorem awc(t:lT){x:lH}(hx:VR F U x x'):SR P F (At U (VR F U)) U (Instr.next x true t) (Instr.next x' true t):=by
 unfold Instr.next
 cases hx with
 |ptr ha=>
  rename_i a a';obtain⟨b,o,s⟩:=a;obtain⟨b',o',s'⟩:=a';obtain⟨h1,h2,h3⟩:=ha;dsimp only at h1 h2 h3;subst h2;cases o' with
  |succ n=>exact .stuck|zero=>
   refine .Bw h1 fun u u' hu=>?_;cases hu with
   |stringIter s p=>
    dsimp only;split
    .exact .Kq h1 (.stringIter _ _)<|.ret ⟨Z,.tuple'<|((AR.nil.push<|.bool true).push<|.int _ _).push<|.int _ _⟩
    exact .ret ⟨Z,.tuple'<|AR.nil.push<|.bool false⟩
   |_=>exact .stuck
 |_=>exact .stuck
theorem avN(K:Okay P F I V)(hG:Gd P V U)(hI:∀m,S.Ex m->I m)(hF:∀f,S.fns f->F f){ρ oK:Operand->Value}(oC:∀x,S.x x->VR F U (ρ x) (oK x))(o:Oper)(ho:S.op P o.op):
  SR P F (qx P F) U (execOp ρ o) (execOp oK o):=by
 unfold execOp;dsimp only;cases mw:o.op
 all_goals
  rw[mw]at ho;simp only[Scope.op,ij,gy]at ho
 case move x=>exact .ret<|.value<|oC x ho
 case assign x=>exact .ret<|.value<|oC x ho
 case pick c a b=>
  refine(YP<|oC c ho.1.1).eq fun q=>?_;cases q with
  |true=>exact .ret<|.value<|oC a ho.1.2|false=>exact .ret<|.value<|oC b ho.2
 case alloc e=>exact qu<|avm K.ym e
 case box e x=>exact qu<|avv e<|oC x ho
 case build t ps=>exact qu<|nV<|avw K.ym t<|AR.mapA ho fun p hp=>⟨rfl,oC _ hp⟩
 case buildSlice t n ps=>exact qu<|avx K.ym t n<|AR.mapA ho fun p hp=>⟨rfl,oC _ hp⟩
 case load t a=>exact qu<|nV<|av0 t<|oC a ho
 case store t a x=>exact Y1<|awp t (oC a ho.1)<|oC x ho.2
 case range t x=>exact qu<|awi t<|oC x ho
 case next x q=>obtain⟨h1,rfl⟩:=ho;exact qu<|nV<|awc _<|oC x h1
 case nilCheck x=>
  have hx:=oC x ho;dsimp only;generalize ρ x=v at hx|-;generalize oK x=v' at hx|-;cases hx with
  |rA=>exact .rt|nilIface=>exact .rt|nilFunc=>exact .rt|func hf h1 h2 h3 h4=>cases hf with
   |func hf=>exact .ret<|.value<|.func (.func hf) h1 h2 h3 h4
  |bool b=>exact .ret<|.value<|.bool b|int k n=>exact .ret<|.value<|.int k n|string s=>exact .ret<|.value<|.string s|ptr h=>exact .ret<|.value<|.ptr h|qI l c=>exact .ret<|.value<|.qI l c|slice l c h=>exact .ret<|.value<|.slice l c h|tn a=>exact .ret<|.value<|.tn a|xz=>exact .ret<|.value .xz|map h=>exact .ret<|.value<|.map h|yy=>exact .ret<|.value .yy|chan h=>exact .ret<|.value<|.chan h|iface t ih=>exact .ret<|.value<|.iface t ih|agg h ih=>exact .ret<|.value<|.agg h ih|tuple h ih=>exact .ret<|.value<|.tuple h ih|hole h1 h2 h3 h4=>
   have hh:VR F U (.tuple #[]) v':=.hole h1 h2 h3 h4;obtain⟨g1,g2,g3,g4⟩:=h4;cases v' with
   |pointer a=>cases a with
    |none=>exact ll rfl g1.1|some a=>exact .ret<|.value hh
   |nilIface=>exact ll rfl g2|nilFunc=>exact ll rfl g3|func fn a c=>cases fn with
    |method n=>exact ll rfl<|g4 _ _ _|_=>exact .ret<|.value hh
   |_=>exact .ret<|.value hh
  |Ew=>exact .rt
 case binOp op t x y yt=>exact qu<|avR hG.base op t x y (oC x ho.1.1) (oC y ho.1.2) ho.2
 case unOp op t x=>exact qu<|nV<|awu op<|oC x ho
 case convert s d x=>exact qu<|avE s d ho.2<|oC x ho.1
 case makeInterface t x=>exact qu<|nV<|av2 t<|oC x ho
 case makeFunc fn first cap=>
  cases fn with
  |func f=>simp only[ij]at ho;exact .ret<|.value<|.abG (.func<|hF f ho.1.1) (AR.mapA ho.1.2 oC)<|AR.mapA ho.2 oC|_=>simp at ho
 case makeMap t r=>exact qu<|av3 t<|OR.Qy ho oC
 case makeSlice t l c=>exact qu<|av4 K.ym t (oC l ho.1)<|oC c ho.2
 case slice t x l h m=>exact qu<|nV<|awo t (oC x ho.1.1.1) (OR.Qy ho.1.1.2 oC) (OR.Qy ho.1.2 oC)<|OR.Qy ho.2 oC
 case fieldAddr t x n=>exact qu<|nV<|avQ t (oC x ho) n
 case field t x n=>exact qu<|nV<|avP t (oC x ho) n
 case indexAddr t x i=>exact qu<|nV<|avT t (oC x ho.1)<|oC i ho.2
 case index t x i=>exact qu<|nV<|avS t (oC x ho.1)<|oC i ho.2
 case lookup t x i ok=>exact qu<|nV<|av1 K.ym hG.base t (oC x ho.1) (oC i ho.2) ok
 case mapUpdate t m k v=>exact Y1<|agP hG.base t (oC m ho.1.1) (oC k ho.1.2)<|oC v ho.2
 case insert t m k v=>exact Y1<|agP hG.base t (oC m ho.1.1) (oC k ho.1.2)<|oC v ho.2
 case typeAssert x xt t ok=>exact qu<|nV<|aws K.ym (oC x ho) xt t ok
 case extract x i=>exact qu<|nV<|avO (oC x ho) i
 case call c=>exact avA K hG hI oC c o.type ho
 case panic x=>exact qu<|awg<|oC x ho
end
def Scope.code(S:Scope)(P:lY):Code->Bool
 |.skip|.ret|.exit _|.label _=>true|.region _ aBi _=>aBi.all fun o=>S.op P o.op
 |.seq a b=>S.code P a&&S.code P b|.cond c a b=>S.x c&&S.code P a&&S.code P b|.block _ c|.loop c|.scope c=>S.code P c|_=>false
def Scope.item(S:Scope)(P:lY):Item->Bool
 |.code c|.inLoop c|.inScope c=>S.code P c|.inBlock _=>true|.inRegion aBi l=>l.all fun i=>match aBi[i]? with|some o=>S.op P o.op|none=>true
 |_=>false
structure Fh(P:lY)(S:Scope):Prop extends Okay P (fun f=>S.fns f) (fun m=>S.Ex m) S.vars where
 code:∀f fn c,S.fns f->P.funcs[f]?=some fn->fn.body=some c->S.code P c
def fm(f:FuncId)(t:lW)(todo:nA):Frame:=(base f).at ⟨t,[]⟩ todo
def rI(f:FuncId)(t:lW)(todo:nA):Frame:={fm f t todo with mode:=.returning}
def oN:Frame:={fn:=0,tmps:= #[],todo:=[.code (.refuse "")],defers:=[{target:=.builtin .make #[] 0 #[],args:= #[]}],mode:=.run,kind:=.normal}
section
variable{P:lY}{S:Scope}
def pX:Item:=.code (.refuse "")
def IJ(fr:Frame):Prop:=fr.mode≠.returning/\(fr.mode=.run->fr.todo≠[pX])
def Fj(P:lY)(m:Machine):Prop:=∀n fr w,runN P n m=.next (lone fr [oN] w)->IJ fr
theorem JK{fr tC:Frame}{cs cs':nX}(h:lone fr cs w=lone tC cs' w'):fr=tC/\cs=cs'/\w=w':=by simp only[lone,Machine.mk.injEq,Array.mk.injEq,iV,Goroutine.mk.injEq]at h;exact⟨h.2.1.1.1,h.2.1.1.2.1,h.1⟩
theorem JL{fr:Frame}{cs:nX}{o:Outcome}(h:step P (lone fr cs w)=.ended o w')(hn:IJ fr\/cs≠[oN]):Fj P (lone fr cs w):=by
 intro n fr2 w2 hr;cases n with
 |zero=>simp only[runN,gL]at hr;obtain⟨rfl,h2,_⟩:=JK hr;exact hn.elim id fun h=>ll h2 h
 |succ n=>simp only[runN,h]at hr;exact ll hr aq
theorem Xn{fr:Frame}{cs:nX}{m:Machine}(h:step P (lone fr cs w)=.next m)(hn:IJ fr\/cs≠[oN])(hl:Fj P m):Fj P (lone fr cs w):=by
 intro n fr2 w2 hr;cases n with
 |zero=>simp only[runN,gL]at hr;obtain⟨rfl,h2,_⟩:=JK hr;exact hn.elim id fun h=>ll h2 h
 |succ n=>simp only[runN,h]at hr;exact hl n fr2 w2 hr
def R1(fr:Frame):Prop:=fr.defers=[]/\∃fn,P.funcs[fr.fn]?=some fn
theorem ad0{chain:List PanicEntry}:∀{cs:nX} {fr:Frame} {w:lE},R1 (P:=P) fr->fr.mode=.panicking chain->(∀c∈cs,R1 (P:=P) c/\c.mode=.run)->Fj P (lone fr (cs++[oN]) w)
 |[],fr,w,⟨hd,fn,hf⟩,hm,_=>by
  have h1:step P (lone fr ([]++[oN]) w)=.next (lone (oN.raise chain) [] w):=kp cX
  refine Xn h1 (.inl ⟨by rw[hm];simp,by rw[hm];simp⟩)<|JL (o:=.stuck "make, new: Elab turns them into operations of their own"<|(oN.raise chain).pos P) (w':=w) ?_<|.inr aq
  exact jq (by
   simp only[stepG,unwind,oN,Frame.raise]
   rfl)
 |c::cs,fr,w,⟨hd,fn,hf⟩,hm,hc=>by
  have⟨⟨hcd,FG,hcf⟩,qb⟩:=hc c<|gE;have h1:step P (lone fr (c::cs++[oN]) w)=.next (lone (c.raise chain) (cs++[oN]) w):=kp cX
  refine Xn h1 (.inl ⟨by rw[hm];simp,by rw[hm];simp⟩)<|ad0 (chain:=chain) ⟨?_,FG,?_⟩ ?_ fun c' vc=>hc c'<|fT _ vc
  .simp[Frame.raise,qb,hcd]
  .simp[Frame.raise,qb,hcf]
  simp[Frame.raise,qb]
theorem ad1{v:lH}:Fj P (lone (oN.finish v) [] w):=by
 obtain⟨o,ho⟩:∃o,step P (lone (oN.finish v) [] w)=.ended o w:=⟨_,jq<|by simp only[stepG,stepG.exec,oN,Frame.finish];rfl⟩
 exact JL ho<|.inr aq
theorem RB{main:Bool}{b:Frame}{a:Act}{cs:nX}{todo:nA}{c:Frame}(hn:b.kind=.normal)(hd:a.defers=[])(hf:P.funcs[b.fn]?=some fn)
  (hr:(results fn a.tmps).run P w=.ok u w'):stepG P main (G {b.at a todo with mode:=.returning}<|c::cs) w=.go (G (c.finish u) cs) w' (seen P b.fn<|(results fn a.tmps).events P w #[]):=by
 simp[G,stepG,unwind,doReturn,Frame.at,hn,hd,hf,hr,GStep.after]
theorem Y4{main:Bool}{b:Frame}{a:Act}{k:nA}{cs:nX}{t:Nat}(h:(choose (.order b.fn id)).run P w=.ok t w'):
  stepG P main (G (b.at a (.code (.region id aBi true)::k)) cs) w=.go (G (b.at a (.inRegion aBi (Region.schedule (P.follows .mixedOrders) aBi t)::k)) cs) w':=by
 simp[G,stepG,stepG.exec,Frame.at,h]
end
section
variable(P:lY)(S:Scope)
abbrev SF:FuncId->Prop:=fun f=>S.fns f=true
def yf(l:nA):Prop:=∀it∈l,S.item P it=true
inductive Oa(U:Ren)(s r:nA):Frame->Frame->Prop where
 |run {f:FuncId} {t t':lW} {todo:nA}:AR (VR (SF S) U) t t'->yf P S todo->(∃fn,P.funcs[f]?=some fn)->Oa U s r (fm f t<|todo++s) (fm f t'<|todo++r)
inductive Fu(U:Ren)(s r:nA):Frame->Frame->Prop where
 |run {fr tC:Frame}:Oa P S U s r fr tC->Fu U s r fr tC|ret {f:FuncId} {t t':lW} {todo pR:nA}:AR (VR (SF S) U) t t'->(∃fn,P.funcs[f]?=some fn)->Fu U s r (rI f t todo) (rI f t' pR)
def nQ(r:nA):List Frame->List Item
 |[]=>r|_::_=>[]
inductive GW(U:Ren)(s r:nA):Frame->Frame->Prop where
 |run {f:FuncId} {t t':lW} {ops:nI} {i:Nat} {rest:nN} {k:nA}:AR (VR (SF S) U) t t'->yf P S (.inRegion ops (i::rest)::k)->(∃fn,P.funcs[f]?=some fn)->
  GW U s r (fm f t<|(.inRegion ops (i::rest)::k)++s) (fm f t'<|(.inRegion ops (i::rest)::k)++r)
inductive xH(U:Ren)(s r:nA):List Frame->List Frame->Prop where
 |nil:xH U s r [] []|cons {c c':Frame} {l l':nX}:GW P S U (nQ s l) (nQ r l) c c'->xH U s r l l'->xH U s r (c::l) (c'::l')
structure Oe(fr:Frame)(cs:nX)(v:lE)(fr1:Frame)(cs1:nX)(v1:lE):Prop where
 drawn:v.drawn<=v1.drawn
 tape:∀j,j<v.drawn->v1.tape j=v.tape j
 go:∀t,(∀j,j<v1.drawn->t j=v1.tape j)->step P (lone fr (cs++[oN])<|v.tp t)=.next (lone fr1 (cs1++[oN])<|v1.tp t)
def yr(s r:nA)(main:Bool)(R M:lF)(cs0:nX)(U:Ren)(fr:Frame)(cs:nX)(v:lE)(tC:Frame)(cs':nX)(w:lE):Prop:=
 (∃t,(∀j,j<v.drawn->t j=v.tape j)/\Fj P (lone fr (cs++[oN])<|v.tp t))\/
 ∃fr1 cs1 v1,Oe P fr cs v fr1 cs1 v1/\∃mi fr1' cs1' w1 es,stepG P main (G tC<|cs'++cs0) w=.go (G fr1'<|cs1'++cs0) w1 es/\U.Le mi/\Fu P S mi (nQ s cs1) (nQ r cs1) fr1 fr1'/\xH P S mi s r cs1 cs1'/\
  nB (SF S) mi R v1 w1/\nJ M w w1/\(∀e∈es,oc (grown M w.heap.size w1.heap.size) R e)/\(∀k k',mi.to k=some k'->mi.own k->grown M w.heap.size w1.heap.size k')
end
section
variable{P:lY}{S:Scope}{s r:nA}{main:Bool}{R M:lF}{cs0:nX}{U:Ren}{fr tC:Frame}{cs cs':nX}{v w:lE}
theorem GW.mono{mi:Ren}(h:GW P S U s r fr tC)(k:U.Le mi):GW P S mi s r fr tC:=by
 cases h with
 |run ht ho hf=>exact .run (ht.mono fun _ _ h=>h.mono k) ho hf
theorem xH.mono{mi:Ren}(h:xH P S U s r cs cs')(k:U.Le mi):xH P S mi s r cs cs':=by
 induction h with
 |nil=>exact .nil|cons h _ ih=>exact .cons (h.mono k) ih
theorem HU{fr1:Frame}{cs1:nX}{w1:lE}{es:Array Event}(h:stepG P true (G fr cs) w=.go (G fr1 cs1) w1 es):step P (lone fr cs w)=.next (lone fr1 cs1 w1):=
 kp (by
  have e:({frame:=fr,callers:=cs,status:=.running,dying:=none}:lZ)=G fr cs:=rfl
  rw[e,h];rfl)
theorem yr.run{α β:Type}{Q:Ren->α->β->Prop}{sm:Sem α}{sm':Sem β}(h:SR P (SF S) Q U sm sm')(hW:nB (SF S) U R v w)(hM:∀k k',U.to k=some k'->U.own k->M k')
  (A:α->Frame) (B:α->List Frame) (A':β->Frame) (B':β->List Frame)
  (hl:∀V a V1 mi b,Q mi a b->sm.run P V=.ok a V1->step P (lone fr (cs++[oN]) V)=.next (lone (A a) (B a++[oN]) V1))
  (rT:∀V x V1,sm.run P V=.halt x V1->AT x->Fj P (lone fr (cs++[oN]) V))
  (hr:∀b w1 mi a,Q mi a b->sm'.run P w=.ok b w1->∃es,stepG P main (G tC<|cs'++cs0) w=.go (G (A' b)<|B' b++cs0) w1 es/\∀e∈es,e∈(sm'.runT P w #[]).2)
  (hq:∀mi a b,U.Le mi->Q mi a b->Fu P S mi (nQ s<|B a) (nQ r<|B a) (A a) (A' b)/\xH P S mi s r (B a) (B' b)):yr P S s r main R M cs0 U fr cs v tC cs' w:=by
 have⟨t,h1,h2⟩:=SR.run h (es:= #[]) hW hM;rcases h2 with⟨x,v1,h3,h4⟩|⟨a,v1,h3,h4,h5,h6,mi,b,w1,u,h7,h8,h9,xf,FJ,rk,Ja,Jb⟩
 .exact .inl ⟨t,h1,rT _ _ _ h3 h4⟩
 have nK:sm'.run P w=.ok b w1:=by rw[<-Sem.runT_fst P sm' w #[],h7]
 have⟨es,h15,Hg⟩:=hr b w1 mi a h9 nK;have⟨o9,Jc⟩:=hq mi a b h8 h9;refine .inr ⟨A a,B a,v1,⟨h4,fun j hj=>by rw[h5];exact h1 j hj,fun t2 h=>hl _ a _ mi b h9<|h6 t2 fun j hj=>by rw[h j hj,h5]⟩,mi,A' b,B' b,w1,es,h15,h8,o9,Jc,xf,FJ,fun e he=>?_,Ja⟩;have:=Hg e he;rw[h7]at this;exact rk e (by simpa using this)
theorem yr.move{fr1 fr1':Frame}{cs1 cs1':nX}(hW:nB (SF S) U R v w)(hM:∀k k',U.to k=some k'->U.own k->M k')(hl:∀V,stepG P true (G fr (cs++[oN])) V=.go (G fr1 (cs1++[oN])) V)(hr:stepG P main (G tC (cs'++cs0)) w=.go (G fr1' (cs1'++cs0)) w)
  (h1:Fu P S U (nQ s cs1) (nQ r cs1) fr1 fr1') (h2:xH P S U s r cs1 cs1'):yr P S s r main R M cs0 U fr cs v tC cs' w:=
 .inr ⟨fr1,cs1,v,⟨ku _,fun _ _=>rfl,fun t _=>HU<|hl _⟩,U,fr1',cs1',w, #[],hr,Ren.Le.refl _,h1,h2,hW,nJ.refl _ _,fun e he=>by simp at he,fun k k' e1 e2=>.inl<|hM k k' e1 e2⟩
theorem yr.lost{o:World->Outcome}(hl:∀V,(stepG P true (G fr (cs++[oN])) V).bare=.ended (o V) V)(hn:IJ fr\/cs≠[]):yr P S s r main R M cs0 U fr cs v tC cs' w:=
 .inl ⟨v.tape,fun _ _=>rfl,JL (o:=o v) (w':=v) (jq<|hl _)<|hn.imp id fun h e=>h dM⟩
theorem Bs{id:Nat}:∀{k k':nA},exitTo id k=some k'->yf P S k->yf P S k'
 |[],_,h,_=>by simp[exitTo]at h
 |it::k,k',h,ho=>by
  have hk:yf P S k:=fun x hx=>ho x<|fT _ hx;cases it with
  |inBlock id'=>
   simp only[exitTo]at h;split at h
   .injection h with h;subst h;exact hk
   exact Bs h hk
  |code c=>exact Bs ay hk|inLoop c=>exact Bs ay hk|inScope c=>exact Bs ay hk|inRegion aBi l=>exact Bs ay hk|inRangeFunc l=>exact Bs ay hk|endRangeFunc l=>exact Bs ay hk|beginRound=>exact Bs ay hk|call a b c d=>exact Bs ay hk|extern a b=>exact Bs ay hk
theorem Bn{id:Nat}{s:nA}:∀{k k':nA},exitTo id k=some k'->exitTo id (k++s)=some (k'++s)
 |[],_,h=>by simp[exitTo]at h
 |it::k,k',h=>by
  cases it with
  |inBlock id'=>
   simp only[exitTo,ir]at h|-;split at h
   .injection h with h;subst h;rw[lq aX]
   rw[lp aX];exact Bn h
  |code c=>exact Bn (k:=k) ay|inLoop c=>exact Bn (k:=k) ay|inScope c=>exact Bn (k:=k) ay|inRegion aBi l=>exact Bn (k:=k) ay|inRangeFunc l=>exact Bn (k:=k) ay|endRangeFunc l=>exact Bn (k:=k) ay|beginRound=>exact Bn (k:=k) ay|call a b c d=>exact Bn (k:=k) ay|extern a b=>exact Bn (k:=k) ay
theorem alP(h:GW P S U s r fr tC){u':lH}(hu:VR (SF S) U u u'):Oa P S U s r (fr.finish u) (tC.finish u'):=by
 cases h with
 |run ht ho hf=>
  rename_i f t t' aBi i rest k;have e:∀(t:lW) (u:lH) (k:nA),(fm f t<|.inRegion aBi (i::rest)::k).finish u=fm f (Act.put ⟨t,[]⟩ ((aBi[i]?).bind (·.dst)) u).tmps (.inRegion aBi rest::k):=by intro t u k;unfold fm;rw[iQ];cases(aBi[i]?).bind (·.dst)<;>rfl
  rw[ir,e,ir,e];refine .run (todo:=.inRegion aBi rest::k) ?_ (fun it hit=>?_) hf
  .cases(aBi[i]?).bind (·.dst)with
   |none=>exact ht|some d=>exact ht.set d hu
  rcases jM.1 hit with rfl|h
  .have:=ho (.inRegion aBi<|i::rest) gE;simp only[Scope.item,jK,ij]at this|-;exact this.2
  exact ho _<|fT _ h
theorem xH.ajE(h:xH P S U s r cs cs'):∀c∈cs,R1 (P:=P) c/\c.mode=.run:=by
 induction h with
 |nil=>intro c hc;simp at hc
 |cons hx _ ih=>
  intro c hc;rcases jM.1 hc with rfl|hc
  .cases hx with
   |run _ _ h=>exact⟨⟨rfl,h⟩,rfl⟩
  exact ih c hc
theorem SR.arB{F:nj}{γ δ δ':Type}{Rr:δ->δ'->Prop}{g:γ->Sem δ}{g':γ->Sem δ'}(h:∀a,SR P F (At U Rr) U (g a) (g' a))(l:Array γ):SR P F (At U (AR Rr)) U (l.mapM g) (l.mapM g'):=by
 have key:∀l:List γ,SR P F (At U<|LR Rr) U (l.mapM g) (l.mapM g'):=by
  intro l
  induction l with
  |nil=>exact .ret ⟨rfl,.nil⟩|cons a l ih=>rw[jw,jw];exact(h a).at fun x x' hx=>ih.at fun y y' hy=>.ret ⟨rfl,.cons hx hy⟩
 rw[eC,eC];exact(key _).at fun x x' hx=>.ret ⟨Z,hx.ar⟩
theorem agW(fn:Func)(ht:AR (VR (SF S) U) t t'):SR P (SF S) (At U (VR (SF S) U)) U (results fn t) (results fn t'):=by
 unfold results;refine SR.at (SR.arB (Rr:=VR (SF S) U) (fun r=>?_) _) fun vs vs' AB=>?_
 .cases r with
  |tmp x=>exact .ret ⟨rfl,ht.getD _ .undef⟩|cell a ty=>exact(NM<|ht.getD a .undef).at fun p p' hp=>Gt ty hp
 refine .ret ⟨Z,?_⟩;have hs:=AB.1;by_cases h1:vs.size=1
 .rw[lh h1,lh<|hs▸h1];exact AB.2 0 _ _ (eB aa)<|eB aa
 rw[dif_neg h1,dif_neg<|hs▸h1];exact .tuple' AB
end
section
variable{P:lY}{S:Scope}{main:Bool}{R M:lF}{cs0:nX}{s r:nA}{U:Ren}{cs cs':nX}{v w:lE}
theorem abp{F:nj}(hS:∀f,S.fns f->F f)(hV:∀g,S.vars g->U.to g=some g)(ht:AR (VR F U) t t')(x:mN)(hx:S.x x):VR F U (Act.eval ⟨t,[]⟩ x) (Act.eval ⟨t',[]⟩ x):=by
 cases x with
 |tmp i=>exact ht.getD i .undef|const v=>exact aeY 4 v hx F U|global g=>exact .ptr ⟨hV g hx,rfl,rfl⟩|func f=>exact .abG (.func<|hS f hx) .nil .nil
theorem ahK{F:nj}(ht:AR (VR F U) t t')(aBi:nI)(o:Oper):Region.wanted o (yielded aBi t')=Region.wanted o (yielded aBi t):=by
 have e:yielded aBi t'=yielded aBi t:=by
  funext j;unfold yielded;cases(aBi[j]?).bind (·.dst)with
  |none=>rfl|some d=>
   dsimp only[Option.bind_some];have:=ht.opt d;generalize t[d]?=a at this|-;generalize t'[d]?=b at this|-;cases this with
   |none=>rfl|some h=>
    cases h with
    |hole h1 h2 h3 h4=>rename_i y;cases y<;>first|rfl|exact ll rfl<|h3 _
    |_=>rfl
 rw[e]
theorem Bq{id:Nat}{s:nA}:∀{k:nA},exitTo id k=none->exitTo id s=none->exitTo id (k++s)=none
 |[],_,h=>h|it::k,h,h2=>by
  cases it with
  |inBlock id'=>
   simp only[exitTo,ir]at h|-;split at h
   .cases h
   rw[lp aX];exact Bq h h2
  |code c=>exact Bq (k:=k) ay h2|inLoop c=>exact Bq (k:=k) ay h2|inScope c=>exact Bq (k:=k) ay h2|inRegion aBi l=>exact Bq (k:=k) ay h2|inRangeFunc l=>exact Bq (k:=k) ay h2|endRangeFunc l=>exact Bq (k:=k) ay h2|beginRound=>exact Bq (k:=k) ay h2|call a b c d=>exact Bq (k:=k) ay h2|extern a b=>exact Bq (k:=k) ay h2
theorem awN(K:Fh P S)(hG:P.globals.size<=U.base)(hV:∀g,S.vars g->U.to g=some g){todo:nA}(ht:AR (VR (SF S) U) t t')(ho:yf P S todo)(hf:∃fn,P.funcs[f]?=some fn)
  (apv:∀id,exitTo id s=none) (mK:cs=[]->todo≠[]\/(s=[]/\r=[])) (mL:xH P S U s r cs cs') (hW:nB (SF S) U R v w) (hM:∀k k',U.to k=some k'->U.own k->M k'):yr P S s r main R M cs0 U (fm f t<|todo++nQ s cs) cs v (fm f t'<|todo++nQ r cs) cs' w:=by
 have nK:∀{pR:nA},yf P S pR->Fu P S U (nQ s cs) (nQ r cs) (fm f t<|pR++nQ s cs) (fm f t'<|pR++nQ r cs):=fun h=>.run<|.run ht h hf;have mv:∀{pR:nA},yf P S pR->(∀(mn:Bool) (cs:nX) (t:lW) (V:lE) (s:nA),AR (VR (SF S) U) t t'\/t=t'->stepG P mn (G (fm f t<|todo++s) cs) V=.go (G (fm f t<|pR++s) cs) V)->yr P S s r main R M cs0 U (fm f t<|todo++nQ s cs) cs v (fm f t'<|todo++nQ r cs) cs' w:=fun h1 h2=>
  .move hW hM (fun V=>h2 _ _ _ _ _<|.inl ht) (h2 _ _ _ _ _<|.inr rfl) (nK h1) mL
 have MM:∀id,exitTo id (nQ s cs)=none:=fun id=>by
  cases cs with
  |nil=>exact apv id|cons _ _=>rfl
 have acV:todo=[]->nQ s cs=[]/\nQ r cs=[]:=fun e=>by
  cases cs with
  |nil=>exact(mK rfl).resolve_left<|fun h=>h e
  |cons _ _=>exact⟨rfl,rfl⟩
 have afZ:(∀(mn:Bool) (cs:nX) (t:lW) (V:lE) (s:nA),(todo=[]->s=[])->stepG P mn (G (fm f t<|todo++s) cs) V=.go (G (rI f t<|todo++s) cs) V)->yr P S s r main R M cs0 U (fm f t<|todo++nQ s cs) cs v (fm f t'<|todo++nQ r cs) cs' w:=fun h2=>
  .move hW hM (fun V=>h2 _ _ _ _ _ fun e=>(acV e).1) (h2 _ _ _ _ _ fun e=>(acV e).2) (.ret ht hf) mL
 cases todo with
 |nil=>exact afZ fun mn cs t V s hs=>by rw[hs rfl];exact stepG_end
 |cons it k=>
  have hk:yf P S k:=fun x hx=>ho x<|fT _ hx;have hit:S.item P it:=ho it gE
  have nr:IJ (fm f t (it::(k++nQ s cs))):=⟨by simp[fm,Frame.at],fun _ e=>by
   have e1:it::(k++nQ s cs)=[pX]:=e;injection e1 with e1 e2;rw[e1]at hit
   simp[pX,Scope.item,Scope.code]at hit⟩
  have Nh:∀{i:Item},S.item P i->yf P S (i::k):=fun h x hx=>(jM.1 hx).elim (fun e=>e▸h)<|hk x;have Ni:∀{i j:Item},S.item P i->S.item P j->yf P S (i::j::k):=fun h h' x hx=>(jM.1 hx).elim (fun e=>e▸h)<|Nh h' x;cases it with
  |inBlock id=>exact mv hk fun mn cs t V s _=>jS
  |inScope c=>exact mv hk fun mn cs t V s _=>by simp[fm,G,stepG,stepG.exec,Frame.at]
  |inLoop c=>exact mv (Ni (i:=.code c) (j:=.inLoop c) hit hit) fun mn cs t V s _=>kj
  |inRangeFunc l=>exact ll hit cY|endRangeFunc l=>exact ll hit cY|beginRound=>exact ll hit cY|call a b c d=>exact ll hit cY|extern a b=>exact ll hit cY|code c=>
   have hc:S.code P c:=hit;cases c with
   |skip=>exact mv hk fun mn cs t V s _=>stepG_skip
   |label l=>exact mv hk fun mn cs t V s _=>stepG_label
   |ret=>exact afZ fun mn cs t V s _=>stepG_ret'
   |seq a b=>simp only[Scope.code,ij]at hc;exact mv (Ni (i:=.code a) (j:=.code b) hc.1 hc.2) fun mn cs t V s _=>kW
   |block id c=>exact mv (Ni (i:=.code c) (j:=.inBlock id) hc rfl) fun mn cs t V s _=>kE
   |loop c=>exact mv (Ni (i:=.code c) (j:=.inLoop c) hc hc) fun mn cs t V s _=>stepG_loop
   |scope c=>exact mv (Ni (i:=.code c) (j:=.inScope c) hc hc) fun mn cs t V s _=>by simp[fm,G,stepG,stepG.exec,Frame.at]
   |goto l=>exact ll hc (by simp[Scope.code])|rangeFunc a b c d=>exact ll hc (by simp[Scope.code])|refuse s=>exact ll hc (by simp[Scope.code])|exit id=>
    cases he:exitTo id k with
    |some k'=>exact mv (Bs he hk) fun mn cs t V s _=>stepG_exit<|Bn he
    |none=>refine .lost (o:=fun V=>.stuck "exit, goto: no such block or label"<|(fm f t<|.code (.exit id)::(k++nQ s cs)).pos P) (fun V=>?_)<|.inl nr;simp[fm,G,stepG,stepG.exec,Frame.at,Bq he<|MM id,base]
   |cond c a b=>
    simp only[Scope.code,ij]at hc;have hx:=abp (fun _ h=>h) hV ht c hc.1.1;by_cases hb:∃q,Act.eval ⟨t,[]⟩ c=.bool q
    .obtain⟨q,hq⟩:=hb;have wH:Act.eval ⟨t',[]⟩ c=.bool q:=by
      rw[hq]at hx;generalize Act.eval ⟨t',[]⟩ c=u at hx;cases hx;rfl
     refine .move (fr1:=fm f t<|(.code (if q then a else b)::k)++nQ s cs) (fr1':=fm f t'<|(.code (if q then a else b)::k)++nQ r cs) (cs1:=cs) (cs1':=cs') hW hM (fun V=>stepG_cond hq) (stepG_cond wH) (nK<|Nh ?_) mL;cases q
     .exact hc.2
     exact hc.1.2
    refine .lost (o:=fun V=>.stuck "cond: bool expected"<|(fm f t<|.code (.cond c a b)::(k++nQ s cs)).pos P) (fun V=>?_)<|.inl nr;have h':(fm f t<|.code (.cond c a b)::(k++nQ s cs)).eval c=Act.eval ⟨t,[]⟩ c:=Frame.eval_at _ _ _ _;generalize Act.eval ⟨t,[]⟩ c=u at hb h';simp only[fm,Frame.at]at h';cases u<;>first
     |exact ll ⟨_,rfl⟩ hb|(simp[fm,G,stepG,stepG.exec,Frame.at,h'];done)
   |region id aBi draw=>
    have ME:∀l,S.item P (.inRegion aBi l):=fun l=>by
     have vc:aBi.all (fun o=>S.op P o.op):=hc;rw[dR]at vc;simp only[Scope.item,iq];intro i _;cases ho:aBi[i]? with
     |none=>rfl|some o=>exact vc o<|fz ho
    cases draw with
    |false=>exact mv (Nh (i:=.inRegion aBi<|List.range aBi.size)<|ME _) fun mn cs t V s _=>ko
    |true=>
     refine yr.run (Q:=At U Eq) (sm:=choose<|.order f id) (sm':=choose<|.order f id) (.choose fun n=>.pure ⟨Z,Z⟩) hW hM
      (fun n=>fm f t<|(.inRegion aBi (Region.schedule (P.follows .mixedOrders) aBi n)::k)++nQ s cs) (fun _=>cs) (fun n=>fm f t'<|(.inRegion aBi (Region.schedule (P.follows .mixedOrders) aBi n)::k)++nQ r cs) (fun _=>cs')
      (fun V a V1 mi b hq hr=>HU<|Y4 hr) (fun V x V1 hr hb=>?_) (fun b w1 mi a hq hr=>⟨#[],Y4 hr,fun e he=>by simp at he⟩) (fun mi a b aBm hq=>?_)
     .simp[choose,Sem.run,Question.forced]at hr
     obtain⟨rfl,rfl⟩:=hq;exact⟨nK<|Nh (i:=.inRegion aBi _)<|ME _,mL⟩
  |inRegion aBi l=>
   cases l with
   |nil=>exact mv hk fun mn cs t V s _=>iM
   |cons i rest=>
    have acH:(match aBi[i]? with|some o=>S.op P o.op|none=>true)=true/\S.item P (.inRegion aBi rest)=true:=by have h:=hit;simp only[Scope.item,jK,ij]at h|-;exact h
    have BS:yf P S (.inRegion aBi rest::k):=Nh (i:=.inRegion aBi rest) acH.2;cases CU:aBi[i]? with
    |none=>refine mv BS fun mn cs t V s _=>?_;simp[fm,G,stepG,stepG.exec,Frame.at,CU,Frame.finish]
    |some o=>
     have mw:S.op P o.op:=by have h:=acH.1;rw[CU]at h;exact h
     have Ww:∀{mi:Ren} {u u':lH},AR (VR (SF S) mi) t t'->VR (SF S) mi u u'->AR (VR (SF S) mi) (Act.put ⟨t,[]⟩ o.dst u).tmps (Act.put ⟨t',[]⟩ o.dst u').tmps:=by
      intro mi u u' h hu;cases o.dst with
      |none=>exact h|some d=>exact h.set d hu
     cases hw:Region.wanted o (yielded aBi t)with
     |false=>
      have HP:Region.wanted o (yielded aBi t')=false:=by rw[ahK ht];exact hw
      have e:∀(t:lW) (k:nA),(base f).at (Act.put ⟨t,[]⟩ o.dst undef) (.inRegion aBi rest::k)=fm f (Act.put ⟨t,[]⟩ o.dst undef).tmps (.inRegion aBi rest::k):=by intro t k;unfold fm;cases o.dst<;>rfl
      refine .move (fr1:=fm f (Act.put ⟨t,[]⟩ o.dst undef).tmps<|(.inRegion aBi rest::k)++nQ s cs) (fr1':=fm f (Act.put ⟨t',[]⟩ o.dst undef).tmps<|(.inRegion aBi rest::k)++nQ r cs) (cs1:=cs) (cs1':=cs') hW hM (fun V=>?_) ?_ (.run<|.run (Ww ht .undef) BS hf) mL
      .rw[ir,ir,<-e];exact stepG_unwanted CU hw
      rw[ir,ir,<-e];exact stepG_unwanted CU HP
     |true=>
      have HP:Region.wanted o (yielded aBi t'):=by rw[ahK ht];exact hw
      have e:∀(t:lW) (u:lH) (k:nA),(base f).at (Act.put ⟨t,[]⟩ o.dst u) (.inRegion aBi rest::k)=fm f (Act.put ⟨t,[]⟩ o.dst u).tmps (.inRegion aBi rest::k):=by intro t u k;unfold fm;cases o.dst<;>rfl
      have VQ:(base f).kind≠.early:=by simp[base]
      let A:List Item->Array Value->Next->Frame:=fun k t n=>match n with
       |.value u=>fm f (Act.put ⟨t,[]⟩ o.dst u).tmps<|.inRegion aBi rest::k|.enter g args=>Frame.enter P g args .normal|_=>fm f (Act.put ⟨t,[]⟩ o.dst undef).tmps<|.inRegion aBi rest::k
      let B:List Item->Array Value->List Frame->Next->List Frame:=fun k t cs n=>match n with
       |.enter _ _=>fm f t (.inRegion aBi (i::rest)::k)::cs|_=>cs
      have go:∀(k:nA) (mn:Bool) (t:lW) (cs1 Ly:nX) (V V1:lE) (n:Next),(n=.skip\/(∃u,n=.value u)\/∃g args,n=.enter g args)->Region.wanted o (yielded aBi t)->(execOp (Act.eval ⟨t,[]⟩) o).run P V=.ok n V1->
        ∃es,stepG P mn (G (fm f t<|.inRegion aBi (i::rest)::k)<|cs1++Ly) V=.go (G (A k t n)<|B k t cs1 n++Ly) V1 es/\∀e∈es,e∈((execOp (Act.eval ⟨t,[]⟩) o).runT P V #[]).2:=by
       intro k mn t cs1 Ly V V1 n hn hw hr;rcases hn with rfl|⟨u,rfl⟩|⟨g,args,rfl⟩
       .exact⟨_,by show _=GStep.go (G (fm f (Act.put ⟨t,[]⟩ o.dst undef).tmps<|.inRegion aBi rest::k)<|cs1++Ly) V1 _;rw[<-e];exact stepG_none CU hw VQ hr,fun e he=>mem_seen he⟩
       .exact⟨_,by show _=GStep.go (G (fm f (Act.put ⟨t,[]⟩ o.dst u).tmps<|.inRegion aBi rest::k)<|cs1++Ly) V1 _;rw[<-e];exact stepG_value CU hw VQ hr,fun e he=>mem_seen he⟩
       exact⟨_,stepG_enter CU hw VQ hr,fun e he=>mem_seen he⟩
      refine yr.run (avN K.toOkay ⟨hG,hV⟩ (fun m h=>h) (fun g h=>h) (fun x hx=>abp (fun _ h=>h) hV ht x hx) o mw) hW hM (A (k++nQ s cs) t) (B (k++nQ s cs) t cs) (A (k++nQ r cs) t') (B (k++nQ r cs) t' cs') (fun V a V1 mi b hq hr=>?_) (fun V x V1 hr hb=>?_) (fun b w1 mi a hq hr=>?_)<|fun mi a b aBm hq=>?_
      .have⟨es,h1,_⟩:=go (k++nQ s cs) true t cs [oN] V V1 a bu hw hr;exact HU h1
      .have mo:stepG P true (G (fm f t<|.inRegion aBi (i::rest)::(k++nQ s cs))<|cs++[oN]) V=stepG.apply P true (fm f t<|.inRegion aBi (i::rest)::(k++nQ s cs)) (cs++[oN]) none (execOp (Act.eval ⟨t,[]⟩) o) V:=stepG_oper CU hw;have nO:((fm f t<|.inRegion aBi (i::rest)::(k++nQ s cs)).kind==CallKind.early)=false:=rfl;cases hb with
       |stuck msg=>refine JL (o:=.stuck msg<|(fm f t<|.inRegion aBi (i::rest)::(k++nQ s cs)).pos P) (w':=V1) (jq ?_)<|.inl nr;show(stepG P true (G (fm f t<|.inRegion aBi (i::rest)::(k++nQ s cs))<|cs++[oN]) V).bare=_;rw[mo];simp[stepG.apply,hr,GStep.after,nO]|pv hu=>
        rename_i u;refine JL (o:=.unsupported u<|(fm f t<|.inRegion aBi (i::rest)::(k++nQ s cs)).pos P) (w':=V1) (jq ?_)<|.inl nr;show(stepG P true (G (fm f t<|.inRegion aBi (i::rest)::(k++nQ s cs))<|cs++[oN]) V).bare=_;rw[mo];cases u<;>first
         |exact ll rfl<|hu _|(simp[stepG.apply,hr,GStep.after,nO];done)
       |panic u=>
        have h1:step P (lone (fm f t<|.inRegion aBi (i::rest)::(k++nQ s cs)) (cs++[oN]) V)=.next (lone ((fm f t<|.inRegion aBi (i::rest)::(k++nQ s cs)).raise [{v:=u,recovered:=false}]) (cs++[oN]) V1):=by apply kp;show(stepG P true (G (fm f t<|.inRegion aBi (i::rest)::(k++nQ s cs))<|cs++[oN]) V).bare=_;rw[mo];simp[stepG.apply,hr,GStep.after,nO]
        exact Xn h1 (.inl nr)<|ad0 (chain:=[{v:=u,recovered:=false}]) ⟨Z,hf⟩ Z mL.ajE
      .exact go (k++nQ r cs) main t' cs' cs0 w w1 b bu HP hr
      have C3:=ht.mono fun _ _ h=>VR.mono h aBm;have VD:xH P S mi s r cs cs':=mL.mono aBm;cases hq with
      |value hu=>exact⟨.run<|.run (todo:=.inRegion aBi rest::k) (Ww C3 hu) BS hf,VD⟩|skip=>exact⟨.run<|.run (todo:=.inRegion aBi rest::k) (Ww C3 .undef) BS hf,VD⟩|enter hg qh ha=>rename_i g args mD;obtain⟨fn,c,h1,h2⟩:=qh;refine⟨?_,.cons (.run C3 ho hf) VD⟩;show Fu P S mi [] [] (Frame.enter P g args .normal) (Frame.enter P g mD .normal);rw[enter_at args h1 h2,enter_at mD h1 h2,<-ha.1];refine .run<|.run (todo:=[.code c]) (ha.app<|AR.rep _ .undef) (fun it hi=>?_) ⟨fn,h1⟩;rw[gF]at hi;subst hi;exact K.code g fn c hg h1 h2
theorem step_ret{todo pR:nA}{c c':Frame}(ht:AR (VR (SF S) U) t t')(hf:∃fn,P.funcs[f]?=some fn)
  (hc:GW P S U (nQ s cs) (nQ r cs) c c') (mL:xH P S U s r cs cs') (hW:nB (SF S) U R v w) (hM:∀k k',U.to k=some k'->U.own k->M k'):yr P S s r main R M cs0 U (rI f t todo) (c::cs) v (rI f t' pR) (c'::cs') w:=by
 obtain⟨fn,hf⟩:=hf;refine yr.run (agW fn ht) hW hM (fun u=>c.finish u) (fun _=>cs) (fun u=>c'.finish u) (fun _=>cs') (fun V a V1 mi b hq hr=>HU<|RB (b:=base f) (a:=⟨t,[]⟩) Z Z hf hr) (fun V x V1 hr hb=>?_)
  (fun b w1 mi a hq hr=>⟨_,RB (b:=base f) (a:=⟨t',[]⟩) rfl rfl hf hr,fun e he=>mem_seen he⟩) (fun mi a b aBm hq=>?_)
 .have key:∃o,(stepG P true (G (rI f t todo)<|c::cs++[oN]) V).bare=.ended o V1:=by
   cases hb<;>exact⟨_,by simp[G,stepG,unwind,rI,fm,base,Frame.at,hf,hr,GStep.after];rfl⟩
  obtain⟨o,ho⟩:=key;exact JL (o:=o) (w':=V1) (jq ho)<|.inr aq
 obtain⟨rfl,hq⟩:=hq;exact⟨.run<|alP hc hq,mL⟩
end
structure LC where
 fr:Frame
 cs:nX
 v:lE
def LC.over(c:LC):Prop:=c.cs=[]/\(c.fr.mode=.returning\/(c.fr.mode=.run/\c.fr.todo=[pX]))
def LC.m(c:LC)(t:ze):Machine:=lone c.fr (c.cs++[oN]) (c.v.tp t)
def vW(P:lY)(KR:Ff)(KO:Ff)(c:LC):Prop:=∀t,(∀j,j<c.v.drawn->t j=c.v.tape j)->
 ∃n fr w,runN P n (c.m t)=.next (lone fr [oN] w)/\((fr.mode=.returning/\KR fr.fn fr.tmps w)\/(fr.mode=.run/\fr.todo=[pX]/\KO fr.fn fr.tmps w))
def IF(P:lY)(x y:LC):Prop:=Oe P y.fr y.cs y.v x.fr x.cs x.v/\¬y.over
theorem aiQ{α:Type}{r:α->α->Prop}(x:α)(h:∀f:Nat->α,f 0=x->(∀n,r (f (n+1)) (f n))->False):Acc r x:=by
 apply eD;intro hx;have hs:∀y:{y//¬Acc r y},∃z:{y//¬Acc r y},r z.1 y.1:=by intro y;apply eD;intro hn;exact y.2<|.intro y.1 fun z hz=>eD fun oM=>hn ⟨⟨z,oM⟩,hz⟩
 let F:Nat->{y//¬Acc r y}:=fun n=>Nat.rec ⟨x,hx⟩ (fun _ y=>Classical.choose<|hs y) n
 exact h (fun n=>(F n).1) Z fun n=>fA<|hs<|F n
section
variable{P:lY}{KR:Ff}{KO:Ff}
theorem vW.next{x y:LC}(h:vW P KR KO y)(hr:IF P x y):vW P KR KO x:=by
 obtain⟨hl,hn⟩:=hr;intro t ht;have⟨n,fr,w,h1,h2⟩:=h t fun j hj=>(ht j<|gK hj hl.drawn).trans<|hl.tape j hj;cases n with
 |zero=>simp only[runN,gL]at h1;have⟨e1,e2,_⟩:=JK h1;refine ll ⟨by simpa using e2,?_⟩ hn;rw[e1];exact h2.imp (fun h=>h.1) fun h=>⟨h.1,h.2.1⟩
 |succ n=>
  have e:step P (y.m t)=.next (x.m t):=hl.go t ht
  simp only[runN,e]at h1;exact⟨n,fr,w,h1,h2⟩
theorem vW.acc{c:LC}(h:vW P KR KO c):Acc (IF P) c:=by
 classical
 refine aiQ c fun f h0 hf=>?_;have mono:∀i d,(f i).v.drawn<=(f<|i+d).v.drawn/\∀j,j<(f i).v.drawn->(f<|i+d).v.tape j=(f i).v.tape j:=by
  intro i d
  induction d with
  |zero=>exact⟨ku _,fun _ _=>rfl⟩|succ d ih=>have hs:=(hf<|i+d).1;exact⟨j5 ih.1 hs.drawn,fun j hj=>(hs.tape j<|gK hj ih.1).trans<|ih.2 j hj⟩
 let T:Nat->Question->Nat:=fun j=>if h:∃i,j<(f i).v.drawn then(f<|Classical.choose h).v.tape j else fun _=>0
 have hT:∀i j,j<(f i).v.drawn->T j=(f i).v.tape j:=by
  intro i j hj;have hex:∃i,j<(f i).v.drawn:=⟨i,hj⟩
  show(if h:∃i,j<(f i).v.drawn then(f<|Classical.choose h).v.tape j else fun _=>0)=_;rw[lh hex];have hc:=fA hex;generalize Classical.choose hex=i0 at hc;rcases Nat.le_total i0 i with aBm|aBm
  .have:=(mono i0<|i-i0).2 j hc;rw[Nat.add_sub_cancel' aBm]at this;exact this.symm
  have:=(mono i<|i0-i).2 j hj;rw[Nat.add_sub_cancel' aBm]at this;exact this
 have run:∀n,runN P n ((f 0).m T)=.next ((f n).m T):=by
  intro n
  induction n with
  |zero=>rfl|succ n ih=>
   rw[runN_add,ih];have e:step P ((f n).m T)=.next ((f<|n+1).m T):=(hf n).1.go T<|hT<|n+1
   simp only[runN,e]
 have⟨n,fr,w,h1,h2⟩:=h T fun j hj=>by rw[<-h0]at hj|-;exact hT 0 j hj
 rw[<-h0,run n]at h1;injection h1 with h1;have⟨e1,e2,_⟩:=JK h1;refine(hf n).2 ⟨by simpa using e2,?_⟩;rw[e1];exact h2.imp (fun h=>h.1) fun h=>⟨h.1,h.2.1⟩
theorem vW.lost{c:LC}(h:vW P KR KO c){t:ze}(ht:∀j,j<c.v.drawn->t j=c.v.tape j):¬Fj P (c.m t):=by
 intro hl;have⟨n,fr,w,h1,h2⟩:=h t ht;have:=hl n fr w h1;rcases h2 with⟨h2,_⟩|⟨h2,h3,_⟩
 .exact this.1 h2
 exact this.2 h2 h3
theorem vW.ret{todo:nA}(h:vW P KR KO ⟨rI f t todo,[],v⟩):KR f t v:=by
 have⟨n,fr,w,h1,h2⟩:=h v.tape fun _ _=>rfl;have e0:(⟨rI f t todo,[],v⟩:LC).m v.tape=lone (rI f t todo) [oN] v:=rfl;rw[e0]at h1;cases n with
 |zero=>
  simp only[runN,gL]at h1;obtain⟨rfl,_,rfl⟩:=JK h1;rcases h2 with⟨_,h2⟩|⟨h2,_⟩
  .exact h2
  simp[rI]at h2
 |succ n=>
  exfalso;have bad:IJ fr->False:=fun hb=>by
   rcases h2 with⟨h2,_⟩|⟨h2,h3,_⟩
   .exact hb.1 h2
   exact hb.2 h2 h3
  cases qh:P.funcs[f]? with
  |none=>
   have hs:step P (lone (rI f t todo) [oN] v)=.next (lone (oN.finish<|t.getD 0 undef) [] v):=kp (by simp[stepG,unwind,doReturn,rI,fm,base,Frame.at,qh])
   simp only[runN,hs]at h1;exact bad<|ad1 n _ _ h1
  |some FG=>
   cases hr:(results FG t).run P v with
   |ok x w'=>
    have hs:step P (lone (rI f t todo) [oN] v)=.next (lone (oN.finish x) [] w'):=HU<|RB (b:=base f) (a:=⟨t,[]⟩) rfl rfl qh hr
    simp only[runN,hs]at h1;exact bad<|ad1 n _ _ h1
   |halt x w'=>
    have key:∃o,(stepG P true (G (rI f t todo) [oN]) v).bare=.ended o w':=by cases x<;>exact⟨_,by simp[G,stepG,unwind,rI,fm,base,Frame.at,qh,hr,GStep.after];rfl⟩
    obtain⟨o,ho⟩:=key;have hs:step P (lone (rI f t todo) [oN] v)=.ended o w':=jq ho;simp only[runN,hs]at h1;exact ll h1 aq
theorem vW.off(h:vW P KR KO ⟨fm f t [pX],[],v⟩):KO f t v:=by
 have⟨n,fr,w,h1,h2⟩:=h v.tape fun _ _=>rfl;have e0:(⟨fm f t [pX],[],v⟩:LC).m v.tape=lone (fm f t [pX]) [oN] v:=rfl;rw[e0]at h1;cases n with
 |zero=>
  simp only[runN,gL]at h1;obtain⟨rfl,_,rfl⟩:=JK h1;rcases h2 with⟨h2,_⟩|⟨_,_,h2⟩
  .simp[fm,Frame.at]at h2
  exact h2
 |succ n=>
  exfalso;have hs:∃o,step P (lone (fm f t [pX]) [oN] v)=.ended o v:=⟨_,jq<|by simp only[stepG,stepG.exec,fm,Frame.at,pX];rfl⟩
  obtain⟨o,hs⟩:=hs;simp only[runN,hs]at h1;exact ll h1 aq
end
def IB(P:lY)(K:Value->World->Prop):FuncId->Array Value->World->Prop:=fun f t w=>∃fn u,P.funcs[f]?=some fn/\(results fn t).run P w=.ok u w/\K u w
abbrev Good(P:Program)(K:Value->World->Prop)(c:LC):Prop:=vW P (IB P K) (fun _ _ _=>False) c
section
variable{P:lY}{S:Scope}{main:Bool}{R:lF}{Sh:oQ}{X:Event->Prop}{Stop:qz}{KR:Ff}{KO:Ff}{c0:Frame}{cs0:nX}{π0:Ren}{M0:lF}
theorem nB.rely{F:nj}{U:Ren}{w1:lE}(h:nB F U R v w)(hM:∀k k',U.to k=some k'->U.own k->M k')(hr:oe M R Sh w w1):nB F U R v w1:=by
 refine⟨⟨h.base.1,j5 h.base.2 hr.size⟩,fun k k' e=>⟨(h.CE _ _ e).1,gK (h.CE _ _ e).2 hr.size⟩,fun k k' e eo=>?_,fun k k' e eo=>?_⟩
 .rw[hr.mine k' (.inl<|hM _ _ e eo)];exact h.mine _ _ e eo
 have h2:=h.ro _ _ e eo;rw[hr.mine k' (.inr h2.1)];exact h2
inductive Gr(P:lY)(S:Scope)(r0:Code):Code->Code->Prop where
 |fin:Gr P S r0 .skip r0|seq {a x0 x:Code}:S.code P a->Gr P S r0 x0 x->Gr P S r0 (.seq a x0) (.seq a x)
def Lk(P:lY)(S:Scope)(rest:nA)(s r:nA):Prop:=(s=[pX]/\r=rest)\/(s=[]/\r=[]/\rest=[])\/∃x0 x r0,rest=[.code r0]/\s=[.code x0,pX]/\r=[.code x]/\Gr P S r0 x0 x
theorem Lk.none{rest s r:nA}(h:Lk P S rest s r)(id:Nat):exitTo id s=none:=by rcases h with⟨rfl,_⟩|⟨rfl,_⟩|⟨_,_,_,_,rfl,_⟩<;>rfl
theorem S3{rest:nA}(J:oQ)(sT:∀M w w1,oe M R Sh w w1->J w->J w1)(uH:∀(M:lF) w w1,(∀k,M k->M0 k\/π0.base<=k)->nJ M w w1->J w->J w1)(KF:Fh P S)(hG:P.globals.size<=π0.base)(hV:∀g,S.vars g->π0.to g=some g)
  (uu:∀U f t t' pR v w M,π0.Le U->AR (VR (SF S) U) t t'->(∃fn,P.funcs[f]?=some fn)->(∀t0,(∀j,j<v.drawn->t0 j=v.tape j)->KR f t (v.tp t0))->nB (SF S) U R v w->(∀k k',U.to k=some k'->U.own k->M k')->(∀k,M0 k->M k)->(∀k,M k->M0 k\/π0.base<=k)->J w->Own P main R Sh X Stop M (G (rI f t' pR) cs0) w)
  (xn:∀U f t t' v w M,π0.Le U->AR (VR (SF S) U) t t'->KO f t v->nB (SF S) U R v w->(∀k k',U.to k=some k'->U.own k->M k')->(∀k,M0 k->M k)->(∀k,M k->M0 k\/π0.base<=k)->J w->Own P main R Sh X Stop M (G (fm f t' rest) cs0) w):
  ∀c,Acc (IF P) c->vW P KR KO c->∀(s r:nA),Lk P S rest s r->∀(U:Ren) (tC:Frame) (cs':nX) (w:lE) (M:lF),π0.Le U->Fu P S U (nQ s c.cs) (nQ r c.cs) c.fr tC->xH P S U s r c.cs cs'->nB (SF S) U R c.v w->
   (∀k k',U.to k=some k'->U.own k->M k')->(∀k,M0 k->M k)->(∀k,M k->M0 k\/π0.base<=k)->J w->Own P main R Sh X Stop M (G tC<|cs'++cs0) w:=by
 intro c Ps
 induction Ps with
 |intro c hac ih=>
  intro hg s r Eh U tC cs' w M aBm Jz mL hW hM xS uI hJ;have zA:∀w1 w2:lE,w.heap.size<=w1.heap.size->∀k,grown M w1.heap.size w2.heap.size k->M0 k\/π0.base<=k:=fun w1 w2 mR k hk=>by
   rcases hk with hk|⟨hk,_⟩
   .exact uI k hk
   have:=hW.base.2;rw[aBm.base]at this;exact .inr aa
  by_cases HD:c.over
  .obtain⟨fr,cs,v⟩:=c;obtain⟨h1,h2⟩:=HD;dsimp only at h1 h2 Jz mL hW;subst h1;cases mL;cases Jz with
   |run h=>
    generalize El:nQ s []=ss at h;generalize Ay:nQ r []=rr at h;cases h with
    |run ht ho hf=>
     rename_i f t t' todo;rcases h2 with h2|⟨_,h2⟩
     .simp[fm,Frame.at]at h2
     have h2:todo++ss=[pX]:=h2;have El:s=ss:=El;have Ay:r=rr:=Ay;subst El;subst Ay;have WW:todo=[]:=by
      cases todo with
      |nil=>rfl|cons it k=>exfalso;rw[ir]at h2;injection h2 with h3 h4;have:=ho it gE;rw[h3]at this;simp[pX,Scope.item,Scope.code]at this
     subst WW;have h2:s=[pX]:=h2;have hr:r=rest:=by
      rcases Eh with⟨_,h⟩|⟨h,_⟩|⟨_,_,_,_,h,_⟩
      .exact h
      .rw[h]at h2;cases h2
      rw[h]at h2;cases h2
     subst h2;subst hr;exact xn _ _ _ _ _ _ _ aBm ht hg.off hW hM xS uI hJ
   |ret ht hf=>rename_i f t t' todo pR;refine uu _ _ _ _ _ _ _ _ aBm ht hf (fun t0 h0=>?_) hW hM xS uI hJ;have qp:vW P KR KO ⟨rI f t todo,[],v.tp t0⟩:=fun t2 h=>hg t2 fun j hj=>(h j hj).trans<|h0 j hj;exact qp.ret
  by_cases ada:c.cs=[]/\c.fr.mode=.run/\c.fr.todo=s/\∃x0,s=[.code x0,pX]
  .obtain⟨fr,cs,v⟩:=c;obtain⟨h1,h2,h3,Zi,h4⟩:=ada;dsimp only at h1 h2 h3 Jz mL hW;subst h1;subst h4;cases mL;cases Jz with
   |ret ht hf=>simp[rI]at h2|run h=>
    generalize El:nQ _ []=ss at h;generalize Ay:nQ r []=rr at h;cases h with
    |run ht ho hf=>
     rename_i f t t' todo;have El:[.code Zi,pX]=ss:=El;have Ay:r=rr:=Ay;subst El;subst Ay;have h3:todo++[.code Zi,pX]=[.code Zi,pX]:=h3;have WW:todo=[]:=by have:=kY List.length h3;simp at this;exact this
     subst WW;rcases Eh with⟨h,_⟩|⟨h,_⟩|⟨x0,x,r0,BS,hs,hr,zA⟩
     .cases h
     .cases h
     injection hs with hs _;injection hs with hs;subst hs;subst hr;cases zA with
     |fin=>
      have hl:Oe P (fm f t [.code .skip,pX]) [] v (fm f t [pX]) [] v:=⟨ku _,fun _ _=>rfl,fun t0 _=>HU stepG_skip⟩
      have vg:IF P ⟨fm f t [pX],[],v⟩ ⟨fm f t<|[]++[.code .skip,pX],[],v⟩:=⟨hl,HD⟩
      exact ih _ vg (hg.next vg) [pX] _ (.inl ⟨Z,BS.symm⟩) U _ [] w M aBm (.run<|.run (todo:=[]) ht (fun _ h=>by simp at h) hf) .nil hW hM xS uI hJ
     |@seq a x0 x ha zA=>
      have hl:Oe P (fm f t [.code (.seq a x0),pX]) [] v (fm f t [.code a,.code x0,pX]) [] v:=⟨ku _,fun _ _=>rfl,fun t0 _=>HU kW⟩
      have vg:IF P ⟨fm f t [.code a,.code x0,pX],[],v⟩ ⟨fm f t<|[]++[.code (.seq a x0),pX],[],v⟩:=⟨hl,HD⟩
      refine Own.mk Z fun w1 hr=>⟨_,w1, #[],kW,nJ.refl _ _,fun e he=>by simp at he,?_⟩
      rw[Bz]
      exact ih _ vg (hg.next vg) [.code x0,pX] [.code x] (.inr (.inr ⟨x0,x,r0,BS,Z,Z,zA⟩)) U (fm f t' [.code a,.code x]) [] w1 M aBm (.run (.run (todo:=[.code a]) ht (fun it hit=>by
       rw[gF]at hit;subst hit
       exact ha) hf)) .nil (hW.rely hM hr) hM xS uI (sT _ _ _ hr hJ)
  have hso:∀w1,oe M R Sh w w1->yr P S s r main R M cs0 U c.fr c.cs c.v tC cs' w1:=by
   intro w1 hr;have zx:=hW.rely hM hr;have hG':P.globals.size<=U.base:=by rw[aBm.base];exact hG
   have Mb:∀g,S.vars g->U.to g=some g:=fun g hg=>aBm.to _ _<|hV g hg;obtain⟨fr,cs,v⟩:=c;dsimp only at Jz mL zx HD|-;cases Jz with
   |run h=>
    generalize El:nQ s cs=ss at h;generalize Ay:nQ r cs=rr at h;cases h with
    |run ht ho hf=>
     rename_i f t t' todo;subst El;subst Ay;refine awN KF hG' Mb ht ho hf Eh.none (fun e=>?_) mL zx hM;subst e;rcases Eh with P6|P6|⟨x0,x,r0,_,hs,_⟩
     .refine .inl fun e=>HD ⟨Z,.inr ⟨Z,?_⟩⟩;subst e;exact P6.1
     .exact .inr ⟨P6.1,P6.2.1⟩
     refine .inl fun e=>ada ⟨Z,Z,?_,x0,hs⟩;subst e
     rfl
   |ret ht hf=>
    cases mL with
    |nil=>exact ll ⟨rfl,.inl rfl⟩ HD|cons hc mL=>exact step_ret ht hf hc mL zx hM
  have mo:(G tC<|cs'++cs0).status=.running:=rfl;refine Own.mk mo fun w1 hr=>?_;rcases hso w1 hr with⟨t,h1,h2⟩|⟨fr1,cs1,v1,h1,mi,fr1',cs1',w2,es,h2,h3,h4,h5,h6,h7,h8,h9⟩
  .exact ll h2<|hg.lost h1
  have vg:IF P ⟨fr1,cs1,v1⟩ c:=⟨h1,HD⟩
  exact⟨_,w2,es,h2,h7,fun e he=>.inl<|h8 e he,ih ⟨fr1,cs1,v1⟩ vg (hg.next vg) s r Eh mi fr1' cs1' w2 _ (aBm.trans h3) h4 h5 h6 h9 (fun k hk=>.inl<|xS k hk) (zA _ _ hr.size)<|uH M _ _ uI h7<|sT _ _ _ hr hJ⟩
theorem asK{K:Value->World->Prop}{U:Ren}{pR:nA}(ht:AR (VR (SF S) U) t t')(hK:∀t0,(∀j,j<v.drawn->t0 j=v.tape j)->IB P K f t (v.tp t0))(hW:nB (SF S) U R v w)(hM:∀k k',U.to k=some k'->U.own k->M k')
  (hf:∃fn,P.funcs[f]?=some fn) (h:∀mi u u' v' w' M',U.Le mi->VR (SF S) mi u u'->K u v'->nB (SF S) mi R v' w'->(∀k k',mi.to k=some k'->mi.own k->M' k')->(∀k,M k->M' k)->(∀k,M' k->M k\/w.heap.size<=k)->(∃w1,oe M R Sh w w1/\nJ M w1 w')->Own P main R Sh X Stop M' (G (c0.finish u') cs0) w'):Own P main R Sh X Stop M (G (rI f t' pR)<|c0::cs0) w:=by
 obtain⟨fn,qh⟩:=hf;refine Own.mk Z fun w1 hr=>?_;have zx:=hW.rely hM hr;have⟨t0,g1,g2⟩:=SR.run (P:=P) (agW fn ht) (es:= #[]) zx hM;have⟨FG,u,Jn,e2,UI⟩:=hK t0 g1;rw[qh]at Jn;injection Jn with Jn;subst Jn;rcases g2 with⟨x,v1,h3,h4⟩|⟨a,v1,h3,h4,h5,h6,mi,b,w2,es,h7,h8,h9,xf,FJ,rk,Ja,Jb⟩
 .rw[e2]at h3;cases h3
 rw[e2]at h3;injection h3 with q1 q2;subst q1;subst q2;obtain⟨rfl,h9⟩:=h9;have nK:(results fn t').run P w1=.ok b w2:=by rw[<-Sem.runT_fst P _ w1 #[],h7]
 refine⟨_,w2,_,RB (b:=base f) (a:=⟨t',[]⟩) Z Z qh nK,FJ,fun e he=>?_,?_⟩
 .have:=mem_seen he;have e4:(results fn t').events P w1 #[]=es:=by
   show((results fn t').runT P w1 #[]).2=es;rw[h7];simp
  rw[e4]at this;exact .inl<|rk e this
 exact h _ _ _ _ _ _ h8 h9 UI xf Ja (fun k hk=>.inl hk) (fun k hk=>hk.imp id fun h=>j5 hr.size h.1) ⟨w1,hr,FJ⟩
end
theorem amj{K:Value->World->Prop}(hf:P.funcs[f]?=some fn)(hb:fn.body=some c)
  (h:∀t,Calls P f args (v.tp t) fun e w'=>∃u,e=.returned u/\K u w'):Good P K ⟨fm f (args++Array.replicate (fn.ntmps-args.size) undef) [.code c],[],v⟩:=by
 intro t _;obtain⟨e,w',fr,⟨u,rfl,hK⟩,⟨n,hn⟩,hfr,hm,hd,hk,FG,qh,hr⟩:=h t [oN];rw[enter_at args hf hb]at hn;exact⟨n,fr,w',hn,.inl ⟨hm,FG,u,qh,hr,hK⟩⟩
open Classical in
def ry(D O:lF)(b:Nat):Ren where
 to k:=if D k then some k else none
 own k:=D k/\O k
 base:=b
 inj:=fun x y c hx hy=>by
  split at hx
  .split at hy
   .cases hx;cases hy;rfl
   cases hy
  cases hx
 low:=fun x c hx _=>by
  split at hx
  .cases hx;rfl
  cases hx
abbrev pZ(D:lF)(b:Nat):Ren:=ry D (fun _=>False) b
theorem RL(F:nj)(U:Ren):∀(n:Nat) (u:lH),SizeOf.sizeOf u<n->∃x,VR F U x u
 |0,u,h=>ll h<|ji _|n+1,u,h=>by
  have arr:∀c:lW,(∀i (hi:i<c.size),SizeOf.sizeOf c[i]<n)->∃c0:lW,c0.size=c.size/\∀(i:Nat) x y,c0[i]?=some x->c[i]?=some y->VR F U x y:=by intro c hc;refine⟨Array.ofFn fun i:Fin c.size=>Classical.choose<|RL F U n c[i]<|hc i.1 i.2,aq,fun i x y hx hy=>?_⟩;obtain⟨hi,rfl⟩:=eg.1 hy;rw[eB (by simpa using hi)]at hx;simp only[Array.getElem_ofFn,ia]at hx;subst hx;exact fA<|RL F U n c[i]<|hc i hi
  cases u with
  |bool b=>exact⟨_,.bool b⟩|agg c=>
   have⟨c0,h1,h2⟩:=arr c fun i hi=>by have:=Array.sizeOf_getElem c i hi;simp only[Value.agg.sizeOf_spec]at h;omega
   exact⟨_,.agg h1 h2⟩
  |tuple c=>
   have⟨c0,h1,h2⟩:=arr c fun i hi=>by have:=Array.sizeOf_getElem c i hi;simp only[Value.tuple.sizeOf_spec]at h;omega
   exact⟨_,.tuple h1 h2⟩
  |nilIface=>exact⟨_,.nilIface⟩|nilFunc=>exact⟨_,.nilFunc⟩|func fn a c=>cases fn with
   |method n=>exact⟨.func (.method n) #[.nilIface] #[],.Ew⟩|_=>exact⟨_,.hole (fun _=>aq) (fun _=>aq) (fun _=>aq) ⟨⟨aq,aq,aq,aq⟩,aq,aq,aq⟩⟩
  |pointer a=>cases a with
   |none=>exact⟨_,.rA⟩|some a=>exact⟨_,.hole (fun _=>aq) (fun _=>aq) (fun _=>aq) ⟨⟨aq,aq,aq,aq⟩,aq,aq,aq⟩⟩
  |slice a l c=>cases a with
   |none=>exact⟨_,.qI l c⟩|some a=>exact⟨_,.hole (fun _=>aq) (fun _=>aq) (fun _=>aq) ⟨⟨aq,aq,aq,aq⟩,aq,aq,aq⟩⟩
  |map a=>cases a with
   |none=>exact⟨_,.xz⟩|some a=>exact⟨_,.hole (fun _=>aq) (fun _=>aq) (fun _=>aq) ⟨⟨aq,aq,aq,aq⟩,aq,aq,aq⟩⟩
  |chan a=>cases a with
   |none=>exact⟨_,.yy⟩|some a=>exact⟨_,.hole (fun _=>aq) (fun _=>aq) (fun _=>aq) ⟨⟨aq,aq,aq,aq⟩,aq,aq,aq⟩⟩
  |_=>exact⟨_,.hole (fun _=>aq) (fun _=>aq) (fun _=>aq) ⟨⟨aq,aq,aq,aq⟩,aq,aq,aq⟩⟩
open Classical in
def vw(F:nj)(D:lF)(u:lH):Value:=if VR F (pZ D 0) u u then u else Classical.choose (RL F (pZ D 0) (SizeOf.sizeOf u+1) u (iH _))
theorem RP(F:nj)(D:lF)(u:lH):VR F (pZ D 0) (vw F D u) u:=by
 unfold vw;split
 .assumption
 exact fA<|RL F (pZ D 0) (SizeOf.sizeOf u+1) u<|iH _
theorem RO{F:nj}{D:lF}(h:VR F (pZ D 0) u u):vw F D u=u:=by unfold vw;rw[lq h]
def Dr(F:nj)(D:lF)(u:lH):Value:=match u with
 |.int .u8 _=>.tuple #[]|u=>vw F D u
theorem axs(F:nj)(D:lF)(u:lH):VR F (pZ D 0) (Dr F D u) u:=by
 unfold Dr;split
 .exact .hole (fun _=>aq) (fun _=>aq) (fun _=>aq) ⟨⟨aq,aq,aq,aq⟩,aq,aq,aq⟩
 exact RP F D u
theorem ahH{F:nj}{D:lF}(h:VR F (pZ D 0) u u)(h8:∀b,u≠.int .u8 b):Dr F D u=u:=by
 unfold Dr;split
 .exact ll Z<|h8 _
 exact RO h
theorem axr(F:nj)(D:lF)(u:lH)(b:Int):Dr F D u≠.int .u8 b:=by
 unfold Dr;split
 .simp
 next h=>
 intro e;have hv:=RP F D u;rw[e]at hv;cases hv;exact h _ Z
def full(F:nj)(D:lF):Obj->Obj
 |.cells c e f=>.cells (c.map<|Dr F D) e (0,c.size+f.2)|o=>o
def keep(F:nj)(D:lF):Obj->Obj
 |.cells c e f=>.cells (c.map<|vw F D) e f|o=>o
open Classical in
def sJ(F:nj)(D O:lF)(w:lE):World:={w with heap:=w.heap.mapIdx fun k o=>if D k then(if O k then keep F D o else full F D o)else .cells #[] 0 (0,0)}
abbrev wL(F:nj)(D:lF)(w:lE):World:=sJ F D (fun _=>False) w
section
variable{D O R:lF}{F:nj}{w:lE}{b:Nat}
theorem HS{k':Nat}(h:(ry D O b).to k=some k'):k'=k/\D k:=by
 unfold ry at h;dsimp only at h;split at h
 .cases h;exact⟨rfl,aX⟩
 cases h
theorem zE(h:D k):(ry D O b).to k=some k:=by unfold ry;dsimp only;rw[lq h]
theorem M7:(sJ F D O w).heap.size=w.heap.size:=by simp[sJ]
open Classical in
theorem Qf(h:D k):(sJ F D O w).heap[k]?=(w.heap[k]?).map fun o=>if O k then keep F D o else full F D o:=by unfold sJ;dsimp only;rw[Array.getElem?_mapIdx];simp only[h,lj]
theorem BY(h:D a.block)(hu:w.cell? a=some u)(hs:VR F (pZ D 0) u u)(h8:∀b,u≠.int .u8 b:=by intro _ h;cases h):(sJ F D O w).cell? a=some u:=by
 unfold World.cell? at hu|-;rw[Qf h];cases hb:w.heap[a.block]? with
 |none=>rw[hb]at hu;cases hu
 |some o=>
  rw[hb]at hu;cases o with
  |cells c e f=>
   have key:∀(g:Value->Value) f',g u=u->(match some (Obj.cells (c.map g) e f')with|some (.cells c _ _)=>if a.spot.isSome then none else c[a.off]?|_=>none)=some u:=fun g f' hg=>by
    dsimp only at hu|-;split at hu
    .cases hu
    next nP=>
    rw[lp nP,gx,hu];simp only[jk,hg]
   by_cases hO:O a.block
   .rw[jk,lq hO];exact key _ f<|RO hs
   rw[jk,lp hO];exact key _ (0,c.size+f.2)<|ahH hs h8
  |_=>cases hu
theorem aqf(t:ze):(sJ F D O w).tp t=sJ F D O (w.tp t):=rfl
structure GJ(R M:lF)(w:lE)(D O:lF):Prop where
 sub:∀k,D k->¬O k->R k
 own:∀k,D k->O k->M k
 row:∀k,D k->∃c e f,w.heap[k]?=some (.cells c e f)
structure Closed(R:lF)(w:lE)(D:lF):Prop where
 sub:∀k,D k->R k
 row:∀k,D k->∃c e f,w.heap[k]?=some (.cells c e f)
theorem Closed.o(h:Closed R w D):GJ R M w D (fun _=>False):=⟨fun k hk _=>h.sub k hk,fun k _ h=>h.elim,h.row⟩
theorem axq{U mi:Ren}{x y:lH}(h:VR F U x y)(k:∀a c,U.to a=some c->mi.to a=some c):VR F mi x y:=by
 induction h with
 |bool b=>exact .bool b|int a b=>exact .int a b|string s=>exact .string s|rA=>exact .rA|ptr h=>exact .ptr ⟨k _ _ h.1,h.2⟩|qI l c=>exact .qI l c|slice l c h=>exact .slice l c ⟨k _ _ h.1,h.2⟩|tn a=>exact .tn a|xz=>exact .xz|map h=>exact .map<|k _ _ h|yy=>exact .yy|chan h=>exact .chan<|k _ _ h|func hf h1 _ h3 _ i1 i2=>exact .func hf h1 i1 h3 i2|nilFunc=>exact .nilFunc|iface t _ ih=>exact .iface t ih|nilIface=>exact .nilIface|agg h _ ih=>exact .agg h ih|tuple h _ ih=>exact .tuple h ih|hole h1 h2 h3 h4=>exact .hole h1 h2 h3 h4|Ew=>exact .Ew
theorem NW{x y:lH}(h:VR F (pZ D 0) x y)(b:Nat):VR F (ry D O b) x y:=axq h fun k k' e=>by obtain⟨rfl,hd⟩:=HS e;exact zE hd
theorem AR.self{α:Type}{r:α->α->Prop}{c:Array α}(h:∀u∈c,r u u):AR r c c:=⟨rfl,fun i x y hx hy=>by rw[hx]at hy;cases hy;exact h x<|fz hx⟩
theorem GJ.wr(h:GJ R M w D O):nB F (ry D O w.heap.size) R (sJ F D O w) w:=by
 have Eb:∀c:lW,AR (VR F (ry D O w.heap.size)) (c.map (vw F D)) c:=fun c=>⟨aq,fun i x y hx hy=>by
  rw[gx,hy]at hx;simp only[jk,ia]at hx;subst hx
  exact NW (RP F D y) _⟩
 refine⟨⟨by rw[M7];exact ku _,ku _⟩,fun k k' e=>?_,fun k k' e eo=>?_,fun k k' e eo=>?_⟩
 .obtain⟨rfl,hd⟩:=HS e;have⟨c,t,f,hc⟩:=h.row _ hd;have lX:k'<w.heap.size:=(eg.1 hc).1;exact⟨by rw[M7];exact lX,lX⟩
 .obtain⟨rfl,hd⟩:=HS e;have⟨c,t,f,hc⟩:=h.row _ hd;have hO:O k':=eo.2;refine⟨_,_,by rw[Qf hd,hc,jk,lq hO],hc,?_⟩;exact .cells t f<|Eb c
 obtain⟨rfl,hd⟩:=HS e;have⟨c,t,f,hc⟩:=h.row _ hd;have hO:¬O k':=fun hO=>eo ⟨hd,hO⟩
 have anu:AR (VR F (ry D O w.heap.size)) (c.map (Dr F D)) c:=⟨aq,fun i x y hx hy=>by
  rw[gx,hy]at hx;simp only[jk,ia]at hx;subst hx
  exact NW (axs F D y) _⟩
 refine⟨h.sub _ hd hO,c.map<|Dr F D,c,t,f,c.size+f.2,?_,hc,anu,aq,aa,fun i b e=>?_⟩;rotate_left
 .rw[gx]at e;have⟨u,_,hu⟩:=ft.1 e;exact axr F D u b hu
 rw[Qf hd,hc,jk,lp hO];rfl
end
section
variable{P:lY}{S:Scope}{main:Bool}{R:lF}{Sh:oQ}{X:Event->Prop}{Stop:qz}{K:Value->World->Prop}{c0:Frame}{cs0:nX}{D O M:lF}{w:lE}
def Cf(F:nj)(D:lF)(T:lW):Array Value:=T.map (vw F D)
theorem ahI(F:nj)(D:lF)(T:lW):AR (VR F (pZ D 0)) (Cf F D T) T:=⟨by simp[Cf],fun i x y hx hy=>by
 unfold Cf at hx;rw[gx,hy]at hx;simp only[jk,ia]at hx;subst hx
 exact RP F D y⟩
theorem y8{F:nj}(h:T[i]?=some u)(hs:VR F (pZ D 0) u u):(Cf F D T).getD i undef=u:=by unfold Cf;rw[ed,gx,h];simp[RO hs]
theorem asL{KR KO:Ff}{r:nA}(J:oQ)(sT:∀M w w1,oe M R Sh w w1->J w->J w1)(uH:∀(M':lF) w1 w2,(∀k,M' k->M k\/w.heap.size<=k)->nJ M' w1 w2->J w1->J w2)(hJ:J w)(KF:Fh P S){T0:lW}{items:nA}(hf:P.funcs[f]?=some fn)(hi:yf P S items)
  (hG:P.globals.size<=w.heap.size) (hV:∀g,S.vars g->D g) (hC:GJ R M w D O) (ha:AR (VR (SF S)<|pZ D 0) T0 T)
  (hg:vW P KR KO ⟨fm f T0<|items++[pX],[],sJ (SF S) D O w⟩)
  (uu:∀U f t t' pR v w1 M',(ry D O w.heap.size).Le U->AR (VR (SF S) U) t t'->(∃fn,P.funcs[f]?=some fn)->(∀t0,(∀j,j<v.drawn->t0 j=v.tape j)->KR f t (v.tp t0))->nB (SF S) U R v w1->(∀k k',U.to k=some k'->U.own k->M' k')->(∀k,M k->M' k)->(∀k,M' k->M k\/w.heap.size<=k)->J w1->Own P main R Sh X Stop M' (G (rI f t' pR) cs0) w1)
  (xn:∀U f t t' v w1 M',(ry D O w.heap.size).Le U->AR (VR (SF S) U) t t'->KO f t v->nB (SF S) U R v w1->(∀k k',U.to k=some k'->U.own k->M' k')->(∀k,M k->M' k)->(∀k,M' k->M k\/w.heap.size<=k)->J w1->Own P main R Sh X Stop M' (G (fm f t' r) cs0) w1):
  Own P main R Sh X Stop M (G (fm f T<|items++r) cs0) w:=by
 have:=S3 (KR:=KR) (KO:=KO) (rest:=r) (π0:=ry D O w.heap.size) (M0:=M) (cs0:=cs0) J sT uH KF hG (fun g hg=>zE<|hV g hg) uu xn _ hg.acc hg [pX] r (.inl ⟨rfl,rfl⟩) (ry D O w.heap.size) (fm f T<|items++r) [] w M (Ren.Le.refl _)
  (.run (.run (ha.mono fun _ _ h=>NW h _) hi ⟨fn,hf⟩)) .nil hC.wr (fun k k' e eo=>by
   obtain⟨rfl,hd⟩:=HS e
   exact hC.own _ hd eo.2) (fun k hk=>hk) (fun k hk=>.inl hk) hJ
 exact this
theorem aeO{KR KO:Ff}{r0 x0 x:Code}(J:oQ)(sT:∀M w w1,oe M R Sh w w1->J w->J w1)(uH:∀(M':lF) w1 w2,(∀k,M' k->M k\/w.heap.size<=k)->nJ M' w1 w2->J w1->J w2)(hJ:J w)(KF:Fh P S){T0:lW}(hf:P.funcs[f]?=some fn)(zA:Gr P S r0 x0 x)
  (hG:P.globals.size<=w.heap.size) (hV:∀g,S.vars g->D g) (hC:GJ R M w D O) (ha:AR (VR (SF S)<|pZ D 0) T0 T)
  (hg:vW P KR KO ⟨fm f T0<|[.code x0]++[pX],[],sJ (SF S) D O w⟩)
  (uu:∀U f t t' pR v w1 M',(ry D O w.heap.size).Le U->AR (VR (SF S) U) t t'->(∃fn,P.funcs[f]?=some fn)->(∀t0,(∀j,j<v.drawn->t0 j=v.tape j)->KR f t (v.tp t0))->nB (SF S) U R v w1->(∀k k',U.to k=some k'->U.own k->M' k')->(∀k,M k->M' k)->(∀k,M' k->M k\/w.heap.size<=k)->J w1->Own P main R Sh X Stop M' (G (rI f t' pR) cs0) w1)
  (xn:∀U f t t' v w1 M',(ry D O w.heap.size).Le U->AR (VR (SF S) U) t t'->KO f t v->nB (SF S) U R v w1->(∀k k',U.to k=some k'->U.own k->M' k')->(∀k,M k->M' k)->(∀k,M' k->M k\/w.heap.size<=k)->J w1->Own P main R Sh X Stop M' (G (fm f t' [.code r0]) cs0) w1):
  Own P main R Sh X Stop M (G (fm f T [.code x]) cs0) w:=by
 have:=S3 (KR:=KR) (KO:=KO) (rest:=[.code r0]) (π0:=ry D O w.heap.size) (M0:=M) (cs0:=cs0) J sT uH KF hG (fun g hg=>zE<|hV g hg) uu xn _ hg.acc hg [.code x0,pX] [.code x] (.inr<|.inr ⟨x0,x,r0,rfl,rfl,rfl,zA⟩) (ry D O w.heap.size) (fm f T [.code x]) [] w M (Ren.Le.refl _)
  (.run (.run (todo:=[]) (ha.mono fun _ _ h=>NW h _) (fun _ h=>by simp at h) ⟨fn,hf⟩)) .nil hC.wr (fun k k' e eo=>by
   obtain⟨rfl,hd⟩:=HS e
   exact hC.own _ hd eo.2) (fun k hk=>hk) (fun k hk=>.inl hk) hJ
 exact this
theorem aeP(J:oQ)(sT:∀M w w1,oe M R Sh w w1->J w->J w1)(uH:∀(M':lF) w1 w2,(∀k,M' k->M k\/w.heap.size<=k)->nJ M' w1 w2->J w1->J w2)(hJ:J w)(KF:Fh P S){T0:lW}{items:nA}(hf:P.funcs[f]?=some fn)(hi:yf P S items)
  (hG:P.globals.size<=w.heap.size) (hV:∀g,S.vars g->D g) (hC:GJ R M w D O) (ha:AR (VR (SF S)<|pZ D 0) T0 T)
  (hg:Good P K ⟨fm f T0 items,[],sJ (SF S) D O w⟩)
  (HI:∀U u u' v w1 M',(ry D O w.heap.size).Le U->VR (SF S) U u u'->K u v->nB (SF S) U R v w1->(∀k k',U.to k=some k'->U.own k->M' k')->(∀k,M k->M' k)->(∀k,M' k->M k\/w.heap.size<=k)->J w1->Own P main R Sh X Stop M' (G (c0.finish u') cs0) w1):
  Own P main R Sh X Stop M (G (fm f T items)<|c0::cs0) w:=by
 have:=S3 (KR:=IB P K) (KO:=fun _ _ _=>False) (rest:=[]) (π0:=ry D O w.heap.size) (M0:=M) (cs0:=c0::cs0) (Stop:=Stop) (main:=main) (Sh:=Sh) (X:=X) J sT uH KF hG (fun g hg=>zE<|hV g hg)
  (fun U f t t' pR v w1 M' aBm ht hf hK hW qc xS uI hJ'=>asK ht hK hW qc hf fun mi u u' v' w2 M2 PO hu UI UP apd UJ am6 ⟨w3,WC,zC⟩=>?_) (fun _ _ _ _ _ _ _ _ _ h=>h.elim) _ hg.acc hg [] [] (.inr<|.inl ⟨rfl,rfl,rfl⟩) (ry D O w.heap.size) (fm f T items) [] w M (Ren.Le.refl _)
  (.run (by
   have:=Oa.run (P:=P) (S:=S) (U:=ry D O w.heap.size) (s:=[]) (r:=[]) (todo:=items) (ha.mono (S:=VR (SF S)<|ry D O w.heap.size) fun _ _ h=>NW h _) hi ⟨fn,hf⟩;rw[iU]at this
   exact this)) .nil hC.wr (fun k k' e eo=>by
   obtain⟨rfl,hd⟩:=HS e
   exact hC.own _ hd eo.2) (fun k hk=>hk) (fun k hk=>.inl hk) hJ
 .exact this
 have hb:∀k,M' k->M k\/w.heap.size<=k:=uI;have mR:w.heap.size<=w1.heap.size:=by have:=hW.base.2;rw[aBm.base]at this;exact this
 have hMM:∀k,M2 k->M k\/w.heap.size<=k:=fun k hk=>(am6 k hk).elim (hb k) fun h=>.inr<|j5 mR h;exact HI mi u u' v' w2 M2 (aBm.trans PO) hu UI UP apd (fun k hk=>UJ k<|xS k hk) hMM<|uH _ w3 w2 hb zC<|sT _ _ _ WC hJ'
theorem asH(J:oQ)(sT:∀M w w1,oe M R Sh w w1->J w->J w1)(uH:∀(M':lF) w1 w2,(∀k,M' k->M k\/w.heap.size<=k)->nJ M' w1 w2->J w1->J w2)(hJ:J w)(KF:Fh P S)(hf:P.funcs[f]?=some fn)(hb:fn.body=some c)(hS:S.fns f)
  (hG:P.globals.size<=w.heap.size) (hV:∀g,S.vars g->D g) (hC:GJ R M w D O) (ha:∀u∈args,VR (SF S) (pZ D 0) u u)
  (yJ:∀t,Calls P f args (sJ (SF S) D O<|w.tp t) fun e w'=>∃u,e=.returned u/\K u w')
  (HI:∀U u u' v w1 M',(ry D O w.heap.size).Le U->VR (SF S) U u u'->K u v->nB (SF S) U R v w1->(∀k k',U.to k=some k'->U.own k->M' k')->(∀k,M k->M' k)->(∀k,M' k->M k\/w.heap.size<=k)->J w1->Own P main R Sh X Stop M' (G (c0.finish u') cs0) w1):
  Own P main R Sh X Stop M (G ((base f).at {tmps:=args++Array.replicate (fn.ntmps-args.size) undef,defers:=[]} [.code c])<|c0::cs0) w:=by
 have hg:Good P K ⟨fm f (args++Array.replicate (fn.ntmps-args.size) undef) [.code c],[],sJ (SF S) D O w⟩:=amj hf hb fun t=>by rw[aqf];exact yJ t
 refine aeP (K:=K) J sT uH hJ KF hf (fun it hit=>?_) hG hV hC (AR.self fun u hu=>?_) hg HI
 .simp only[jM,iD,ld]at hit;subst hit;exact KF.code f fn c hS hf hb
 rcases ig.1 hu with h|h
 .exact ha u h
 rw[(gf.1 h).2];exact VR.undef
theorem asG(J:oQ)(sT:∀M w w1,oe M R Sh w w1->J w->J w1)(uH:∀(M':lF) w1 w2,(∀k,M' k->M k\/w.heap.size<=k)->nJ M' w1 w2->J w1->J w2)(hJ:J w)(KF:Fh P S)(hf:P.funcs[f]?=some fn)(hb:fn.body=some c)(hS:S.fns f)
  (hG:P.globals.size<=w.heap.size) (hV:∀g,S.vars g->D g) (hC:Closed R w D) (ha:∀u∈args,VR (SF S) (pZ D 0) u u)
  (yJ:∀t,Calls P f args (wL (SF S) D<|w.tp t) fun e w'=>∃u,e=.returned u/\K u w')
  (HI:∀U u u' v w1 M',(pZ D w.heap.size).Le U->VR (SF S) U u u'->K u v->nB (SF S) U R v w1->(∀k k',U.to k=some k'->U.own k->M' k')->(∀k,M k->M' k)->(∀k,M' k->M k\/w.heap.size<=k)->J w1->Own P main R Sh X Stop M' (G (c0.finish u') cs0) w1):
  Own P main R Sh X Stop M (G ((base f).at {tmps:=args++Array.replicate (fn.ntmps-args.size) undef,defers:=[]} [.code c])<|c0::cs0) w:=
 asH J sT uH hJ KF hf hb hS hG hV hC.o ha yJ HI
end
def zR(l:List Bool):Nat:=(l.filter (! ·)).length
theorem ahw:∀(l:List Bool) (i:Nat),l[i]?=some false->zR (l.set i true)+1=zR l
 |[],i,h=>by simp at h
 |b::l,0,h=>by simp only[eU,ia]at h;subst h;simp[zR]
 |b::l,i+1,h=>by have:=ahw l i (by simpa using h);unfold zR at this|-;cases b<;>simp_all
theorem ahx:∀(l:List Bool),zR l=0->∀i,l.getD i true
 |[],_,i=>aq|b::l,h,i=>by
  unfold zR at h;cases b with
  |false=>simp at h|true=>
   cases i with
   |zero=>simp|succ i=>simpa using ahx l (by simpa[zR]using h) i
theorem at6{md:Region.Mode}{aBj:pe}(h:zR aBj.toList=0):Region.ready md aBi aBj=[]:=by apply List.eq_nil_iff_forall_not_mem.2;intro j hj;have:=(mem_ready.1 hj).1;have h2:=ahx aBj.toList h j;rw[ed]at this;rw[eu,fx]at h2;rw[h2]at this;cases this
theorem at5{md:Region.Mode}{aBj:pe}(h:i∈Region.ready md aBi aBj):zR (aBj.setIfInBounds i true).toList+1=zR aBj.toList:=by
 have:=(mem_ready.1 h).1;rw[ei];refine ahw _ _ ?_;rw[fx];rw[ed]at this;cases hx:aBj[i]? with
 |none=>rw[hx]at this;cases this
 |some b=>rw[hx]at this;simp only[iK]at this;rw[this]
section
variable{P:lY}{main:Bool}{R:lF}{Sh:oQ}{X:Event->Prop}{Stop:qz}{b:Frame}{aBi:nI}{k:nA}{cs:nX}
theorem ago(I:Array Bool->Act->(Nat->Prop)->World->Prop)(C:Array Bool->List Nat->Act->(Nat->Prop)->World->Prop)
  (An:∀aBj a M w,Region.ready .any aBi aBj=[]->I aBj a M w->C aBj [] a M w)
  (uM:∀aBj a M w i rest,i∈Region.ready .any aBi aBj->I aBj a M w->(∀a' M' w',I (aBj.setIfInBounds i true) a' M' w'->C (aBj.setIfInBounds i true) rest a' M' w')->C aBj (i::rest) a M w):
  ∀(aBo t:Nat) (aBj:pe) (a:Act) (M:lF) (w:lE),zR aBj.toList<=aBo->I aBj a M w->C aBj (Region.linearise.go .any aBi aBo t aBj []) a M w:=by
 intro aBo
 induction aBo with
 |zero=>intro t aBj a M w hu hI;exact An aBj a M w (at6 aa) hI
 |succ aBo ih=>
  intro t aBj a M w hu hI;have e:Region.linearise.go .any aBi (aBo+1) t aBj []=match (Region.ready .any aBi aBj)[t%(Region.ready .any aBi aBj).length]? with
    |some i=>Region.linearise.go .any aBi aBo (t/(Region.ready .any aBi aBj).length) (aBj.setIfInBounds i true) [i]|none=>[]:=rfl
  rw[e];cases hr:(Region.ready .any aBi aBj)[t%(Region.ready .any aBi aBj).length]? with
  |none=>
   refine An aBj a M w ?_ hI;cases hl:Region.ready .any aBi aBj with
   |nil=>rfl|cons x l=>rw[hl]at hr;have:=kL t (show 0<(x::l).length by simp);rw[List.getElem?_eq_none_iff]at hr;omega
  |some i=>have hi:i∈Region.ready .any aBi aBj:=mZ hr;dsimp only;rw[linearise_go_acc];refine uM aBj a M w i _ hi hI fun a' M' w' si=>?_;have:=at5 hi;exact ih _ _ a' M' w' aa si
theorem aeK(hm:P.follows .mixedOrders){a:Act}
  (h:∀w1,oe M R Sh w w1->∀t w2,(w2=w1\/w2=w1.drew)->Own P main R Sh X Stop M (G (b.at a (.inRegion aBi (Region.linearise.go .any aBi aBi.size t (Array.replicate aBi.size false) [])::k)) cs) w2):
  Own P main R Sh X Stop M (G (b.at a (.code (.region id aBi true)::k)) cs) w:=by
 refine Own.mk Z fun w1 hr=>?_;have hs:∀t,Region.schedule (P.follows .mixedOrders) aBi t=Region.linearise.go .any aBi aBi.size t (Array.replicate aBi.size false) []:=fun t=>by unfold Region.schedule Region.linearise;rw[hm];rfl
 obtain⟨t,w2,hc,xu⟩:∃t w2,(choose<|.order b.fn id).run P w1=.ok t w2/\(w2=w1\/w2=w1.drew):=by
  simp only[choose,Sem.run];split
  .exact⟨_,_,Z,.inl Z⟩
  exact⟨_,_,Z,.inr Z⟩
 refine⟨_,w2, #[],Y4 hc,?_,fun e he=>by simp at he,?_⟩
 .rcases xu with rfl|rfl
  .exact nJ.refl _ _
  exact⟨ku _,fun _ _ _=>Z,Z,Z,Z⟩
 have e:w2.heap.size=w1.heap.size:=by rcases xu with rfl|rfl<;>rfl
 rw[e,Bz,hs];exact h w1 hr t w2 xu
end
section
variable{P:lY}{main:Bool}{R:lF}{Sh:oQ}{X:Event->Prop}{Stop:qz}{b:Frame}{aBi:nI}{k:nA}{cs:nX}{a:Act}{M:lF}{w:lE}{i:Nat}{rest:nN}{o:Oper}
theorem AH{v:lH}(ho:aBi[i]?=some o)(hw:Region.wanted o (yielded aBi a.tmps))(hk:b.kind≠.early)
  (hr:∀w1,oe M R Sh w w1->(execOp a.eval o).run P w1=.ok (.value v) w1/\∀e∈(execOp a.eval o).events P w1 #[],oc M R e)
  (h:Own P main R Sh X Stop M (G (b.at (a.put o.dst v) (.inRegion aBi rest::k)) cs) w):Own P main R Sh X Stop M (G (b.at a (.inRegion aBi (i::rest)::k)) cs) w:=by
 refine Own.mk Z fun w1 r=>?_;have⟨h1,h2⟩:=hr w1 r;refine⟨_,w1,_,stepG_value ho hw hk h1,nJ.refl _ _,fun e he=>.inl ?_,?_⟩
 .rw[Bz];exact h2 e<|kO he
 rw[Bz];exact h.rely r
theorem QR(ho:aBi[i]?=some o)(hw:Region.wanted o (yielded aBi a.tmps))(hk:b.kind≠.early)(hf:P.funcs[f]?=some fn)(hb:fn.body=some c)
  (hr:∀w1,oe M R Sh w w1->(execOp a.eval o).run P w1=.ok (.enter f args) w1/\∀e∈(execOp a.eval o).events P w1 #[],oc M R e)
  (h:∀w1,oe M R Sh w w1->Own P main R Sh X Stop M (G ((base f).at {tmps:=args++Array.replicate (fn.ntmps-args.size) undef,defers:=[]} [.code c])<|b.at a (.inRegion aBi (i::rest)::k)::cs) w1):
  Own P main R Sh X Stop M (G (b.at a (.inRegion aBi (i::rest)::k)) cs) w:=by
 refine Own.mk Z fun w1 r=>?_;have⟨h1,h2⟩:=hr w1 r;have e:=stepG_enter (main:=main) (cs:=cs) (k:=k) (rest:=rest) ho hw hk h1;rw[enter_at args hf hb]at e;refine⟨_,w1,_,e,nJ.refl _ _,fun e he=>.inl ?_,?_⟩
 .rw[Bz];exact h2 e<|kO he
 rw[Bz];exact h w1 r
theorem Own.bind{K7:qz}{g:lZ}(h:Own P main R Sh X Stop M g w)(hs:∀M g w,Stop M g w->Own P main R Sh X K7 M g w):Own P main R Sh X K7 M g w:=by
 induction h with
 |stop h=>exact hs _ _ _<|h _<|oe.refl ..|step hr nx h1 h2 h3 h4 ih=>exact .step hr nx h1 h2 h3 ih
end
abbrev On(L:Array Bool)(i:Nat):Prop:=L.getD i false=true
theorem EC{L:pe}(hi:i<L.size):On (L.setIfInBounds i true) k↔k=i\/On L k:=by
 unfold On;by_cases h:k=i
 .subst h;simp[hi]
 simp only[ed,dZ];rw[lp (fun e=>h e.symm)];simp[h]
def oR(aBi:nI)(i:Nat):List Nat:=match aBi[i]? with
 |some o=>(o.after.toList.filter<|Region.binds .any).map (·.on)|none=>[]
theorem ad8{o:Oper}(ho:aBi[i]?=some o){d:Nat}:d∈oR aBi i↔∃e∈o.after,Region.binds .any e/\e.on=d:=by simp only[oR,ho,jZ,jd,fQ];exact⟨fun⟨e,⟨h1,h2⟩,h3⟩=>⟨e,h1,h2,h3⟩,fun⟨e,h1,h2,h3⟩=>⟨e,⟨h1,h2⟩,h3⟩⟩
structure zd(ops:nI)(L:pe):Prop where
 n:L.size=ops.size
 cl:∀i,On L i->∀d∈oR ops i,On L d
theorem asa{L:pe}(h0:L[i]?.getD true=false):¬On L i:=by
 unfold On;rw[ed];cases hx:L[i]? with
 |none=>simp|some b=>rw[hx]at h0;simp only[iK]at h0|-;rw[h0];simp
theorem afQ{L:pe}(h:i∈Region.ready .any aBi L):i<aBi.size/\¬On L i/\∀d∈oR aBi i,On L d:=by have⟨h0,o,ho,nG⟩:=mem_ready.1 h;refine⟨(eg.1 ho).1,asa (by rwa [ed]at h0),fun d hd=>?_⟩;obtain⟨e,h1,h2,rfl⟩:=(ad8 ho).1 hd;exact nG e h1 h2
theorem zd.step{L:pe}(h:zd aBi L)(hi:i<aBi.size)(hd:∀d∈oR aBi i,On L d):zd aBi (L.setIfInBounds i true):=by
 refine⟨by simpa using h.n,fun k hk d rZ=>?_⟩;have e:∀k,On (L.setIfInBounds i true) k↔k=i\/On L k:=fun k=>EC (by rw[h.n];exact hi);rw[e]at hk|-;rcases hk with rfl|hk
 .exact .inr<|hd d rZ
 exact .inr<|h.cl k hk d rZ
theorem afR{L:pe}(hn:L.size=aBi.size)(Hm:((List.range aBi.size).all fun i=>(oR aBi i).all fun d=>Nat.blt d i)){x:Nat}(hx:x<aBi.size)(hxn:¬On L x):Region.ready .any aBi L≠[]:=by
 obtain⟨i,⟨hi,mI⟩,PS⟩:∃i,(i<aBi.size/\¬On L i)/\∀j,j<i->On L j:=by
  have key:∀n i,i<n->i<aBi.size->¬On L i->∃i,(i<aBi.size/\¬On L i)/\∀j,j<i->On L j:=by
   intro n
   induction n with
   |zero=>intro i hi;omega
   |succ n ih=>
    intro i hi Jb mI;by_cases hj:∃j,j<i/\¬On L j
    .obtain⟨j,hj,FX⟩:=hj;exact ih j aa aa FX
    exact⟨i,⟨Jb,mI⟩,fun j xl=>eD fun hh=>hj ⟨j,xl,hh⟩⟩
  exact key _ x (iH _) hx hxn
 have ho:aBi[i]?=some aBi[i]:=eB hi;have hb:∀d∈oR aBi i,d<i:=fun d hd=>by have:=iq.1 (iq.1 Hm i<|jy.2 hi) d hd;simpa using this
 have:i∈Region.ready .any aBi L:=mem_ready.2 ⟨by
  unfold On at mI;rw[ed]at mI|-;rw[eB aa]at mI|-
  simpa using mI,_,ho,fun e he Jg=>PS _ (hb _ ((ad8 ho).2 ⟨e,he,Jg,rfl⟩))⟩
 intro e;rw[e]at this;simp at this
theorem HY(n i:Nat):¬On (Array.replicate n false) i:=fun hi=>by unfold On at hi;rw[ed,eL]at hi;split at hi<;>simp at hi
theorem zd.none(aBi:nI):zd aBi (Array.replicate aBi.size false):=⟨aq,fun i h=>ll h (HY _ _)⟩
theorem aeX{v:lH}(h:Plain v):∀u∈v.cells,Plain u:=by intro u hu F U;have:=(h F U).cells;have⟨i,hi⟩:=fj.1 hu;exact this.2 i u u hi hi
theorem XR{c:lW}(h:∀u∈c,Plain u):Plain (.agg c):=fun F U=>.Bd (AR.self fun u hu=>h u hu F U)
def OA{α:Type}(Q:α->Prop)(o:Option α):Prop:=∀a,o=some a->Q a
theorem J4{α:Type}{Q:α->Prop}:OA Q none:=fun a e=>by cases e
theorem aer{α:Type}{Q:α->Prop}{a:α}(h:Q a):OA Q (some a):=fun b e=>by cases e;exact h
theorem AF{α:Type}{Q:α->Prop}{a:α}(h:Q a):OA Q (pure a):=aer h
theorem B7{α β:Type}{Q:β->Prop}{o:Option α}{f:α->Option β}(h:∀a,o=some a->OA Q (f a)):OA Q (o>>= f):=by
 cases o with
 |none=>exact J4|some a=>exact h a rfl
theorem aeq{α β:Type}(I:β->Prop){g:α->β->Option (ForInStep β)}:∀(l:List α) (b:β),I b->(∀a b,I b->OA (fun s=>∃x,s=.yield x/\I x) (g a b))->OA I (forIn l b g:Option β)
 |[],b,hb,_=>by rw[jv];exact AF hb
 |a::l,b,hb,hg=>by rw[iX];refine B7 fun s hs=>?_;obtain⟨x,rfl,hx⟩:=hg a b hb s hs;exact aeq I l x hx hg
def ZI(i:TypeInfo):Prop:=∀z,i.zero=some z->Plain z
theorem N4{d:TypeDesc}{s:String}{z:lH}{c:Bool}{n:Nat}(h:Plain z):ZI (Made.word d s z c n):=by intro z' hz;simp only[Made.word,ia]at hz;subst hz;exact h
def ZA(o:Option (Array Value)):Prop:=OA (fun z=>∀u∈z,Plain u) o
theorem ayh{o:Option (Array Value)}{i:TypeInfo}{n:Nat}(h:ZA o)(hi:ZI i):ZA (if n>Made.mostCells then none else do
  let a<-o
  let b<-i.zero
  pure (a++b.cells)):=by
 split
 .exact J4
 refine B7 fun a ha=>B7 fun b hb=>AF fun u hu=>?_;rcases ig.1 hu with h1|h1
 .exact h a ha u h1
 exact aeX (hi b hb) u h1
theorem ayp{info:TypeId->Option TypeInfo}(h:∀t,OA ZI (info t))(fs:Array Field):OA ZI (Made.reckonStruct info fs):=by
 unfold Made.reckonStruct;dsimp only;rw[<-gw];refine B7 fun r hr=>?_;have hz:ZA r.2.2.2.2.2.2.2.1:=by
  refine aeq (fun r:Array Field×Nat×Nat×Nat×Nat×Bool×Bool×Option (Array Value)×String=>ZA r.2.2.2.2.2.2.2.1) _ _ ?_ ?_ r hr
  .exact aer fun u hu=>by simp at hu
  intro f b hb;refine B7 fun i hi=>?_;have hiz:=h _ i hi
  repeat' first
   |exact J4|exact AF ⟨_,rfl,ayh hb hiz⟩|refine B7 fun _ _=>?_|split
 repeat' first
  |split|refine AF ?_
 all_goals
  intro z oM;simp only[ft]at oM;obtain⟨c,hc,rfl⟩:=oM;exact XR<|hz c hc
theorem ayo{info:TypeId->Option TypeInfo}(h:∀t,OA ZI (info t))(d:TypeDesc):OA ZI (Made.reckon info d):=by
 unfold Made.reckon;split
 case h_6 n e=>
  refine B7 fun i hi=>B7 fun _ _=>AF ?_;intro z hz;dsimp only at hz;split at hz
  .cases hz
  split at hz
  .cases hz;exact XR fun u hu=>by simp at hu
  simp only[ft]at hz;obtain⟨y,hy,rfl⟩:=hz;refine XR fun u hu=>?_;have:u∈y.cells:=by have⟨c,hc,vc⟩:=Array.mem_flatten.1 hu;rw[gf]at hc;exact hc.2▸vc
  exact aeX (h _ i hi y hy) u this
 case h_7 fs=>exact ayp h fs
 all_goals
  repeat' first
   |exact J4|exact AF<|N4 fun F U=>.rA|exact AF<|N4 fun F U=>.qI 0 0|exact AF<|N4 fun F U=>.xz|exact AF<|N4 fun F U=>.yy|exact AF<|N4 fun F U=>.nilFunc|refine B7 fun _ _=>?_|split
theorem ah0{P:lY}(h:∀(t:Nat) i,P.types[t]?=some i->ZI i):∀(n:Nat) (t:lT),OA ZI (Made.infoAt P.toTables n t)
 |0,_=>J4|n+1,t=>by
  unfold Made.infoAt;split
  .exact fun i hi=>h t i hi
  intro i hi;have⟨d,_,hd⟩:=e9.1 hi;exact ayo (ah0 h n) d i hd
theorem ayk(h:(P.types.all fun i=>match i.zero with|some z=>vM 6 z|none=>true)=true):zl P:=by
 have h0:∀(t:Nat) i,P.types[t]?=some i->ZI i:=fun t i hi z hz=>by have:=dR.1 h i<|fz hi;rw[hz]at this;exact aeY 6 z this
 intro t i z hi hz;unfold Tables.info? at hi;split at hi
 .exact h0 t i hi z hz
 exact ah0 h0 _ _ i hi z hz
section
variable{P:lY}{F:nj}{U:Ren}
theorem awf{ps rs:Array TypeId}(ha:AR (VR F U) args mD):SR P F (At U (VR F U)) U (Extern.SlicesOverlaps.overlaps ps rs args) (Extern.SlicesOverlaps.overlaps ps rs mD):=by
 have main:∀{A A' B B':lO} (la ca lb cb:Nat),OR (mE U) A A'->OR (mE U) B B'->
   SR P F (At U<|VR F U) U (Extern.SlicesOverlaps.overlaps ps rs #[.slice A la ca,.slice B lb cb]) (Extern.SlicesOverlaps.overlaps ps rs #[.slice A' la ca,.slice B' lb cb]):=by
  intro A A' B B' la ca lb cb hA hB;unfold Extern.SlicesOverlaps.overlaps;cases ps[0]? with
  |none=>exact .stuck|some t=>
   dsimp only;refine SR.under fun d hd=>?_;cases d<;>first|exact .stuck|skip
   rename_i elem;dsimp only;refine(tq elem).eq fun size=>?_;cases hA with
   |none=>exact .ret ⟨rfl,.bool _⟩|some ha=>
    cases hB with
    |none=>exact .ret ⟨rfl,.bool _⟩|some hb=>
     rename_i a a' b b';have h1:(a'.block==b'.block)=(a.block==b.block):=by rw[iO];simpa using ha.SH hb
     have uG:(a'.block !=b'.block)=(a.block !=b.block):=by rw[bne,bne,h1]
     dsimp only;rw[h1,uG,ha.2.1,hb.2.1];split
     .exact .ret ⟨Z,.bool _⟩
     obtain⟨z,hz⟩:∃z,z=(a.block==b.block&&decide (a.off<b.off+lb*size)&&decide (b.off<a.off+la*size)):=⟨_,rfl⟩
     rw[<-hz];refine .LK ha fun fa TK e1=>.LK hb fun fb TO e2=>?_;by_cases hf:(a.block !=b.block&&fa&&fb)
     .rw[lq hf];exact .dead (zt<|by intro g;simp)
     have BL:¬(a.block !=b.block&&TK&&TO):=by intro e;simp only[ij]at e hf;exact hf ⟨⟨e.1.1,e1 e.1.2⟩,e2 e.2⟩
     rw[lp hf,lp BL];split
     .rename_i mK;have oM:z=false:=by
       have:(a.block==b.block)=false:=by simpa[bne]using mK
       rw[hz,this];rfl
      subst oM;refine(NO ha).at fun _ _ _=>(NO hb).at fun _ _ _=>(agQ ha hb).at fun m m' hm=>?_;cases m with
      |true=>
       cases m' with
       |true=>exact .DY fun n=>.ret ⟨rfl,.bool _⟩
       |false=>exact .Fw 0 rfl<|.ret ⟨rfl,.bool _⟩
      |false=>
       cases m' with
       |true=>exact ll (hm rfl) aq|false=>exact .ret ⟨rfl,.bool _⟩
     exact .ret ⟨Z,.bool _⟩
 have none_:∀(A A' B B':lO) (la ca lb cb:Nat),la=0\/lb=0->
   SR P F (At U<|VR F U) U (Extern.SlicesOverlaps.overlaps ps rs #[.slice A la ca,.slice B lb cb]) (Extern.SlicesOverlaps.overlaps ps rs #[.slice A' la ca,.slice B' lb cb]):=by
  intro A A' B B' la ca lb cb h0;unfold Extern.SlicesOverlaps.overlaps;cases ps[0]? with
  |none=>exact .stuck|some t=>
   dsimp only;refine SR.under fun d hd=>?_;cases d<;>first|exact .stuck|skip
   rename_i elem;dsimp only;refine(tq elem).eq fun size=>?_;have h1:la=0\/lb=0\/size=0:=h0.elim .inl fun h=>.inr<|.inl h;cases A<;>cases A'<;>cases B<;>cases B'<;>dsimp only<;>(try rw[lq h1])<;>(try rw[lq h1])<;>exact .ret ⟨rfl,.bool _⟩
 obtain⟨l⟩:=args;obtain⟨l'⟩:=mD;have hl:LR (VR F U) l l':=by simpa using ha.lr
 cases hl with
 |nil=>exact .stuck|cons h1 t1=>
  cases t1 with
  |nil=>cases h1<;>exact .stuck
  |cons h2 t2=>
   cases t2 with
   |cons h3 t3=>cases h1<;>cases h2<;>exact .stuck
   |nil=>
    cases h1<;>first|exact .stuck|skip
    all_goals
     cases h2<;>first|exact .stuck|skip
    all_goals
     first
      |exact none_ _ _ _ _ _ _ _ _<|.inl rfl|exact none_ _ _ _ _ _ _ _ _<|.inr rfl|(refine main _ _ _ _ ?_ ?_<;>first|exact .none|(refine .some ?_;assumption))
end
inductive pI(P:lY){α:Type}:Sem α->Prop where
 |pure (a:α):pI P (.pure a)|program {k:Program->Sem α}:pI P (k P)->pI P (.program k)|dead {s:Sem α}:nh P s->pI P s
section
variable{P:lY}{F:nj}{U:Ren}{α β:Type}
theorem pI.bind{s:Sem α}{f:α->Sem β}(h:pI P s)(hf:∀a,pI P (f a)):pI P (s>>= f):=by
 induction h with
 |pure a=>exact hf a|program _ ih=>exact .program ih|dead h=>exact .dead<|h.bind _
theorem pI.prog{f:Program->Sem α}(h:pI P (f P)):pI P (Go.program>>= f):=.program h
theorem pI.ret(a:α):pI P (Pure.pure a:Sem α):=.pure a
theorem pI.stuck(s:String):pI P (Go.stuck s:Sem α):=.dead (oH _)
theorem pI.pv(s:String):pI P (Go.unsupported (.noEntry s):Sem α):=.dead (zt (by intro g;simp))
theorem pI.sr{s:Sem α}(h:pI P s):SR P F (At U Eq) U s s:=by
 induction h with
 |pure a=>exact .pure ⟨rfl,rfl⟩|program _ ih=>exact .program ih|dead h=>exact .dead h
theorem Ns(t:lT):pI P (typeInfo t):=.prog (by split;exact .ret _;exact .stuck _)
theorem QX(s:String)(t:lT):pI P (Extern.Rtype.noPack s t):=.prog (by split;exact .pv _;exact .ret _)
theorem Nt(s:String)(t:lT):pI P (Extern.Rtype.noPackMethods s t):=.prog (.prog (by split;exact .pv _;exact .ret _))
theorem ae6(s:String):pI P (cutType s):=.prog (by split;exact .ret _;exact .stuck _)
theorem atn(t:lT):pI P (underlying t):=.prog (by split;exact .ret _;exact .stuck _)
theorem atl(t:lT):pI P (elemOf t):=by
 unfold elemOf;refine .bind (atn t) fun d=>?_;split
 .exact .ret _
 exact .stuck _
theorem XV(t:lT):pI P (Extern.Rtype.spelt t):=by
 refine .bind (.prog<|.prog<|by split;exact .pv _;exact .ret _) fun _=>.bind (Ns t) fun i=>?_;dsimp only;split
 .exact .pv _
 exact .ret _
theorem Kd(t:lT):pI P (Extern.Rtype.under t):=by
 refine .bind (Ns t) fun i=>?_;split
 .exact .bind (Ns _) fun _=>.ret _
 exact .ret _
theorem QW(t:lT):pI P (Extern.Rtype.kind t):=by
 refine .bind (Kd t) fun i=>?_
 (repeat' split)<;>first|exact .ret _|exact .stuck _
theorem ae8(t:lT):pI P (Extern.Rtype.hasName t):=by refine .bind (Ns t) fun i=>?_;split<;>exact .ret _
theorem ae7(t:lT):pI P (Extern.Rtype.elem? t):=by refine .bind (Kd t) fun⟨_,i⟩=>?_;split<;>exact .ret _
theorem XU(t u:lT):pI P (Extern.Rtype.implements t u):=by
 refine .bind (Nt _ _) fun _=>.bind (Nt _ _) fun _=>.bind (Kd t) fun⟨_,i⟩=>.bind (Kd u) fun⟨_,j⟩=>?_;split
 .exact .ret _
 .exact .bind (Ns _) fun _=>.ret _
 exact .ret _
theorem ae5(t u:lT):pI P (Extern.Rtype.directlyAssignable t u):=by
 unfold Extern.Rtype.directlyAssignable;split
 .exact .ret _
 refine .bind (ae8 t) fun a=>.bind (ae8 u) fun b=>?_;split
 .exact .ret _
 refine .bind (Kd t) fun i=>.bind (Kd u) fun j=>?_
 (repeat' split)<;>exact .ret _
variable{V:pw}
theorem axn(hG:Gd P V U)(hV:V P.globals.size)(t:lT):VR F U (typeHandle P t) (typeHandle P t):=.ptr ⟨hG.vars _ hV,rfl,rfl⟩
theorem agM(hG:Gd P V U)(hV:V P.globals.size)(t:lT):SR P F (At U (VR F U)) U (Extern.Rtype.handle t) (Extern.Rtype.handle t):=.prog (.ret ⟨rfl,axn hG hV t⟩)
theorem Y0(hG:Gd P V U)(hV:V P.globals.size)(t:lT):SR P F (At U (VR F U)) U (Extern.ReflectliteType.toType t) (Extern.ReflectliteType.toType t):=(ae6 _).sr.eq fun c=>(agM hG hV t).at fun h h' hh=>.ret ⟨rfl,.iface c<|.Bd<|AR.nil.push hh⟩
theorem Ry(hG:Gd P V U)(hV:V P.globals.size){h h':lH}(hh:VR F U h h'):SR P F (At U Eq) U (Extern.Rtype.ofHandle h) (Extern.Rtype.ofHandle h'):=by
 unfold Extern.Rtype.ofHandle;refine .prog ?_;cases hh<;>first|exact .stuck|skip
 rename_i a a' ha;unfold handleType;dsimp only;by_cases e:a.block=P.globals.size
 .have e':a'.block=P.globals.size:=by
   have:=hG.vars _ hV;rw[<-e,ha.1,e]at this;exact jl this
  rw[lq dM,lq (by simpa using e'),ha.2.1];exact .ret ⟨Z,Z⟩
 rw[lp dM];exact .stuck
theorem AR.asl{r:α->β->Prop}{x:α}{l:Array β}(h:AR r #[x] l):∃x',l= #[x']/\r x x':=by
 obtain⟨hs,hr⟩:=h;have h2:l.size=1:=hs.symm;refine⟨l[0],?_,hr 0 _ _ Z<|eB _⟩;apply kU
 .exact h2
 intro i h1 h3
 match i,h3 with
 |0,_=>rfl
theorem AR.asm{r:α->β->Prop}{x y z:α}{l:Array β}(h:AR r #[x,y,z] l):∃x' y' z',l= #[x',y',z']/\r x x'/\r y y'/\r z z':=by
 obtain⟨hs,hr⟩:=h;have h2:l.size=3:=hs.symm;refine⟨l[0],l[1],l[2],?_,hr 0 _ _ Z<|eB _,hr 1 _ _ Z<|eB _,hr 2 _ _ Z<|eB _⟩;apply kU
 .exact h2
 intro i h1 h3
 match i,h3 with
 |0,_=>rfl|1,_=>rfl|2,_=>rfl
theorem Kw{γ:Type}{Q:Ren->γ->γ->Prop}{f:Array Value->Sem γ}(ha:AR (VR F U) args mD)(h0:nh P (f #[]))(h2:∀x y l,nh P (f ⟨x::y::l⟩))(h:∀x x',VR F U x x'->SR P F Q U (f #[x]) (f #[x'])):SR P F Q U (f args) (f mD):=by
 obtain⟨l⟩:=args;rcases l with _|⟨x,_|⟨y,l⟩⟩
 .exact .dead h0
 .obtain⟨x',rfl,hx⟩:=AR.asl ha;exact h _ _ hx
 exact .dead<|h2 _ _ _
theorem NQ{γ:Type}{Q:Ren->γ->γ->Prop}{f:Array Value->Sem γ}(ha:AR (VR F U) args mD)(h0:nh P (f #[]))(h1:∀x,nh P (f #[x]))(h3:∀x y z l,nh P (f ⟨x::y::z::l⟩))(h:∀x y x' y',VR F U x x'->VR F U y y'->SR P F Q U (f #[x,y]) (f #[x',y'])):SR P F Q U (f args) (f mD):=by
 obtain⟨l⟩:=args;rcases l with _|⟨x,_|⟨y,_|⟨z,l⟩⟩⟩
 .exact .dead h0
 .exact .dead<|h1 _
 .obtain⟨x',y',rfl,hx,hy⟩:=AR.aet ha;exact h _ _ _ _ hx hy
 exact .dead<|h3 _ _ _ _
theorem Rt{x:lH}(hx:VR F U x x'):SR P F (At U Eq) U (Extern.Bytes.bytesOf x) (Extern.Bytes.bytesOf x'):=by
 unfold Extern.Bytes.bytesOf;cases hx<;>first
  |exact .stuck|exact .ret ⟨rfl,rfl⟩|skip
 rename_i ha;have key:∀(n:Nat) (acc:ByteArray) {a a':Addr},mE U a a'->SR P F (At U Eq) U (Extern.Bytes.loadBytes a n acc) (Extern.Bytes.loadBytes a' n acc):=by
  intro n
  induction n with
  |zero=>exact fun _ _ _ _=>.ret ⟨rfl,rfl⟩
  |succ n ih=>
   intro acc a a' ha;refine .Qs ha fun v v' hv=>?_;cases hv<;>first|exact .stuck|skip
   rename_i k z;cases k<;>first|exact .stuck|skip
   exact ih _<|ha.add 1
 exact key _ _ ha
theorem agF{x:lH}(hx:VR F U x x'):SR P F (At U Eq) U (Extern.Bytes.asByte x) (Extern.Bytes.asByte x'):=by
 unfold Extern.Bytes.asByte;cases hx<;>first
  |exact .stuck|skip
 rename_i k z;cases k<;>first|exact .stuck|exact .ret ⟨rfl,rfl⟩
theorem avG(ha:AR (VR F U) args mD):SR P F (At U (VR F U)) U (Extern.BytealgCount.count args) (Extern.BytealgCount.count mD):=by refine NQ ha (oH _) (fun _=>oH _) (fun _ _ _ _=>oH _) fun x y x' y' hx hy=>(Rt hx).eq fun b=>(agF hy).eq fun c=>.ret ⟨Z,.int _ _⟩
theorem avU(ha:AR (VR F U) args mD):SR P F (At U (VR F U)) U (Extern.BytealgIndexByte.indexByte args) (Extern.BytealgIndexByte.indexByte mD):=by refine NQ ha (oH _) (fun _=>oH _) (fun _ _ _ _=>oH _) fun x y x' y' hx hy=>(Rt hx).eq fun b=>(agF hy).eq fun c=>?_;split<;>exact .ret ⟨rfl,.int _ _⟩
theorem avV(hG:Gd P V U){g:Nat}(hg:P.globals.findIdx? (·.name== "internal/bytealg.MaxLen")=some g)(hV:V g)(ha:AR (VR F U) args mD):SR P F (At U (VR F U)) U (Extern.BytealgIndex.index args) (Extern.BytealgIndex.index mD):=by
 refine NQ ha (oH _) (fun _=>oH _) (fun _ _ _ _=>oH _) fun x y x' y' hx hy=>(Rt hx).eq fun b=>(Rt hy).eq fun c=>?_;have ha:SR P F (At U<|mE U) U (globalAddr "internal/bytealg.MaxLen") (globalAddr "internal/bytealg.MaxLen"):=by unfold globalAddr;refine .prog ?_;rw[hg];exact .ret ⟨Z,hG.vars g hV,Z,Z⟩
 have hm:SR P F (At U Eq) U Extern.BytealgIndex.maxLen Extern.BytealgIndex.maxLen:=ha.at fun a a' h=>.Qs h fun v v' hv=>EU hv;refine hm.eq fun n=>?_;cases h1:(decide (c.size<2)||decide ((c.size:Int)>n))with
 |true=>simp only[lj];exact .xF|false=>
  simp only[gy,kZ];by_cases h2:b.size>=2 ^ 32-15
  .rw[lq h2];exact .xF
  rw[lp h2];split<;>exact .ret ⟨rfl,.int _ _⟩
theorem awt(hG:Gd P V U)(hV:V P.globals.size)(ha:AR (VR F U) args mD):SR P F (At U (VR F U)) U (Extern.ReflectliteType.typeOf args) (Extern.ReflectliteType.typeOf mD):=by
 refine Kw ha (oH _) (fun _ _ _=>oH _) fun x x' hx=>?_;cases hx with
 |nilIface=>exact .ret ⟨rfl,.nilIface⟩|iface t h=>exact Y0 hG hV t|_=>exact .stuck
theorem agS(hG:Gd P V U)(hV:V P.globals.size)(t:lT)(ha:mE U a a')(n:Nat):SR P F (At U (VR F U)) U (Extern.ReflectliteValue.mk t a n) (Extern.ReflectliteValue.mk t a' n):=(agM hG hV t).at fun h h' hh=>(QW t).sr.eq fun k=>.ret ⟨rfl,.Bd<|((AR.nil.push hh).push<|.ptr ha).push<|.int _ _⟩
theorem ahG:VR F U Extern.ReflectliteValue.zeroV Extern.ReflectliteValue.zeroV:=.Bd (((AR.nil.push .rA).push .rA).push (.int _ _))
theorem ag1(hG:Gd P V U)(hV:V P.globals.size){x:lH}(hx:VR F U x x'):SR P F (fun U=>VR F U) U (Extern.ReflectliteValue.unpack x) (Extern.ReflectliteValue.unpack x'):=by
 unfold Extern.ReflectliteValue.unpack;cases hx with
 |nilIface=>exact .ret ahG|iface t h=>exact(YW t h).bind fun mi a a' aBm hq=>nV<|agS ⟨by rw[aBm.base];exact hG.base,fun g hg=>aBm.to _ _<|hG.vars g hg⟩ hV t hq.1 0
 |_=>exact .stuck
theorem pI.LB{s:Sem α}{f:α->Sem β}(h:pI P s)(hf:∀a,nh P (f a)):nh P (s>>= f):=by
 induction h with
 |pure a=>exact hf a|program _ ih=>exact .program ih|dead h=>exact h.bind _
theorem GZ{γ:Type}(s:String)(k:Nat):nh P (Extern.ReflectliteValue.valueError s k:Sem γ):=(ae6 _).LB fun t=>(atl t).LB fun e=>.new fun n=>yz _
def ZK(U:Ren)(p p':TypeId×Addr×Nat):Prop:=p.1=p'.1/\mE U p.2.1 p'.2.1/\p.2.2=p'.2.2
theorem agU(hG:Gd P V U)(hV:V P.globals.size){x:lH}(hx:VR F U x x'):SR P F (At U (OR (ZK U))) U (Extern.ReflectliteValue.partsAny x) (Extern.ReflectliteValue.partsAny x'):=by
 cases hx with
 |agg hs hr=>
  rename_i c c';have ha:AR (VR F U) c c':=⟨hs,hr⟩
  obtain⟨l⟩:=c;rcases l with _|⟨x,_|⟨y,_|⟨z,_|⟨u,l⟩⟩⟩⟩
  .exact .stuck
  .exact .stuck
  .exact .stuck
  .obtain⟨x',y',z',rfl,hx,hy,hz⟩:=AR.asm ha;cases hz<;>first|exact .stuck|skip
   rename_i k n;cases k<;>first|exact .stuck|skip
   rcases n with(_|m)|m
   .exact .ret ⟨Z,.none⟩
   .cases hy<;>first|exact .stuck|skip
    exact(Ry hG hV hx).eq fun t=>.ret ⟨Z,.some ⟨Z,aX,rfl⟩⟩
   cases hy<;>first|exact .stuck|skip
   exact(Ry hG hV hx).eq fun t=>.ret ⟨Z,.some ⟨Z,aX,rfl⟩⟩
  exact .stuck
 |_=>exact .stuck
theorem YY(hG:Gd P V U)(hV:V P.globals.size){x:lH}(hx:VR F U x x'):SR P F (At U (OR (ZK U))) U (Extern.ReflectliteValue.parts x) (Extern.ReflectliteValue.parts x'):=by
 refine(agU hG hV hx).at fun o o' h=>?_;cases h with
 |none=>exact .ret ⟨rfl,.none⟩|some h=>rename_i p p';obtain⟨t,a,n⟩:=p;obtain⟨t',a',n'⟩:=p';obtain⟨h1,h2,h3⟩:=h;dsimp only at h1 h2 h3;subst h1;subst h3;exact(QX _ _).sr.eq fun _=>.ret ⟨Z,.some ⟨Z,h2,Z⟩⟩
theorem av8{Q:Ren->Value->Value->Prop}(hG:Gd P V U)(hV:V P.globals.size){z:Sem Value}{f:TypeId->Addr->Nat->Nat->Sem Value}(hz:nh P z)(h:∀t a a' n k,mE U a a'->SR P F Q U (f t a n k) (f t a' n k))(ha:AR (VR F U) args mD):SR P F Q U (Extern.ReflectliteValue.methodAny z f args) (Extern.ReflectliteValue.methodAny z f mD):=by
 refine Kw ha (oH _) (fun _ _ _=>oH _) fun x x' hx=>(agU hG hV hx).at fun o o' ho=>?_;cases ho with
 |none=>exact .dead hz|some ho=>rename_i p p';obtain⟨t,a,n⟩:=p;obtain⟨t',a',n'⟩:=p';obtain⟨h1,h2,h3⟩:=ho;dsimp only at h1 h2 h3;subst h1;subst h3;exact h _ _ _ _ _ h2
theorem YU{Q:Ren->Value->Value->Prop}(hG:Gd P V U)(hV:V P.globals.size){z:Sem Value}{f:TypeId->Addr->Nat->Nat->Sem Value}(hz:SR P F Q U z z)(h:∀t a a' n k,mE U a a'->SR P F Q U (f t a n k) (f t a' n k))(ha:AR (VR F U) args mD):SR P F Q U (Extern.ReflectliteValue.method z f args) (Extern.ReflectliteValue.method z f mD):=by
 refine Kw ha (oH _) (fun _ _ _=>oH _) fun x x' hx=>(YY hG hV hx).at fun o o' ho=>?_;cases ho with
 |none=>exact hz|some ho=>rename_i p p';obtain⟨t,a,n⟩:=p;obtain⟨t',a',n'⟩:=p';obtain⟨h1,h2,h3⟩:=ho;dsimp only at h1 h2 h3;subst h1;subst h3;exact h _ _ _ _ _ h2
theorem avW(t:lT)(ha:mE U a a')(n k:Nat):SR P F (At U (VR F U)) U (Extern.ReflectliteValue.isNil t a n k) (Extern.ReflectliteValue.isNil t a' n k):=by
 unfold Extern.ReflectliteValue.isNil
 have main:SR P F (At U (VR F U)) U (loadVar t a>>= fun v=>match v with
   |.chan none|.nilFunc|.nilIface|.map none|.pointer none|.slice none _ _=>pure<|.bool true|_=>pure (.bool false)) (loadVar t a'>>= fun v=>match v with
   |.chan none|.nilFunc|.nilIface|.map none|.pointer none|.slice none _ _=>pure<|.bool true
   |_=>pure (.bool false)):=by
  refine(Gt t ha).at fun v v' hv=>?_;cases hv with
  |hole h1 h2 h3 h4=>
   obtain⟨⟨g1,g2,g3,g4⟩,g5,g6,g7⟩:=h4;cases v' with
   |pointer a=>cases a with
    |none=>exact ll rfl g1|some a=>exact .ret ⟨rfl,.bool _⟩
   |chan a=>cases a with
    |none=>exact ll rfl g2|some a=>exact .ret ⟨rfl,.bool _⟩
   |map a=>cases a with
    |none=>exact ll rfl g3|some a=>exact .ret ⟨rfl,.bool _⟩
   |slice a l c=>cases a with
    |none=>exact ll rfl<|g4 _ _|some a=>exact .ret ⟨rfl,.bool _⟩
   |nilIface=>exact ll rfl g5|nilFunc=>exact ll rfl g6|_=>exact .ret ⟨rfl,.bool _⟩
  |_=>exact .ret ⟨rfl,.bool _⟩
 dsimp only;split
 .exact .dead<|(GZ _ _).bind _
 exact main
theorem avI(hG:Gd P V U)(hV:V P.globals.size)(t:lT)(ha:mE U a a')(n k:Nat):SR P F (fun U=>VR F U) U (Extern.ReflectliteValue.elem t a n k) (Extern.ReflectliteValue.elem t a' n k):=by
 unfold Extern.ReflectliteValue.elem;dsimp only;split
 .exact .dead<|(GZ _ _).bind _
 refine(Gt t ha).at fun v v' hv=>(ae7 t).sr.eq fun e=>?_;by_cases Jd:k=20
 .subst Jd;exact ag1 hG hV hv
 by_cases h22:k=22
 .subst h22;cases hv with
  |rA=>exact .ret ahG|ptr hp=>
   cases e with
   |none=>exact .dead<|GZ _ _|some e=>exact nV<|agS hG hV e hp _
  |_=>exact .dead<|GZ _ _
 exfalso;rename_i h;simp[Jd,h22]at h
theorem awm(hG:Gd P V U)(hV:V P.globals.size)(ha:AR (VR F U) args mD):SR P F (At U (VR F U)) U (Extern.ReflectliteValue.set args) (Extern.ReflectliteValue.set mD):=by
 refine NQ ha (oH _) (fun _=>oH _) (fun _ _ _ _=>oH _) fun x y x' y' hx hy=>?_;unfold Extern.ReflectliteValue.set;refine(YY hG hV hx).at fun o o' ho=>(YY hG hV hy).at fun q q' hq=>?_;cases ho with
 |none=>exact .pv|some ho=>
  cases hq with
  |none=>exact .pv|some hq=>
   rename_i p p' r r';obtain⟨t,a,n⟩:=p;obtain⟨t',a',n'⟩:=p';obtain⟨u,b,m⟩:=r;obtain⟨u',b',m'⟩:=r';obtain⟨h1,h2,h3⟩:=ho;obtain⟨h4,h5,h6⟩:=hq;dsimp only at h1 h2 h3 h4 h5 h6;subst h1;subst h3;subst h4;subst h6;dsimp only;split
   .exact .xF
   have fin:SR P F (At U<|VR F U) U (pure (.tuple #[]):Sem Value) (pure (.tuple #[]):Sem Value):=.ret ⟨rfl,.tuple' .nil⟩;refine(Gt u h5).at fun v v' hv=>(ae5 t u).sr.eq fun q=>?_;cases q with
   |true=>exact(YZ t h2 hv).at fun _ _ _=>fin
   |false=>
    refine(XU t u).sr.eq fun q=>?_;cases q with
    |false=>simp only[gy,kZ];exact .dead<|(XV _).LB fun _=>(XV _).LB fun _=>(LF<|yz _).bind _
    |true=>
     refine(QW u).sr.eq fun k=>?_;have mo:∀{v v':lH},VR F U v v'->SR P F (At U<|VR F U) U (storeVar t a v>>= fun _=>pure<|.tuple #[]) (storeVar t a' v'>>= fun _=>pure<|.tuple #[]):=fun hv=>(YZ t h2 hv).at fun _ _ _=>fin;by_cases hk:k=20
     .subst hk;have mI:(v=.nilIface/\v'=.nilIface)\/(v≠.nilIface/\v'≠.nilIface):=by
       cases hv with
       |nilIface=>exact .inl ⟨rfl,rfl⟩|hole h1 h2 h3 h4=>exact .inr ⟨aq,h4.2.1⟩|_=>exact .inr ⟨aq,aq⟩
      rcases mI with⟨rfl,rfl⟩|⟨n1,n2⟩
      .exact .xF
      simp only[beq_self_eq_true,lj];exact mo hv
     have hb:(k==20)=false:=by simpa using hk
     simp only[hb,gy,kZ];exact mo<|.iface u hv
theorem YX(hG:Gd P V U)(hV:V P.globals.size){x:lH}(hx:VR F U x x'):SR P F (At U Eq) U (Extern.ReflectliteType.ofRtype x) (Extern.ReflectliteType.ofRtype x'):=by
 cases hx with
 |agg hs hr=>
  rename_i c c';have ha:AR (VR F U) c c':=⟨hs,hr⟩
  exact Kw (f:=fun c=>Extern.ReflectliteType.ofRtype<|.agg c) ha (oH _) (fun _ _ _=>oH _) fun y y' hy=>(Ry hG hV hy).eq fun t=>(QX _ _).sr.eq fun _=>.ret ⟨Z,Z⟩
 |_=>exact .stuck
theorem awk(hG:Gd P V U)(hV:V P.globals.size)(ha:AR (VR F U) args mD):SR P F (At U (VR F U)) U (Extern.ReflectliteType.method Extern.ReflectliteType.elem args) (Extern.ReflectliteType.method Extern.ReflectliteType.elem mD):=by
 refine Kw ha (oH _) (fun _ _ _=>oH _) fun x x' hx=>(YX hG hV hx).eq fun t=>(ae7 t).sr.eq fun e=>?_;cases e with
 |some e=>exact Y0 hG hV e|none=>exact .dead<|(XV _).LB fun _=>LF<|yz _
theorem agV(hG:Gd P V U)(hV:V P.globals.size)(what:String){f:TypeId->TypeId->Sem Bool}(hf:∀t u,pI P (f t u))(ha:AR (VR F U) args mD):SR P F (At U (VR F U)) U (Extern.ReflectliteType.relation what f args) (Extern.ReflectliteType.relation what f mD):=by
 refine NQ ha (oH _) (fun _=>oH _) (fun _ _ _ _=>oH _) fun x y x' y' hx hy=>?_;cases hy with
 |nilIface=>exact .dead<|LF<|yz _|iface t h=>exact(YX hG hV h).eq fun u=>(YX hG hV hx).eq fun t=>(hf _ _).sr.eq fun b=>.ret ⟨rfl,.bool _⟩
 |_=>exact .stuck
theorem atm(u t:lT):pI P (Extern.ReflectliteType.implements_ u t):=by
 refine .bind (QW u) fun k=>?_;have rest:pI P (Extern.Rtype.noPackMethods "Implements" t>>= fun _=>Extern.Rtype.noPack "Implements" u>>= fun _=>Extern.Rtype.implements u t):=.bind (Nt _ _) fun _=>.bind (QX _ _) fun _=>XU _ _;split
 .exact .dead<|(LF<|yz _).bind _
 exact rest
theorem atj(u t:lT):pI P (Extern.ReflectliteType.assignableTo u t):=by
 have rest:pI P (Extern.Rtype.directlyAssignable u t>>= fun a=>Extern.Rtype.implements u t>>= fun b=>pure<|a||b):=.bind (ae5 _ _) fun _=>.bind (XU _ _) fun _=>.ret _;unfold Extern.ReflectliteType.assignableTo;dsimp only;split
 .exact .bind (Nt _ _) fun _=>.bind (Nt _ _) fun _=>rest
 exact rest
theorem avk(hG:Gd P V U)(hV:V P.globals.size)(ha:AR (VR F U) args mD):SR P F (At U (VR F U)) U (Extern.ReflectliteType.abiMethod (fun t=>do pure (.int .u8 (<-Extern.Rtype.kind t))) args) (Extern.ReflectliteType.abiMethod (fun t=>do pure (.int .u8 (<-Extern.Rtype.kind t))) mD):=Kw ha (oH _) (fun _ _ _=>oH _) fun x x' hx=>(Ry hG hV hx).eq fun t=>(QX _ _).sr.eq fun _=>(QW t).sr.eq fun k=>.ret ⟨rfl,.int _ _⟩
end
def ZM(i:TypeInfo):Prop:=i.methods= #[]
theorem ayn{info:TypeId->Option TypeInfo}(fs:Array Field):OA ZM (Made.reckonStruct info fs):=by
 unfold Made.reckonStruct;refine B7 fun _ _=>?_;dsimp only
 repeat' split
 all_goals exact AF rfl
theorem aym{info:TypeId->Option TypeInfo}(d:TypeDesc):OA ZM (Made.reckon info d):=by
 unfold Made.reckon;split
 case h_7 fs=>exact ayn fs
 all_goals
  repeat' first
   |exact J4|exact AF rfl|refine B7 fun _ _=>?_|split
theorem arF{C:Method->Bool}(h:(P.types.toList.all fun i=>i.methods.toList.all C)){t:lT}{i:TypeInfo}(hi:P.info? t=some i){m:Method}(hm:m∈i.methods):C m:=by
 have h0:∀{j:Nat} {i:TypeInfo},P.types[j]?=some i->m∈i.methods->C m:=fun hj hm=>iq.1 (iq.1 h _<|fQ.2<|fz hj) m (fQ.2 hm)
 have h1:∀(n:Nat) (t:lT) {i:TypeInfo},Made.infoAt P.toTables n t=some i->m∈i.methods->C m:=by
  intro n t i hi hm;cases n with
  |zero=>cases hi
  |succ n=>
   unfold Made.infoAt at hi;split at hi
   .exact h0 hi hm
   have⟨d,_,hd⟩:=e9.1 hi;have:i.methods= #[]:=aym d i hd;rw[this]at hm;simp at hm
 unfold Tables.info? at hi;split at hi
 .exact h0 hi hm
 exact h1 _ _ hi hm
def S2:List FuncId:=[4]++List.range' 6 5++List.range' 15 11++List.range' 44 27++List.range' 76 114++[203,204,209,211,215,217,218]++List.range' 225 6++[233]
def nE:Scope where
 fns f:=S2.contains f
 Ex m:=(["Kind", "Elem", "Implements", "AssignableTo", "As", "Unwrap", "Next"]:List String).contains m
 vars g:=Nat.blt g<|10+1
theorem aki:zl prog:=ayk ai
def S1:List FuncId:=[49,50,51,80,81,82,139,141,154,176,203,204,211,215,217,218]
theorem aj3:(S2.all fun f=>match prog.funcs[f]? with
 |some fn=> !(fn.name== "runtime.NumGoroutine")&&(fn.body.isSome||S1.contains f)
 |none=>false)=true:=ai
theorem aj0:(S2.all fun f=>match prog.funcs[f]? with
 |some fn=>(match fn.body with|some c=>nE.code prog c|none=>true)
 |none=>false)=true:=ai
theorem aj7:(prog.types.toList.all fun i=>i.methods.toList.all fun m=> !nE.Ex m.name||match m.func with|some (f,_)=>nE.fns f|none=>true)=true:=ai
theorem zn:nE.vars prog.globals.size:=ai
theorem arD:prog.globals.findIdx? (·.name== "internal/bytealg.MaxLen")=some 1:=ai
section
variable{F:nj}{U:Ren}{args mD:lW}
theorem yj{e:Array Value->Sem Value}(qh:P.funcs[f]?=some fn)(hn:(fn.name== "runtime.NumGoroutine")=false)(hb:fn.body.isNone)(hx:Extern.findNext fn=none)(hf:Extern.find fn=some e)
  (h:SR P F (fun U=>VR F U) U (e args) (e mD)):SR P F (qx P F) U (callFunc f args) (callFunc f mD):=by
 unfold callFunc;refine .prog ?_;rw[qh];simp only[hn,hb,hx,hf,lj,gy,kZ];exact .extern<|qu h
theorem awe(qh:P.funcs[f]?=some fn)(hn:(fn.name== "runtime.NumGoroutine")=false)(hb:fn.body.isNone)(hx:Extern.findNext fn=none)(hf:Extern.find fn=none):SR P F (qx P F) U (callFunc f args) (callFunc f mD):=by
 unfold callFunc;refine .prog ?_;rw[qh];simp only[hn,hb,hx,hf,lj,gy,kZ];refine .extern ?_;show SR P F (qx P F) U (if _ then _ else _) (if _ then _ else _);split
 .exact .ret<|.value<|.tuple' .nil
 exact .pv
variable(hG:Gd prog nE.vars U)(ha:AR (VR F U) args mD)
include hG ha
theorem akg:SR prog F (qx prog F) U (callFunc 49 args) (callFunc 49 mD):=yj (e:=(fun args=>Extern.ReflectliteValue.unpack<|args.getD 0<|.tuple #[])) func49 ai ai ai ai (ag1 hG zn<|by exact AR.getD ha 0<|.tuple' .nil)
theorem akh:SR prog F (qx prog F) U (callFunc 50 args) (callFunc 50 mD):=yj (e:=(Extern.ReflectliteValue.methodAny (Extern.ReflectliteValue.valueError "reflectlite.Value.Type" 0) fun t _ _ _=>Extern.ReflectliteType.toType t)) func50 ai ai ai ai (av8 hG zn (GZ _ _) (fun t a a' n k h=>nV<|Y0 hG zn t) ha)
theorem aj6:SR prog F (qx prog F) U (callFunc 51 args) (callFunc 51 mD):=yj (e:=(Extern.ReflectliteValue.method (Extern.ReflectliteValue.valueError "reflectlite.Value.IsNil" 0) Extern.ReflectliteValue.isNil)) func51 ai ai ai ai (YU hG zn (.dead<|GZ _ _) (fun t a a' n k h=>nV<|avW t h n k) ha)
theorem akc:SR prog F (qx prog F) U (callFunc 80 args) (callFunc 80 mD):=yj (e:=Extern.ReflectliteType.typeOf) func80 ai ai ai ai (nV<|awt hG zn ha)
theorem akd:SR prog F (qx prog F) U (callFunc 81 args) (callFunc 81 mD):=yj (e:=(Extern.ReflectliteValue.method (Extern.ReflectliteValue.valueError "reflectlite.Value.Elem" 0) Extern.ReflectliteValue.elem)) func81 ai ai ai ai (YU hG zn (.dead<|GZ _ _) (fun t a a' n k h=>avI hG zn t h n k) ha)
theorem akf:SR prog F (qx prog F) U (callFunc 82 args) (callFunc 82 mD):=yj (e:=Extern.ReflectliteValue.set) func82 ai ai ai ai (nV<|awm hG zn ha)
omit hG in
theorem aj1:SR prog F (qx prog F) U (callFunc 139 args) (callFunc 139 mD):=yj (e:=Extern.BytealgCount.count) func139 ai ai ai ai (nV<|avG ha)
theorem aj5:SR prog F (qx prog F) U (callFunc 141 args) (callFunc 141 mD):=yj (e:=Extern.BytealgIndex.index) func141 ai ai ai ai (nV<|avV hG arD ai ha)
omit hG in
theorem aj4:SR prog F (qx prog F) U (callFunc 154 args) (callFunc 154 mD):=yj (e:=Extern.BytealgIndexByte.indexByte) func154 ai ai ai ai (nV<|avU ha)
omit hG in
theorem aj8:SR prog F (qx prog F) U (callFunc 176 args) (callFunc 176 mD):=yj (e:=(Extern.SlicesOverlaps.overlaps #[25,25] #[4])) func176 ai ai ai ai (nV<|awf ha)
theorem ajZ:SR prog F (qx prog F) U (callFunc 204 args) (callFunc 204 mD):=yj (e:=(Extern.ReflectliteType.abiMethod fun t=>do pure (.int .u8<|<-Extern.Rtype.kind t))) func204 ai ai ai ai (nV<|avk hG zn ha)
theorem ake:SR prog F (qx prog F) U (callFunc 211 args) (callFunc 211 mD):=yj (e:=(Extern.ReflectliteValue.method (pure<|.int .u8 0) fun _ _ _ k=>pure<|.int .u8<|Int.ofNat k)) func211 ai ai ai ai (YU hG zn (.ret<|.int _ _) (fun t a a' n k h=>.ret<|.int _ _) ha)
theorem aj9:SR prog F (qx prog F) U (callFunc 215 args) (callFunc 215 mD):=yj (e:=(Extern.ReflectliteType.relation "AssignableTo" Extern.ReflectliteType.assignableTo)) func215 ai ai ai ai (nV<|agV hG zn _ atj ha)
theorem aka:SR prog F (qx prog F) U (callFunc 217 args) (callFunc 217 mD):=yj (e:=(Extern.ReflectliteType.method Extern.ReflectliteType.elem)) func217 ai ai ai ai (nV<|awk hG zn ha)
theorem akb:SR prog F (qx prog F) U (callFunc 218 args) (callFunc 218 mD):=yj (e:=(Extern.ReflectliteType.relation "Implements" Extern.ReflectliteType.implements_)) func218 ai ai ai ai (nV<|agV hG zn _ atm ha)
omit hG ha in
theorem ajY:SR prog F (qx prog F) U (callFunc 203 args) (callFunc 203 mD):=awe func203 ai ai ai ai
theorem aj2(hf:f∈S1):SR prog F (qx prog F) U (callFunc f args) (callFunc f mD):=by
 simp only[S1,jM,iD,ld]at hf;rcases hf with rfl|rfl|rfl|rfl|rfl|rfl|rfl|rfl|rfl|rfl|rfl|rfl|rfl|rfl|rfl|rfl
 .exact akg hG ha
 .exact akh hG ha
 .exact aj6 hG ha
 .exact akc hG ha
 .exact akd hG ha
 .exact akf hG ha
 .exact aj1 ha
 .exact aj5 hG ha
 .exact aj4 ha
 .exact aj8 ha
 .exact ajY
 .exact ajZ hG ha
 .exact ake hG ha
 .exact aj9 hG ha
 .exact aka hG ha
 exact akb hG ha
end
theorem Lv:Fh prog nE where
 ym:=aki
 funcs f hf:=by
  have h:=iq.1 aj3 f (by simpa[nE]using hf);cases qh:prog.funcs[f]? with
  |none=>rw[qh]at h;cases h
  |some fn=>rw[qh]at h;simp only[ij,iP,gP]at h;exact⟨fn,Z,h.1,h.2.imp id fun e U args mD hG ha=>aj2 hG ha dM⟩
 Ex name h t i hi m hm aoU f b hf:=by have h1:=arF aj7 hi hm;rw[aoU,h,hf]at h1;simpa using h1
 code f fn c hf qh hb:=by have h:=iq.1 aj0 f (by simpa[nE]using hf);rw[qh]at h;simp only[hb]at h;exact h
open Go Go.Conc
open Go.ConcN (sumTo sumTo_upd upd_ne upd_same)
def xB(SB:lF)(l:Go.Loc):Prop:=∃a,l=.cell a/\SB a.block
theorem alC{SB R:lF}{B:Nat}{e:Event}(h:oc M R e)(hM:∀k,M k->k<B/\¬SB k)(hR:∀k,R k->k<B/\¬SB k):EvL (xB SB) B e:=by
 obtain⟨loc,wr,sy⟩:=e;unfold oc at h;cases loc with
 |cell a=>
  have hb:a.block<B/\¬SB a.block:=by
   rcases h with h|⟨h,_⟩
   .exact hM _ h
   exact hR _ h
  refine⟨fun x hx hs=>?_,aq,aq,hb.1⟩;simp only[MemAct.ofEvent,MemAct.touch?,ia]at hx;subst hx;obtain⟨a',e',hs⟩:=hs;cases e';exact ll hs hb.2
 |obj r=>
  have hb:=(hM _ h).1;have key:∀(x:Touch),x.loc=.obj r->xB SB x.loc->x.kind≠.plain:=fun x hx hs=>by obtain⟨a',e',hs⟩:=hs;rw[hx]at e';cases e'
  cases wr<;>cases sy<;>refine⟨fun x hx hs=>?_,aq,aq,hb⟩<;>simp[MemAct.ofEvent,MemAct.touch?]at hx<;>exact key x (by rw[<-hx]) hs
 |mark m=>
  refine⟨fun x hx hs=>?_,?_,?_,?_⟩
  .rcases h with rfl|⟨f,rfl⟩<;>simp[MemAct.ofEvent,MemAct.touch?]at hx
  .rcases h with rfl|⟨f,rfl⟩<;>simp
  .rcases h with rfl|⟨f,rfl⟩<;>simp
  rcases h with rfl|⟨f,rfl⟩<;>trivial
 |output=>exact h.elim|goroutines=>exact h.elim
def MB(P:lY)(SB:lF)(z:Nat)(a:lZ)(w:lE)(Q:vo):Prop:=
 ∀(gs:sA) (sl:tS) (t:Trace) (q:Nat->Nat),gs.size=z->gs[0]?=some a->Leavers P t gs q->Past (xB SB) w.heap.size t->
  ∃(N:Nat) (gs':sA) (a':lZ) (w':lE) (rO:tS) (t':Trace) (q':Nat->Nat),
   runNT P N (crowd gs w sl) t=(.next (crowd gs' w' rO),t')/\gs'.size=z/\gs'[0]?=some a'/\Leavers P t' gs' q'/\Past (xB SB) w'.heap.size t'/\Q a' w'
section
variable{P:lY}{SB:lF}{z:Nat}
theorem MB.done{a:lZ}{Q:vo}(h:Q a w):MB P SB z a w Q:=fun gs sl t q hz h0 hL hP=>⟨0,gs,a,w,sl,t,q,rfl,hz,h0,hL,hP,h⟩
theorem aue{R:lF}{Sh:oQ}(BD:∀w d,Sh w->Sh (w.at d))(w:lE)(d:Nat):oe M R Sh w (w.at d):=⟨ku _,fun _ _=>rfl,rfl,rfl,rfl,BD w d⟩
theorem MB.own{R:lF}{Sh:oQ}(BD:∀w d,Sh w->Sh (w.at d)){Stop:qz}{a:lZ}(h:Own P true R Sh (fun _=>False) Stop M a w)
  (mo:∀M a w,Stop M a w->a.status=.running) (hM:∀k,M k->k<w.heap.size/\¬SB k) (hR:∀k,R k->k<w.heap.size/\¬SB k) (hS:∀k,SB k->k<w.heap.size):
  MB P SB z a w (fun a' w'=>w.heap.size<=w'.heap.size/\∃M',(∀k,M' k->k<w'.heap.size/\¬SB k)/\Stop M' a' w'):=by
 induction h with
 |stop h=>rename_i M a w;exact .done ⟨ku _,M,hM,h w<|oe.refl ..⟩|step nK nx h1 h2 h3 h4 ih=>
  rename_i M a w;have key:∀(n:Nat) (d0:Nat) (gs:sA) (sl:tS) (t:Trace) (q:Nat->Nat),sumTo gs.size q<=n->gs.size=z->gs[0]?=some a->Leavers P t gs q->Past (xB SB) w.heap.size t->
    ∃(N:Nat) (gs':sA) (a':lZ) (w':lE) (rO:tS) (t':Trace) (q':Nat->Nat),
     runNT P N (crowd gs (w.at d0) sl) t=(.next (crowd gs' w' rO),t')/\gs'.size=z/\gs'[0]?=some a'/\Leavers P t' gs' q'/\Past (xB SB) w'.heap.size t'/\w.heap.size<=w'.heap.size/\∃M',(∀k,M' k->k<w'.heap.size/\¬SB k)/\Stop M' a' w':=by
   intro n
   induction n using Nat.strongRecOn with
   |_ n Xd=>
    intro d0 gs sl t q hn hz h0 hL hP;have US:∀g∈gs,awake g:=by
     intro g hg;obtain⟨i,hi,rfl⟩:=fy.1 hg;rcases gJ i with rfl|uq
     .have:gs[0]=a:=by simpa[eB hi]using h0
      rw[this];exact awake_of<|.inl nK
     exact awake_of<|(hL.old i _ uq<|eB hi).status.elim .inl fun x=>.inr<|.inr x
    have⟨i,g,d,rO,hi,hg,MR⟩:=crowd_pick (P:=P) (w:=w.at d0) (sl:=sl) US ⟨0,a,h0,nK⟩;rcases gJ i with rfl|uq
    .obtain rfl:g=a:=by rw[h0]at hi;exact(jl hi).symm
     have P4:oe M R Sh w ((w.at d0).at d):=aue BD w d;have aBk:=h1 _ P4;have nP:=h2 _ P4;have mj:=h3 _ P4;generalize py:nx ((w.at d0).at d)=p at aBk nP mj;obtain⟨a',w',es⟩:=p;dsimp only at aBk nP mj;have apE:((w.at d0).at d).heap.size=w.heap.size:=rfl;rw[apE]at mj;have MS:w.heap.size<=w'.heap.size:=nP.size;have wJ:=jR (P:=P) (sl:=rO) (i:=0) hi<|show stepG P (0==0) g ((w.at d0).at d)=_ from aBk;have mR:((gs.map<|woken P g a' w').setIfInBounds 0 a').size=gs.size:=aq;have lX:0<gs.size:=(eg.1 h0).1;have hMg:∀k,grown M w.heap.size w'.heap.size k->k<w'.heap.size/\¬SB k:=fun k hk=>by
      rcases hk with hk|⟨sG,nO⟩
      .exact⟨gK (hM k hk).1 MS,(hM k hk).2⟩
      exact⟨nO,fun hs=>by have:=hS k hs;omega⟩
     have hRg:∀k,R k->k<w'.heap.size/\¬SB k:=fun k hk=>⟨gK (hR k hk).1 MS,(hR k hk).2⟩
     have hih:=ih ((w.at d0).at d) P4;rw[py]at hih;have⟨N,gs',Sl,Ds,NK,t',q',qF,r8,LS,FP,L5,aBm,BS⟩:=hih hMg hRg (fun k hk=>gK (hS k hk) MS) ((gs.map<|woken P g a' w').setIfInBounds 0 a') rO (t++MemOp.ofEvents 0 g.frame.fn g.frame.place es) q (mR.trans hz) (by simp[lX])
      ⟨fun j x hj hx=>by
       have mK:0≠j:=aa;rw[dU mK,gx]at hx;obtain⟨y,hy,rfl⟩:=ft.1 hx;have hq:=hL.old j y hj hy;rw[kq hq,kJ t aa _<|fun op mw=>aG];exact hq,fun j hj=>by
       rw[kJ t (g':=0) di _ (fun op mw=>aG)]
       exact hL.above j cZ⟩
      ((hP.mono MS).own fun e he=>alC ((mj e he).resolve_right id) hMg hRg)
     exact⟨N+1,gs',Sl,Ds,NK,t',q',cH,r8,LS,FP,L5,j5 MS aBm,BS⟩
    have hq:=hL.old i g uq hi;have pE:(i==0)=false:=aF;have lX:i<gs.size:=(eg.1 hi).1;cases yN:q i with
    |zero=>rw[yN]at hq;rw[hq.1]at hg;cases hg
    |succ k=>
     rw[yN]at hq;rcases hq with⟨hf,_⟩|⟨_,g',es,hm,WU,wH⟩
     .rw[hf]at hg;cases hg
     have wJ:=jR (P:=P) (sl:=rO) (i:=i) hi (by rw[pE];exact WU<|(w.at d0).at d);have mR:((gs.map<|woken P g g'<|(w.at d0).at d).setIfInBounds i g').size=gs.size:=aq;have adf:sumTo gs.size (Go.ConcN.upd q i k)+(k+1)=sumTo gs.size q+k:=by have:=sumTo_upd q k id lX;simpa[yN]using this
     have⟨N,gs',Sl,Ds,NK,t',q',qF,r8,LS,FP,L5,BS⟩:=Xd (n-1) aa d ((gs.map<|woken P g g'<|(w.at d0).at d).setIfInBounds i g') rO (t++MemOp.ofEvents i g.frame.fn g.frame.place es) (Go.ConcN.upd q i k) (by rw[mR];omega) (mR.trans hz)
         (by
          have mK:i≠0:=aa;rw[dU mK,gx,h0]
          simp[woken_run nK])
         ⟨fun j x hj hx=>by
          by_cases pT:i=j
          .subst pT;rw[dP (by simpa using lX)]at hx;obtain rfl:=jl hx;rw[upd_same,Deaf_own];exact wH
          .rw[dU pT,gx]at hx;obtain⟨y,hy,rfl⟩:=ft.1 hx;have MI:=hL.old j y hj hy;rw[kq MI,upd_ne q k<|lg pT,kJ t pT _<|fun op mw=>aG];exact MI,fun j hj=>by
          rw[kJ t (g':=i) di _ (fun op mw=>aG)]
          exact hL.above j cZ⟩
         (hP.mute aa hm)
     exact⟨N+1,gs',Sl,Ds,NK,t',q',cH,r8,LS,FP,L5,BS⟩
  intro gs sl t q hz h0 hL hP;have⟨N,gs',a',w',rO,t',q',g1,g2,g3,g4,g5,g6,g7⟩:=key (sumTo gs.size q) w.drawn gs sl t q (ku _) hz h0 hL hP;exact⟨N,gs',a',w',rO,t',q',g1,g2,g3,g4,g5,g6,g7⟩
end
def tQ(P:lY)(SB:lF)(z z':Nat)(a:lZ)(w:lE)(Q:qz):Prop:=
 ∀(gs:sA) (sl:tS) (t:Trace) (q:Nat->Nat),gs.size=z->gs[0]?=some a->Leavers P t gs q->Past (xB SB) w.heap.size t->
  ∃(N:Nat) (gs':sA) (a':lZ) (w':lE) (rO:tS) (t':Trace) (q':Nat->Nat) (SB':lF),
   runNT P N (crowd gs w sl) t=(.next (crowd gs' w' rO),t')/\gs'.size=z'/\gs'[0]?=some a'/\Leavers P t' gs' q'/\Past (xB SB') w'.heap.size t'/\Q SB' a' w'
section
variable{P:lY}{SB:lF}{z z' z'':Nat}
theorem MB.x{a:lZ}{Q:vo}(h:MB P SB z a w Q):tQ P SB z z a w (fun SB' a' w'=>SB'=SB/\Q a' w'):=by intro gs sl t q hz h0 hL hP;have⟨N,gs',a',w',rO,t',q',h1,h2,h3,h4,h5,h6⟩:=h gs sl t q hz h0 hL hP;exact⟨N,gs',a',w',rO,t',q',SB,h1,h2,h3,h4,h5,Z,h6⟩
theorem tQ.bind{a:lZ}{Q Q':qz}(h:tQ P SB z z' a w Q)(h':∀SB' a' w',Q SB' a' w'->tQ P SB' z' z'' a' w' Q'):tQ P SB z z'' a w Q':=by intro gs sl t q hz h0 hL hP;have⟨N,gs',a',w',rO,t',q',SB',h1,h2,h3,h4,h5,h6⟩:=h gs sl t q hz h0 hL hP;have⟨N2,UB,a2,w2,YJ,t2,q2,Sd,g1,g2,g3,g4,g5,g6⟩:=h' SB' a' w' h6 gs' rO t' q' h2 h3 h4 h5;exact⟨N+N2,UB,a2,w2,YJ,t2,q2,Sd,by rw[runNT_add,h1];exact g1,g2,g3,g4,g5,g6⟩
theorem tQ.mono{a:lZ}{Q Q':qz}(h:tQ P SB z z' a w Q)(h':∀SB' a' w',Q SB' a' w'->Q' SB' a' w'):tQ P SB z z' a w Q':=by intro gs sl t q hz h0 hL hP;have⟨N,gs',a',w',rO,t',q',SB',h1,h2,h3,h4,h5,h6⟩:=h gs sl t q hz h0 hL hP;exact⟨N,gs',a',w',rO,t',q',SB',h1,h2,h3,h4,h5,h' _ _ _ h6⟩
theorem quiet{S:Go.Loc->Prop}{B:Nat}{a:lZ}(nK:a.status=.running)(nx:World->Goroutine×World)(h1:∀d,stepG P true a (w.at d)=.go (nx (w.at d)).1 (nx (w.at d)).2 #[])
  (gs:sA) (sl:tS) (t:Trace) (q:Nat->Nat) (hz:gs.size=z) (h0:gs[0]?=some a) (hL:Leavers P t gs q) (hP:Past S B t):
  ∃(N:Nat) (gs':sA) (d:Nat) (rO:tS) (t':Trace) (q':Nat->Nat),
   runNT P N (crowd gs w sl) t=(.next (crowd gs' (nx<|w.at d).2 rO),t')/\gs'.size=z/\gs'[0]?=some (nx<|w.at d).1/\Leavers P t' gs' q'/\Past S B t':=by
 have key:∀(n:Nat) (d0:Nat) (gs:sA) (sl:tS) (t:Trace) (q:Nat->Nat),sumTo gs.size q<=n->gs.size=z->gs[0]?=some a->Leavers P t gs q->Past S B t->
   ∃(N:Nat) (gs':sA) (d:Nat) (rO:tS) (t':Trace) (q':Nat->Nat),
    runNT P N (crowd gs (w.at d0) sl) t=(.next (crowd gs' (nx<|w.at d).2 rO),t')/\gs'.size=z/\gs'[0]?=some (nx<|w.at d).1/\Leavers P t' gs' q'/\Past S B t':=by
  intro n
  induction n using Nat.strongRecOn with
  |_ n Xd=>
   intro d0 gs sl t q hn hz h0 hL hP;have US:∀g∈gs,awake g:=by
    intro g hg;obtain⟨i,hi,rfl⟩:=fy.1 hg;rcases gJ i with rfl|uq
    .have:gs[0]=a:=by simpa[eB hi]using h0
     rw[this];exact awake_of<|.inl nK
    exact awake_of<|(hL.old i _ uq<|eB hi).status.elim .inl fun x=>.inr<|.inr x
   have⟨i,g,d,rO,hi,hg,MR⟩:=crowd_pick (P:=P) (w:=w.at d0) (sl:=sl) US ⟨0,a,h0,nK⟩;rcases gJ i with rfl|uq
   .obtain rfl:g=a:=by rw[h0]at hi;exact(jl hi).symm
    have aBk:=h1 d;have wJ:=jR (P:=P) (sl:=rO) (i:=0) hi<|show stepG P (0==0) g ((w.at d0).at d)=_ from aBk;have mR:((gs.map<|woken P g (nx<|w.at d).1 (nx<|w.at d).2).setIfInBounds 0 (nx<|w.at d).1).size=gs.size:=aq;have lX:0<gs.size:=(eg.1 h0).1;refine⟨1,(gs.map<|woken P g (nx<|w.at d).1 (nx<|w.at d).2).setIfInBounds 0 (nx<|w.at d).1,d,rO,t++MemOp.ofEvents 0 g.frame.fn g.frame.place #[],q,by simp only[runNT,MR,wJ],mR.trans hz,by simp[lX],⟨fun j x hj hx=>?_,fun j hj=>?_⟩,hP.own fun e he=>by simp at he⟩
    .have mK:0≠j:=aa;rw[dU mK,gx]at hx;obtain⟨y,hy,rfl⟩:=ft.1 hx;have hq:=hL.old j y hj hy;rw[kq hq,kJ t aa _<|fun op mw=>aG];exact hq
    rw[kJ t (g':=0) di _ (fun op mw=>aG)];exact hL.above j cZ
   have hq:=hL.old i g uq hi;have pE:(i==0)=false:=aF;have lX:i<gs.size:=(eg.1 hi).1;cases yN:q i with
   |zero=>rw[yN]at hq;rw[hq.1]at hg;cases hg
   |succ k=>
    rw[yN]at hq;rcases hq with⟨hf,_⟩|⟨_,g',es,hm,WU,wH⟩
    .rw[hf]at hg;cases hg
    have wJ:=jR (P:=P) (sl:=rO) (i:=i) hi (by rw[pE];exact WU<|(w.at d0).at d);have mR:((gs.map<|woken P g g'<|(w.at d0).at d).setIfInBounds i g').size=gs.size:=aq;have adf:sumTo gs.size (Go.ConcN.upd q i k)+(k+1)=sumTo gs.size q+k:=by have:=sumTo_upd q k id lX;simpa[yN]using this
    have⟨N,gs',d',NK,t',q',qF,r8,LS,FP,L5⟩:=Xd (n-1) aa d ((gs.map<|woken P g g'<|(w.at d0).at d).setIfInBounds i g') rO (t++MemOp.ofEvents i g.frame.fn g.frame.place es) (Go.ConcN.upd q i k) (by rw[mR];omega) (mR.trans hz)
        (by
         have mK:i≠0:=aa;rw[dU mK,gx,h0]
         simp[woken_run nK])
        ⟨fun j x hj hx=>by
         by_cases pT:i=j
         .subst pT;rw[dP (by simpa using lX)]at hx;obtain rfl:=jl hx;rw[upd_same,Deaf_own];exact wH
         .rw[dU pT,gx]at hx;obtain⟨y,hy,rfl⟩:=ft.1 hx;have MI:=hL.old j y hj hy;rw[kq MI,upd_ne q k<|lg pT,kJ t pT _<|fun op mw=>aG];exact MI,fun j hj=>by
         rw[kJ t (g':=i) di _ (fun op mw=>aG)]
         exact hL.above j cZ⟩
        (hP.mute aa hm)
    exact⟨N+1,gs',d',NK,t',q',cH,r8,LS,FP,L5⟩
 exact key (sumTo gs.size q) w.drawn gs sl t q (ku _) hz h0 hL hP
end
end
end Go.Proofs.YtfjcghhjlmfggaaGreatDoor
