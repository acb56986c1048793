/- FarmMany: lemmas. -/
import Derived.Test.YtfjcghhjlmfggaaGreatDoorPA
import Derived.Test.YtfjcghhjlmfggaaGreatDoorPSm12
import Derived.Conc.WgGenN3
import Derived.Conc.WgLib
set_option linter.defProp false
set_option linter.unusedSectionVars false
set_option maxRecDepth 100000
set_option maxHeartbeats 8000000
set_option linter.unusedVariables false
set_option linter.unusedSimpArgs false
namespace Go.Proofs.YtfjcghhjlmfggaaGreatDoor
theorem dt{p:Prop}(h:p:=by rw[hS];simp only[KK];omega):p:=h
theorem dx{p:Prop}(h:p:=by rw[oE];exact hw.setSt _):p:=h
def eP:=@Go.Conc.events_convert_to_unsafe
def fP:=@Go.run_convert_to_unsafe
def gh:=@Go.ConcN.st_waiters
def ie:=@Go.Conc.stepG_load_atomic
def ik:=@Go.ConcN.st_flag
def im:=@Go.IntKind.wrap_u64
def iN:=@Go.Conc.stepG_region_end
def iR:=@Go.Frame.finish_at
def jT:=@Go.Conc.stepG_inBlock
def kl:=@Go.Conc.stepG_inLoop
def km:=@Go.Conc.stepG_markAt
def kB:=@Go.Conc.goes_oper_k
def kF:=@Go.Conc.stepG_block
def kG:=@Go.Conc.stepG_mark0
def kQ:=@Go.Conc.mem_listed
def kR:=@Go.Conc.stepG_loop
def kS:=@Go.Conc.stepG_ret'
def kT:=@Go.Conc.stepG_skip
def kV:=@Go.Conc.Goes.stop
def kX:=@Go.Conc.stepG_seq
open Tryz
open Go Go.Conc Go.Conc.Lib Go.ConcR.Gen Go.RowKit
open Go.ConcR (stA smA rd wr KK WgAt Bk DC0)
open Go.ConcN.Gen (WgLive.cell0 WgLive.cell1)
variable{a₀:Act}{ops₀:nI}{rest₀:nN}{i₀:Nat}{w:lE}
theorem Hb{P:lY}{main:Bool}{R:World->World->Prop}{D D':World->World->Array Event->Prop}{Stop:vo}(h:∀w w' es,D w w' es->D' w w' es):
  ∀{n:Nat} {g:lZ} {w:lE},Goes P main R D Stop n g w->Goes P main R D' Stop n g w
 |0,_,_,hg=>hg|n+1,g,w,hg=>by
  rcases hg with hs|⟨hr,mo⟩
  .exact .inl hs
  refine .inr ⟨hr,fun qJ r=>?_⟩;have⟨g',w',es,e,hd,hn⟩:=goes_elim<|mo qJ r;rw[e];exact⟨h _ _ _ hd,Hb h hn⟩
namespace mg
variable{c:mg}
theorem kn{w1:lE}(h:c.Sh w)(r:c.Rel none_ w w1):c.Sh w1:=r.sh h
theorem Kr(K:c.Ok0)(h:c.Sh w){st sm:Int}{p:Addr}{v:lH}(hp:p.block=c.A.Wg)(hw:WgAt c.ty c.A.Wg (w.setCell p v) st sm):c.Sh (w.setCell p v):=⟨⟨_,_,hw⟩,let⟨s,r,tm,hc⟩:=h.2.1;⟨s,r,tm,(Nb K w p v hp _ fun e=>K.nq.wc e.symm).trans hc⟩,let⟨cl,s,r,tm,hc⟩:=h.2.2.1;⟨cl,s,r,tm,(Nb K w p v hp _ fun e=>K.nq.wo e.symm).trans hc⟩,K.qD w _ (by simp[World.setCell]) (fun b _ h _ _=>Nb K w p v hp b h) h.2.2.2⟩
theorem JJ{L:WgLink}(oE:c.ty=L.tWg)(h:c.Sh w):∃v,w.cell? ⟨c.A.Wg,0,none⟩=some v:=Go.ConcN.Gen.WgLive.cell0 h.1
end mg
namespace mg
variable{c:mg}{L:WgLink}
theorem add_neg(K:c.Ok0)(H:WgLib c.P L)(oE:c.ty=L.tWg){b₀:Frame}{a₀:Act}{ops₀:nI}{i₀:Nat}{rest₀:nN}{k₀:nA}{cs:nX}{qt:Nat}
  (hT:QuitsD c.P qt 0 (G (b₀.at (a₀.put ((ops₀[i₀]?).bind (·.dst))<|.tuple #[]) (.inRegion ops₀ rest₀::k₀)) cs)) (w:lE) (hK:c.Sh w):
  Goes c.P false (c.Rel none_) DC0 (c.AtR0 none_) 20 (G ((base L.add).at ⟨(.pointer (some ⟨c.A.Wg,0,none⟩):: .int .i64 (-1)::List.replicate ((addFn L).ntmps-2) undef).toArray,[]⟩ [.code (body_add L)])<|b₀.at a₀ (.inRegion ops₀ (i₀::rest₀)::k₀)::cs) w:=by
 simp only[addFn,body_add,iK,List.replicate]
 lib_facts
 u_c kX kn hK
 u_cond true kn hK
 u_c kX kn hK;u_c kX kn hK;u_reg kn hK;u_op kn hK;u_op kn hK;u_c iN kn hK
 u_cond true kn hK
 u_reg kn hK;u_op kn hK
 u_in kn hK
 refine kB Z Z (by k_ne)<|fun Y uJ=>?_;have hv:=fP (P:=c.P) H.underlying_tWgP H.underlying_tUP H.room_tWg (JJ oE hK).choose_spec;have he:=fun es=>eP (P:=c.P) H.underlying_tWgP H.underlying_tUP H.room_tWg (JJ oE hK).choose_spec es
 go_simp
 refine uJ _ _ ⟨?_,?_⟩
 .u_none
  intro e1 h1;have h2:=kQ h1;simp[go_sem,he]at h2
 clear uJ Y hv he;refine kV<|fun qJ qj=>?_;replace hK:=kn hK qj;clear qj;refine⟨Z,_,km .releaseMerge aq Z Z (by k_ne) Z H.f_relMerge (x_relMerge_n L) (x_relMerge_b L) (x_relMerge_x L) (x_relMerge_f L) (by simp[Act.eval,stA]),10,?_⟩
 walk_nrm
 u_c iN kn hK;u_c kX kn hK;u_reg kn hK;refine kV<|fun qJ qj=>?_;replace hK:=kn hK qj;clear qj;refine⟨Z,_,kG .disable aq Z Z (by k_ne) Z H.f_disable (x_disable_n L) (x_disable_b L) (x_disable_x L)<|x_disable_f L,50,?_⟩
 walk_nrm
 u_c iN kn hK;u_reg kn hK
 u_defer kn hK
 u_c iN kn hK;u_c kX kn hK;u_reg kn hK;u_op kn hK;u_c iN kn hK;u_c kX kn hK;u_c kX kn hK;u_reg kn hK
 u_bub kn hK
 u_c iN kn hK
 u_cond false kn hK
 u_c kT kn hK;u_c kX kn hK;u_reg kn hK
 iterate 6 u_op kn hK
 u_call H.f_uAdd (nm_uAdd L) uAddFn kn hK
 u_c kX kn hK;u_reg kn hK;u_op kn hK;u_c iN kn hK;u_c kX kn hK;u_reg kn hK
 iterate 4 u_op kn hK
 refine kV<|fun qJ qj=>?_;replace hK:=kn hK qj;clear qj;refine⟨Z,fun v wt Qa hv hw=>?_⟩;rw[oE]at hw;have P9:IntKind.u64.wrap (((v:Nat)+1)*KK+wt+18446744069414584320)=(v:Int)*KK+wt:=by simp only[im];simp only[KK];omega
 obtain⟨S,hS⟩:∃S:Int,S=(v:Int)*KK+wt:=⟨_,rfl⟩
 rw[<-hS]at P9|-;have a1:S/4294967296=(v:Int):=dt;have a2:0<=S/\S<9223372036854775808:=dt;have b1:bits .and .u64 S 2147483648=0:=by rw[hS];have:=ik v wt aa aa;simpa[KK]using this
 have b2:bits .and .u64 S 2147483647=(wt:Int):=by rw[hS];have:=gh v wt aa aa;simpa[KK]using this
 refine⟨_,(stepG_add_atomic Z Z (base_kind _) Z H.f_addU64 (x_addU64_n L) (x_addU64_b L) (x_addU64_x L) .u64 (x_addU64_f L) Z Z hw.cellSt<|hw.thaw 0).trans (by rw[P9];rfl),fun hl=>?_,fun hl=>?_⟩
 .obtain⟨rfl,rfl⟩:=hl;obtain rfl:S=1:=by simpa using hS
  replace hK:c.Sh (qJ.setCell (stA c.A.Wg)<|.int .u64 1):=Kr K hK rfl (by rw[oE];exact hw.setSt 1);clear hw P9 hS a1 a2 b1 b2;refine⟨300,?_⟩
  walk_nrm
  u_op kn hK;u_c iN kn hK;u_c kS kn hK
  u_leave1 H.f_uAdd kn hK
  u_op kn hK;u_c iN kn hK;u_c kX kn hK;u_c kX kn hK;u_reg kn hK
  iterate 4 u_op kn hK
  u_skip kn hK
  u_skip kn hK
  u_op kn hK;u_c iN kn hK
  u_cond false kn hK
  u_c kT kn hK;u_c kX kn hK;u_reg kn hK
  iterate 4 u_op kn hK
  u_c iN kn hK;u_c kX kn hK;u_reg kn hK
  iterate 4 u_op kn hK
  u_c iN kn hK;u_c kX kn hK;u_c kX kn hK;u_reg kn hK
  iterate 5 u_op kn hK
  iterate 4 u_skip kn hK
  u_op kn hK;u_c iN kn hK
  u_cond false kn hK
  u_c kT kn hK;u_c kX kn hK;u_c kX kn hK;u_reg kn hK;u_op kn hK;u_op kn hK;u_c iN kn hK
  u_cond false kn hK
  u_c kT kn hK;u_c kX kn hK;u_c kX kn hK;u_reg kn hK
  iterate 7 u_op kn hK
  iterate 4 u_skip kn hK
  u_op kn hK;u_c iN kn hK
  u_cond false kn hK
  u_c kT kn hK;u_c kX kn hK;u_c kX kn hK;u_reg kn hK
  iterate 6 u_op kn hK
  u_c iN kn hK
  u_cond false kn hK
  u_c kT kn hK;u_c kX kn hK;u_c kX kn hK;u_reg kn hK
  iterate 3 u_op kn hK
  u_call H.f_uLoad (nm_uLoad L) uLoadFn kn hK
  u_c kX kn hK;u_reg kn hK;u_op kn hK;u_c iN kn hK;u_c kX kn hK;u_reg kn hK
  iterate 3 u_op kn hK
  refine kV<|fun AP ub=>?_;replace hK:=kn hK ub;clear ub;refine⟨Z,fun hw=>?_⟩;rw[oE]at hw;refine⟨_,ie Z Z (base_kind _) Z H.f_loadU64 (x_loadU64_n L) (x_loadU64_b L) (x_loadU64_x L) .u64 (x_loadU64_f L) Z hw.cellSt,300,?_⟩;clear hw
  walk_nrm
  u_op kn hK;u_c iN kn hK;u_c kS kn hK
  u_leave1 H.f_uLoad kn hK
  u_op kn hK;u_op kn hK;u_c iN kn hK
  u_cond false kn hK
  u_c kT kn hK;u_c kX kn hK;u_reg kn hK
  iterate 3 u_op kn hK
  u_call H.f_uStore (nm_uStore L) uStoreFn kn hK
  u_reg kn hK
  iterate 4 u_op kn hK
  refine kV<|fun GF BX=>?_;replace hK:=kn hK BX;clear BX;refine⟨Z,fun hw=>?_⟩;rw[oE]at hw;refine⟨_,stepG_store_atomic Z Z (base_kind _) Z H.f_storeU64 (x_storeU64_n L) (x_storeU64_b L) (x_storeU64_x L) (x_storeU64_f L) Z Z hw.cellSt<|hw.thaw 0,300,?_⟩;replace hK:c.Sh (GF.setCell (stA c.A.Wg)<|.int .u64 0):=Kr K hK rfl (by rw[oE];exact hw.setSt 0);clear hw
  walk_nrm
  u_c iN kn hK;u_c stepG_end kn hK
  u_leave0 H.f_uStore kn hK
  u_c iN kn hK;u_c kX kn hK;u_c kX kn hK;u_reg kn hK;u_op kn hK;u_c iN kn hK
  u_cond false kn hK
  u_c kT kn hK;u_c kF kn hK;u_c kR kn hK;u_c kX kn hK;u_c kX kn hK;u_reg kn hK;u_op kn hK;u_op kn hK;u_c iN kn hK
  u_cond true kn hK
  u_c kT kn hK;u_c kX kn hK;u_c kF kn hK;u_reg kn hK
  iterate 3 u_op kn hK
  refine kV<|fun axS Qe=>?_;clear Qe hK;refine⟨Z,mayWake_entry Z Z H.f_semrelease<|x_semrelease_b L,fun hw=>?_⟩;rw[oE]at hw;refine⟨_,(stepG_semrelease Z Z (base_kind _) Z H.f_semrelease (x_semrelease_n L) (x_semrelease_b L) (x_semrelease_x L) (x_semrelease_f L) (by simp[Act.eval,smA]) hw.cellSm<|hw.thaw 1).trans (by rfl),qt+19,?_⟩;clear hw
  walk_nrm
  q_c iN
  q_c jT
  q_reg
  q_vn (.int .u32 1)
  q_vn (.int .u32 0)
  q_vn (.int .u32 0)
  q_c iN
  q_c kl
  q_c kX
  q_c kX
  q_reg
  q_vn (.int .u32 0)
  q_vn (.bool false)
  q_c iN
  q_cond false
  q_exit
  q_c stepG_end
  q_enable
  q_leave0 H.f_add
  exact hT
 have Hv:(v=0/\wt=0)\/(0<v/\wt=0)\/(0<v/\wt=1):=aa;clear hl hw P9 hS hK;refine⟨qt+89,?_⟩;rcases Hv with⟨MU,AD⟩|⟨MU,AD⟩|⟨MU,AD⟩
 .walk_nrm
  q_vn (.int .u64 S)
  q_c iN
  q_c kS
  q_leave1 H.f_uAdd
  q_vn (.int .u64 S)
  q_c iN
  q_c kX
  q_c kX
  q_reg
  q_vn (.int .u64 S)
  q_vn (.int .u64 0)
  q_vn (.bool false)
  q_vn (.bool false)
  q_skip
  q_skip
  q_vn (.bool false)
  q_c iN
  q_cond false
  q_c kT
  q_c kX
  q_reg
  q_vn (.int .u64 S)
  q_vn (.int .u64 (v:Int))
  q_vn (.int .i32 (v:Int))
  q_vn (.int .i32 (v:Int))
  q_c iN
  q_c kX
  q_reg
  q_vn (.int .u64 S)
  q_vn (.int .u64 (wt:Int))
  q_vn (.int .u32 (wt:Int))
  q_vn (.int .u32 (wt:Int))
  q_c iN
  q_c kX
  q_c kX
  q_reg
  q_vn (.bool true)
  q_vn (.int .i64<|-1)
  iterate 3 q_vn (.bool false)
  iterate 4 q_skip
  q_vn (.bool false)
  q_c iN
  q_cond false
  q_c kT
  q_c kX
  q_c kX
  q_reg
  q_vn (.int .i32 (v:Int))
  q_vn (.bool false)
  q_c iN
  q_cond false
  q_c kT
  q_c kX
  q_c kX
  q_reg
  q_vn (.int .u32 (wt:Int))
  q_vn (.bool false)
  q_vn (.bool false)
  q_skip
  q_skip
  q_vn (.bool false)
  q_vn (.bool false)
  iterate 4 q_skip
  q_vn (.bool false)
  q_c iN
  q_cond false
  q_c kT
  q_c kX
  q_c kX
  q_reg
  q_vn (.int .i32 (v:Int))
  q_vn (.bool false)
  q_vn (.bool false)
  q_vn (.int .u32 (wt:Int))
  q_vn (.bool true)
  q_vn (.bool true)
  q_c iN
  q_cond true
  q_c kS
  q_enable
  q_leave0 H.f_add
  exact hT
 .walk_nrm
  q_vn (.int .u64 S)
  q_c iN
  q_c kS
  q_leave1 H.f_uAdd
  q_vn (.int .u64 S)
  q_c iN
  q_c kX
  q_c kX
  q_reg
  q_vn (.int .u64 S)
  q_vn (.int .u64 0)
  q_vn (.bool false)
  q_vn (.bool false)
  q_skip
  q_skip
  q_vn (.bool false)
  q_c iN
  q_cond false
  q_c kT
  q_c kX
  q_reg
  q_vn (.int .u64 S)
  q_vn (.int .u64 (v:Int))
  q_vn (.int .i32 (v:Int))
  q_vn (.int .i32 (v:Int))
  q_c iN
  q_c kX
  q_reg
  q_vn (.int .u64 S)
  q_vn (.int .u64 (wt:Int))
  q_vn (.int .u32 (wt:Int))
  q_vn (.int .u32 (wt:Int))
  q_c iN
  q_c kX
  q_c kX
  q_reg
  q_vn (.bool true)
  q_vn (.int .i64<|-1)
  iterate 3 q_vn (.bool false)
  iterate 4 q_skip
  q_vn (.bool false)
  q_c iN
  q_cond false
  q_c kT
  q_c kX
  q_c kX
  q_reg
  q_vn (.int .i32 (v:Int))
  q_vn (.bool false)
  q_c iN
  q_cond false
  q_c kT
  q_c kX
  q_c kX
  q_reg
  q_vn (.int .u32 (wt:Int))
  q_vn (.bool false)
  q_vn (.bool false)
  q_skip
  q_skip
  q_vn (.bool false)
  q_vn (.bool false)
  iterate 4 q_skip
  q_vn (.bool false)
  q_c iN
  q_cond false
  q_c kT
  q_c kX
  q_c kX
  q_reg
  q_vn (.int .i32 (v:Int))
  q_vn (.bool true)
  q_vn (.bool true)
  q_skip
  q_skip
  q_vn (.bool true)
  q_c iN
  q_cond true
  q_c kS
  q_enable
  q_leave0 H.f_add
  exact hT
 walk_nrm
 q_vn (.int .u64 S)
 q_c iN
 q_c kS
 q_leave1 H.f_uAdd
 q_vn (.int .u64 S)
 q_c iN
 q_c kX
 q_c kX
 q_reg
 q_vn (.int .u64 S)
 q_vn (.int .u64 0)
 q_vn (.bool false)
 q_vn (.bool false)
 q_skip
 q_skip
 q_vn (.bool false)
 q_c iN
 q_cond false
 q_c kT
 q_c kX
 q_reg
 q_vn (.int .u64 S)
 q_vn (.int .u64 (v:Int))
 q_vn (.int .i32 (v:Int))
 q_vn (.int .i32 (v:Int))
 q_c iN
 q_c kX
 q_reg
 q_vn (.int .u64 S)
 q_vn (.int .u64 (wt:Int))
 q_vn (.int .u32 (wt:Int))
 q_vn (.int .u32 (wt:Int))
 q_c iN
 q_c kX
 q_c kX
 q_reg
 q_vn (.bool true)
 q_vn (.int .i64<|-1)
 iterate 3 q_vn (.bool false)
 iterate 4 q_skip
 q_vn (.bool false)
 q_c iN
 q_cond false
 q_c kT
 q_c kX
 q_c kX
 q_reg
 q_vn (.int .i32 (v:Int))
 q_vn (.bool false)
 q_c iN
 q_cond false
 q_c kT
 q_c kX
 q_c kX
 q_reg
 q_vn (.int .u32 (wt:Int))
 q_vn (.bool true)
 q_vn (.bool true)
 q_vn (.int .i64<|-1)
 iterate 3 q_vn (.bool false)
 iterate 4 q_skip
 q_vn (.bool false)
 q_c iN
 q_cond false
 q_c kT
 q_c kX
 q_c kX
 q_reg
 q_vn (.int .i32 (v:Int))
 q_vn (.bool true)
 q_vn (.bool true)
 q_skip
 q_skip
 q_vn (.bool true)
 q_c iN
 q_cond true
 q_c kS
 q_enable
 q_leave0 H.f_add
 exact hT
theorem ak4(K:c.Ok0)(H:WgLib c.P L)(oE:c.ty=L.tWg){cf:Frame}{cs:nX}{qt:Nat}(qb:cf.mode=.returning)(hT:QuitsD c.P qt 0 (G cf cs))(w:lE)(hK:c.Sh w):
  Goes c.P false (c.Rel none_) DC0 (c.AtR0 none_) 23 (G ((baseD L.done).at ⟨#[.pointer (some ⟨c.A.Wg,0,none⟩),undef,undef,undef],[]⟩ [.code (body_done L)])<|cf::cs) w:=by
 lib_facts
 have hA:=@add_neg c L K H oE;simp only[body_done,doneFn,addFn,body_add,iK,List.replicate]at hA|-;u_reg kn hK;u_op kn hK
 u_in kn hK
 refine goes_call Z Z (by k_ne) Z H.f_add (nm_add L) Z ⟨by u_nil,?_⟩
 walk_nrmf addFn
 refine hA (qt:=qt+3) ?_ _ hK
 q_c iN
 q_c stepG_end
 exact QuitsD.leaveD Z Z H.f_done Z qb hT
end mg
open Go Go.Conc Go.Conc.Lib Go.ConcR.Gen Go.RowKit
open Go.ConcR (stA smA rd wr KK WgAt Bk DC0)
set_option maxRecDepth 100000
namespace mg
variable{c:mg}
theorem Qr{L:WgLink}(oE:c.ty=L.tWg)(h:c.Sh w):∃v,w.cell? ⟨c.A.Wg,1,none⟩=some v:=Go.ConcN.Gen.WgLive.cell1 h.1
theorem aeM{P:lY}{main:Bool}{R:lF}{Sh:oQ}{X:Event->Prop}{St:qz}{M:lF}{Rl:World->World->Prop}(yO:∀w w1,oe M R Sh w w1->Rl w w1):∀{n:Nat} {g:lZ} {w:lE},Goes P main Rl DC0 (fun g w=>Own P main R Sh X St M g w) n g w->Own P main R Sh X St M g w
 |0,g,w,h=>h w<|yO _ _<|oe.refl _ _ _ _|n+1,g,w,h=>by
  rcases h with h|⟨hs,h⟩
  .exact h w<|yO _ _<|oe.refl _ _ _ _
  refine Own.mk hs fun w1 hr=>?_;have:=h w1<|yO _ _ hr;cases hg:stepG P main g w1 with
  |go g' w' es=>rw[hg,goes_go]at this;obtain⟨⟨e1,e2⟩,hn⟩:=this;subst e1;subst e2;exact⟨g',_,_,Z,nJ.refl _ _,fun e he=>by simp at he,by rw[Bz];exact aeM yO hn⟩
  |_=>rw[hg]at this;exact this.elim
theorem aea{Stop:qz}{n:Nat}{g:lZ}(h:Goes c.P true (c.Rel none_) DC0 (fun g w=>c.MO Stop g w) n g w):c.MO Stop g w:=aeM (fun w w1 h=>h) h
theorem yd{S:vo}{n:Nat}{g:lZ}(h:Goes c.P true (c.Rel none_) DC0 S n g w):c.MO (fun _=>S) g w:=XK (E:=c.Cv) (fun e h M=>.inr h) (fun M w w1 h=>Dh h) (Hb (fun _ _ _ h=>⟨h.1,fun e he=>by rw[h.2]at he;simp at he⟩) h)
theorem aeb{Stop:qz}{g g':lZ}{e:Event}(hs:g.status=.running)(h:∀w1,stepG c.P true g w1=.go g' w1 #[e])(he:c.Cv e)(h':∀w1,c.Rel none_ w w1->c.MO Stop g' w1):c.MO Stop g w:=Own.mk hs fun w1 hr=>⟨g',w1, #[e],h w1,nJ.refl _ _,fun e1 h1=>by rw[Array.mem_singleton]at h1;subst h1;exact .inr he,by rw[Bz];exact h' w1 hr⟩
theorem arK{Stop:qz}{g g':lZ}(hs:g.status=.running)(h:∀w1,stepG c.P true g w1=.go g' w1)(h':∀w1,c.Rel none_ w w1->c.MO Stop g' w1):c.MO Stop g w:=Own.move hs h h'
end mg
namespace mg
variable{c:mg}{L:WgLink}{Next:vo}
theorem add_one(K:c.Ok0)(H:WgLib c.P L)(oE:c.ty=L.tWg){b₀:Frame}{k₀:nA}{cs:nX}
  (hT:∀w,c.Sh w->c.MO (c.AtGoS Next) (G (b₀.at (a₀.put ((ops₀[i₀]?).bind (·.dst))<|.tuple #[]) (.inRegion ops₀ rest₀::k₀)) cs) w) (w:lE) (hK:c.Sh w):
  Goes c.P true (c.Rel none_) DC0 (c.AtKdS Next none_) 20 (G ((base L.add).at ⟨(.pointer (some ⟨c.A.Wg,0,none⟩):: .int .i64 1::List.replicate ((addFn L).ntmps-2) undef).toArray,[]⟩ [.code (body_add L)])<|b₀.at a₀ (.inRegion ops₀ (i₀::rest₀)::k₀)::cs) w:=by
 simp only[addFn,body_add,iK,List.replicate]
 lib_facts
 u_c kX kn hK
 u_cond true kn hK
 u_c kX kn hK;u_c kX kn hK;u_reg kn hK;u_op kn hK;u_op kn hK;u_c iN kn hK
 u_cond false kn hK
 u_c kT kn hK;u_c kX kn hK;u_reg kn hK;refine kV<|fun qJ qj=>?_;replace hK:=kn hK qj;clear qj;refine⟨Z,_,kG .disable aq Z Z (by k_ne) Z H.f_disable (x_disable_n L) (x_disable_b L) (x_disable_x L)<|x_disable_f L,yd (n:=50) ?_⟩
 walk_nrm
 u_c iN kn hK;u_reg kn hK
 u_defer kn hK
 u_c iN kn hK;u_c kX kn hK;u_reg kn hK;u_op kn hK;u_c iN kn hK;u_c kX kn hK;u_c kX kn hK;u_reg kn hK
 u_bub kn hK
 u_c iN kn hK
 u_cond false kn hK
 u_c kT kn hK;u_c kX kn hK;u_reg kn hK
 iterate 6 u_op kn hK
 u_call H.f_uAdd (nm_uAdd L) uAddFn kn hK
 u_c kX kn hK;u_reg kn hK;u_op kn hK;u_c iN kn hK;u_c kX kn hK;u_reg kn hK
 iterate 4 u_op kn hK
 refine kV<|fun AP ub=>?_;replace hK:=kn hK ub;clear ub;refine⟨Z,fun v hv hw=>?_⟩;rw[oE]at hw;have fin:∀{T:lW} {todo:nA} (w3:lE),c.Sh w3->c.AtKeS Next none_ (G {((base L.add).at ⟨T,[dcall L.enable #[]]⟩ todo)with mode:=.returning}<|b₀.at a₀ (.inRegion ops₀ (i₀::rest₀)::k₀)::cs) w3:=fun {T todo} w3 h3=>by refine⟨Z,_,stepG_unwind_entry (v:=.tuple #[]) (evs:= #[Go.ConcR.mk .enable]) Z H.f_enable (x_enable_n L) (x_enable_b L) (x_enable_x L) (x_enable_f L) (by simp[Extern.Race.none_]) (by simp[Go.ConcR.mk]) (by simp[Go.ConcR.mk]),(arK Z (fun w4=>?_) fun w4 h4=>hT w4<|kn h3 h4)⟩;rw[stepG_leave rfl rfl H.f_add (results_none rfl _ _ _) (events_results_none rfl _ _),iR]
 rcases gJ v with rfl|hvp
 .replace hw:WgAt L.tWg c.A.Wg AP 0 0:=by simpa using hw
  have z:(((0:Nat):Int)+1)*KK=KK:=aq;rw[z];have e0:IntKind.u64.wrap (0+4294967296)=KK:=aw;refine⟨_,(stepG_add_atomic Z Z (base_kind _) Z H.f_addU64 (x_addU64_n L) (x_addU64_b L) (x_addU64_x L) .u64 (x_addU64_f L) Z Z hw.cellSt<|hw.thaw 0).trans (by rw[e0];rfl),aea (n:=150) ?_⟩;replace hK:c.Sh (AP.setCell (stA c.A.Wg)<|.int .u64 KK):=Kr K hK rfl dx;clear hw;simp only[KK]at hK|-
  walk_nrm
  u_op kn hK;u_c iN kn hK;u_c kS kn hK
  u_leave1 H.f_uAdd kn hK
  u_op kn hK;u_c iN kn hK;u_c kX kn hK;u_c kX kn hK;u_reg kn hK
  iterate 4 u_op kn hK
  u_skip kn hK
  u_skip kn hK
  u_op kn hK;u_c iN kn hK
  u_cond false kn hK
  u_c kT kn hK;u_c kX kn hK;u_reg kn hK
  iterate 4 u_op kn hK
  u_c iN kn hK;u_c kX kn hK;u_reg kn hK
  iterate 4 u_op kn hK
  u_c iN kn hK;u_c kX kn hK;u_c kX kn hK;u_reg kn hK
  iterate 10 u_op kn hK
  u_c iN kn hK
  u_cond true kn hK
  u_reg kn hK
  iterate 3 u_op kn hK
  u_in kn hK
  refine kB Z Z (by k_ne)<|fun Y uJ=>?_;have hv:=fP (P:=c.P) H.underlying_tPU32 H.underlying_tUP H.room_tU32 (Qr oE hK).choose_spec;have he:=fun es=>eP (P:=c.P) H.underlying_tPU32 H.underlying_tUP H.room_tU32 (Qr oE hK).choose_spec es
  go_simp
  refine uJ _ _ ⟨?_,?_⟩
  .u_none
   intro e1 h1;have h2:=kQ h1;simp[go_sem,he]at h2
  clear uJ Y hv he;refine kV<|fun qJ qj=>?_;replace hK:=kn hK qj;clear qj;refine aeb Z (fun w1=>km .read aq Z Z (by k_ne) Z H.f_raceRead (x_raceRead_n L) (x_raceRead_b L) (x_raceRead_x L) (x_raceRead_f L) (ad:=⟨c.A.Wg,1,none⟩)<|by simp[Act.eval]) ⟨⟨c.A.Wg,1,none⟩,Z,.inl Z⟩ fun qJ qj=>?_;replace hK:=kn hK qj;clear qj;refine yd (n:=90) ?_
  walk_nrm
  u_c iN kn hK;u_c kX kn hK;u_c kX kn hK;u_reg kn hK;u_op kn hK;u_op kn hK;u_c iN kn hK
  u_cond false kn hK
  u_c kT kn hK;u_c kX kn hK;u_c kX kn hK;u_reg kn hK
  iterate 3 u_op kn hK
  u_skip kn hK
  u_skip kn hK
  u_op kn hK;u_op kn hK
  iterate 4 u_skip kn hK
  u_op kn hK;u_c iN kn hK
  u_cond false kn hK
  u_c kT kn hK;u_c kX kn hK;u_c kX kn hK;u_reg kn hK
  iterate 3 u_op kn hK
  u_skip kn hK
  u_skip kn hK
  u_op kn hK;u_c iN kn hK
  u_cond true kn hK
  u_c kS kn hK;exact kV fun GF BX=>fin GF<|kn hK BX
 obtain⟨V,hV⟩:∃V:Int,V=(v:Int)+1:=⟨_,rfl⟩
 obtain⟨S,hS⟩:∃S:Int,S=V*KK:=⟨_,rfl⟩
 have eS:IntKind.u64.wrap ((v:Int)*KK+4294967296)=S:=by rw[im,hS,hV];simp only[KK];omega
 rw[<-hV,<-hS];have a1:S/4294967296=V:=dt;have b1:bits .and .u64 S 2147483648=0:=by rw[hS,hV];have:=ik (v+1) 0 aa aa;simpa[KK]using this
 have b2:bits .and .u64 S 2147483647=0:=by rw[hS,hV];have:=gh (v+1) 0 aa aa;simpa[KK]using this
 have c1:IntKind.i32.wrap V=V:=by rw[IntKind.wrap_i32];omega
 have hV1:1<V:=aa;have hV2:V<2147483648:=aa;have q1:(V==1)=false:=aF;have q2:decide (V=1)=false:=jo aa;have q3:decide (V<0)=false:=jo aa;have q4:decide (0<V)=true:=jB aa;have q5:(V==0)=false:=aF;have q6:decide (V=0)=false:=jo aa;refine⟨_,(stepG_add_atomic Z Z (base_kind _) Z H.f_addU64 (x_addU64_n L) (x_addU64_b L) (x_addU64_x L) .u64 (x_addU64_f L) Z Z hw.cellSt<|hw.thaw 0).trans (by rw[eS];rfl),yd (n:=150) ?_⟩;replace hK:c.Sh (AP.setCell (stA c.A.Wg)<|.int .u64 S):=Kr K hK rfl dx;clear hw hS hV eS
 walk_nrm
 u_op kn hK;u_c iN kn hK;u_c kS kn hK
 u_leave1 H.f_uAdd kn hK
 u_op kn hK;u_c iN kn hK;u_c kX kn hK;u_c kX kn hK;u_reg kn hK
 iterate 4 u_op kn hK
 u_skip kn hK
 u_skip kn hK
 u_op kn hK;u_c iN kn hK
 u_cnd false kn hK
 u_c kT kn hK;u_c kX kn hK;u_reg kn hK
 iterate 4 u_op kn hK
 u_c iN kn hK;u_c kX kn hK;u_reg kn hK
 iterate 4 u_op kn hK
 u_c iN kn hK;u_c kX kn hK;u_c kX kn hK;u_reg kn hK
 iterate 10 u_op kn hK
 u_c iN kn hK
 u_cnd false kn hK
 u_c kT kn hK;u_c kX kn hK;u_c kX kn hK;u_reg kn hK;u_op kn hK;u_op kn hK;u_c iN kn hK
 u_cnd false kn hK
 u_c kT kn hK;u_c kX kn hK;u_c kX kn hK;u_reg kn hK
 iterate 3 u_op kn hK
 u_skip kn hK
 u_skip kn hK
 u_op kn hK;u_op kn hK
 iterate 4 u_skip kn hK
 u_op kn hK;u_c iN kn hK
 u_cnd false kn hK
 u_c kT kn hK;u_c kX kn hK;u_c kX kn hK;u_reg kn hK
 iterate 3 u_op kn hK
 u_skip kn hK
 u_skip kn hK
 u_op kn hK;u_c iN kn hK
 u_cnd true kn hK
 u_c kS kn hK;exact kV fun GF BX=>fin GF<|kn hK BX
end mg
open Go Go.Conc Go.Conc.Lib Go.ConcR.Gen Go.RowKit
open Go.ConcR (stA smA rd wr KK WgAt Bk DC0)
def Ld(c:mg)(L:WgLink)(f:Frame)(cs:nX)(g:lZ)(w:lE):Prop:=∃T:lW,g=G ((base L.wait).at ⟨T,[]⟩ [.code (L7 L),.inLoop<|L7 L,.inBlock 0]) (f::cs)/\T.size=84/\T[0]?=some (.pointer<|some ⟨c.A.Wg,0,none⟩)/\c.Sh w
def Sk(P:lY)(g0 g:lZ):Prop:=∃n,∀w,Goes P true AtRel DC0 (fun g' w'=>g'=g0/\AtRel w w') n g w
namespace mg
variable{c:mg}{L:WgLink}
theorem axu(K:c.Ok0)(H:WgLib c.P L)(oE:c.ty=L.tWg){b₀:Frame}{k₀:nA}{cs:nX}
  (hA:∀g w,Ld c L (b₀.at a₀ (.inRegion ops₀ (i₀::rest₀)::k₀)) cs g w->c.AS g w)
  (hT:∀g,Sk c.P (G (b₀.at (a₀.put ((ops₀[i₀]?).bind (·.dst))<|.tuple #[]) (.inRegion ops₀ rest₀::k₀)) cs) g->c.GS g) (g:lZ) (w:lE) (h:Ld c L (b₀.at a₀ (.inRegion ops₀ (i₀::rest₀)::k₀)) cs g w):
  Goes c.P true (c.Rel none_) DC0 (c.AtW1 none_) 50 g w:=by
 lib_facts
 obtain⟨T,rfl,ang,t0,hK⟩:=h;obtain⟨v0,v1,v2,v3,v4,v5,v6,v7,v8,v9,v10,v11,v12,v13,v14,v15,v16,v17,v18,v19,v20,v21,v22,v23,v24,v25,v26,v27,v28,v29,v30,v31,v32,v33,v34,v35,v36,v37,v38,v39,v40,v41,v42,v43,v44,v45,v46,v47,v48,v49,v50,v51,v52,v53,v54,v55,v56,v57,v58,v59,v60,v61,v62,v63,v64,v65,v66,v67,v68,v69,v70,v71,v72,v73,v74,v75,v76,v77,v78,v79,v80,v81,v82,v83,rfl⟩:=array84 T ang;simp only[fG,eU,ia]at t0;subst t0;simp only[L7,body_wait,waitFn,iK];u_c kF kn hK;u_c kX kn hK;u_reg kn hK
 iterate 3 u_op kn hK
 u_call H.f_uLoad (nm_uLoad L) uLoadFn kn hK
 u_c kX kn hK;u_reg kn hK;u_op kn hK;u_c iN kn hK;u_c kX kn hK;u_reg kn hK
 iterate 3 u_op kn hK
 refine kV<|fun qJ qj=>?_;replace hK:=kn hK qj;clear qj;refine⟨Z,fun v hv hw=>?_⟩;rw[oE]at hw;rcases gJ v with rfl|hvp
 .replace hw:WgAt L.tWg c.A.Wg qJ 0 0:=by simpa using hw
  refine⟨_,ie (v:=0) Z Z (base_kind _) Z H.f_loadU64 (x_loadU64_n L) (x_loadU64_b L) (x_loadU64_x L) .u64 (x_loadU64_f L) Z hw.cellSt,fun _=>yd (n:=90) ?_,fun h=>ll Z h⟩;clear hw
  walk_nrm
  u_op kn hK;u_c iN kn hK;u_c kS kn hK
  u_leave1 H.f_uLoad kn hK
  u_op kn hK;u_c iN kn hK;u_c kX kn hK;u_reg kn hK
  iterate 4 u_op kn hK
  u_c iN kn hK;u_c kX kn hK;u_reg kn hK
  iterate 4 u_op kn hK
  u_c iN kn hK;u_c kX kn hK;u_c kX kn hK;u_reg kn hK;u_op kn hK;u_op kn hK;u_c iN kn hK
  u_cond true kn hK
  u_c kX kn hK
  u_cond true kn hK
  u_c kX kn hK;u_reg kn hK;refine kV<|fun axT MZ=>?_;replace hK:=kn hK MZ;clear MZ;refine⟨Z,_,kG .enable aq Z Z (by k_ne) Z H.f_enable (x_enable_n L) (x_enable_b L) (x_enable_x L)<|x_enable_f L,yd (n:=20) ?_⟩
  walk_nrm
  u_c iN kn hK;u_reg kn hK;u_op kn hK
  u_in kn hK
  refine kB Z Z (by k_ne)<|fun Y uJ=>?_;have hv:=fP (P:=c.P) H.underlying_tWgP H.underlying_tUP H.room_tWg (JJ oE hK).choose_spec;have he:=fun es=>eP (P:=c.P) H.underlying_tWgP H.underlying_tUP H.room_tWg (JJ oE hK).choose_spec es
  go_simp
  refine uJ _ _ ⟨?_,?_⟩
  .u_none
   intro e1 h1;have h2:=kQ h1;simp[go_sem,he]at h2
  clear uJ Y hv he;refine kV<|fun axU M4=>?_;replace hK:=kn hK M4;clear M4;refine⟨Z,_,km .acquire aq Z Z (by k_ne) Z H.f_acquire (x_acquire_n L) (x_acquire_b L) (x_acquire_x L) (x_acquire_f L) (by simp[Act.eval,stA]),hT _ ⟨60,fun w=>?_⟩⟩;clear hK;have hK:AtRel w w:=atRel_refl w;have kn:∀{x y:lE},AtRel w x->AtRel x y->AtRel w y:=fun h k=>atRel_trans _ _ _ h k;revert hK;generalize AD:w=w' at kn|-;intro hK
  walk_nrm
  u_c iN kn hK;u_c kX kn hK;u_c kX kn hK;u_reg kn hK
  iterate 8 u_op kn hK
  u_skip kn hK
  u_skip kn hK
  u_op kn hK;u_c iN kn hK
  u_cond false kn hK
  u_c kT kn hK;u_c kS kn hK
  u_leave0 H.f_wait kn hK
  exact kV fun w7 h7=>⟨Z,kn hK h7⟩
 obtain⟨S,hS⟩:∃S:Int,(v:Int)*KK=S:=⟨_,rfl⟩
 have a1:S/4294967296=(v:Int):=by rw[<-hS];simp only[KK];omega
 have b1:bits .and .u64 S 2147483648=0:=by rw[<-hS];have:=ik v 0 aa aa;simpa[KK]using this
 have b2:bits .and .u64 S 2147483647=0:=by rw[<-hS];have:=gh v 0 aa aa;simpa[KK]using this
 have c1:IntKind.i32.wrap (v:Int)=(v:Int):=by rw[IntKind.wrap_i32];omega
 have w1:IntKind.u64.wrap (S+1)=S+1:=by rw[im,<-hS];simp only[KK];omega
 have q3:decide ((v:Int)<0)=false:=jo aa;have q4:decide (0<(v:Int))=true:=jB aa;have q5:((v:Int)==0)=false:=aF;have q6:decide ((v:Int)=0)=false:=jo aa;rw[hS]at hw;refine⟨_,ie (v:=S) Z Z (base_kind _) Z H.f_loadU64 (x_loadU64_n L) (x_loadU64_b L) (x_loadU64_x L) .u64 (x_loadU64_f L) Z hw.cellSt,fun h0=>ll h0 aa,fun _=>yd (n:=90) ?_⟩;clear hw
 walk_nrm
 u_op kn hK;u_c iN kn hK;u_c kS kn hK
 u_leave1 H.f_uLoad kn hK
 u_op kn hK;u_c iN kn hK;u_c kX kn hK;u_reg kn hK
 iterate 4 u_op kn hK
 u_c iN kn hK;u_c kX kn hK;u_reg kn hK
 iterate 4 u_op kn hK
 u_c iN kn hK;u_c kX kn hK;u_c kX kn hK;u_reg kn hK;u_op kn hK;u_op kn hK;u_c iN kn hK
 u_cnd false kn hK
 u_c kT kn hK;u_c kX kn hK;u_reg kn hK
 iterate 6 u_op kn hK
 u_call H.f_uCas (nm_uCas L) uCasFn kn hK
 u_c kX kn hK;u_reg kn hK;u_op kn hK;u_c iN kn hK;u_c kX kn hK;u_reg kn hK
 iterate 5 u_op kn hK
 refine kV<|fun AP ub=>?_;replace hK:=kn hK ub;clear ub;refine⟨Z,fun v' HO hw=>⟨fun e=>?_,fun e=>?_⟩⟩
 .subst e;rw[oE,hS]at hw;rw[hS];refine⟨_,(stepG_cas_hit (v:=S) (n:=S+1) Z Z (base_kind _) Z H.f_casU64 (x_casU64_n L) (x_casU64_b L) (x_casU64_x L) .u64 (x_casU64_f L) Z Z Z hw.cellSt<|hw.thaw 0).trans (by rfl),aea (n:=90) ?_⟩;replace hK:c.Sh (AP.setCell (stA c.A.Wg)<|.int .u64<|S+1):=Kr K hK rfl dx;clear hw
  walk_nrm
  u_op kn hK;u_c iN kn hK;u_c kS kn hK
  u_leave1 H.f_uCas kn hK
  u_c iN kn hK
  u_cond true kn hK
  u_c kX kn hK;u_c kX kn hK;u_reg kn hK
  iterate 4 u_op kn hK
  u_c iN kn hK
  u_cond true kn hK
  u_reg kn hK
  iterate 3 u_op kn hK
  u_in kn hK
  refine kB Z Z (by k_ne)<|fun Y uJ=>?_;have hv:=fP (P:=c.P) H.underlying_tPU32 H.underlying_tUP H.room_tU32 (Qr oE hK).choose_spec;have he:=fun es=>eP (P:=c.P) H.underlying_tPU32 H.underlying_tUP H.room_tU32 (Qr oE hK).choose_spec es
  go_simp
  refine uJ _ _ ⟨?_,?_⟩
  .u_none
   intro e1 h1;have h2:=kQ h1;simp[go_sem,he]at h2
  clear uJ Y hv he;refine kV<|fun qJ qj=>?_;replace hK:=kn hK qj;clear qj;refine aeb Z (fun w1=>km .write aq Z Z (by k_ne) Z H.f_raceWrite (x_raceWrite_n L) (x_raceWrite_b L) (x_raceWrite_x L) (x_raceWrite_f L) (ad:=⟨c.A.Wg,1,none⟩)<|by simp[Act.eval]) ⟨⟨c.A.Wg,1,none⟩,Z,.inr Z⟩ fun qJ qj=>?_;replace hK:=kn hK qj;clear qj;refine yd (n:=90) ?_
  walk_nrm
  u_c iN kn hK;u_c kX kn hK;u_reg kn hK;u_op kn hK;u_c iN kn hK;u_c kX kn hK;u_c kX kn hK;u_reg kn hK
  iterate 4 u_op kn hK
  u_skip kn hK
  u_op kn hK;u_c iN kn hK
  u_cond false kn hK
  u_c kT kn hK;u_c kX kn hK;u_reg kn hK
  iterate 4 u_op kn hK
  refine kV<|fun GF BX=>?_;replace hK:=kn hK BX;clear BX;refine⟨Z,Z,fun⟨st,hw⟩=>?_,fun hf=>?_⟩
  .rw[oE]at hw;exact stepG_semacquire_wait Z Z Z H.f_semacquire (x_semacquire_n L) (x_semacquire_b L) (x_semacquire_x L) (x_semacquire_f L) (by simp[Act.eval,smA]) hw.cellSm
  rw[oE]at hf;refine⟨_,(stepG_semacquire (n:=1) Z Z (base_kind _) Z H.f_semacquire (x_semacquire_n L) (x_semacquire_b L) (x_semacquire_x L) (x_semacquire_f L) (by simp[Act.eval,smA]) hf.cellSm aw<|hf.thaw 1).trans (by rfl),yd (n:=60) ?_⟩;replace hK:c.Sh (GF.setCell (smA c.A.Wg)<|.int .u32 0):=Kr K hK rfl (by rw[oE];exact hf.setSm 0);clear hf
  walk_nrm
  u_c iN kn hK;u_c kX kn hK;u_reg kn hK
  iterate 3 u_op kn hK
  u_call H.f_uLoad (nm_uLoad L) uLoadFn kn hK
  u_c kX kn hK;u_reg kn hK;u_op kn hK;u_c iN kn hK;u_c kX kn hK;u_reg kn hK
  iterate 3 u_op kn hK
  refine kV<|fun axS Qe=>?_;replace hK:=kn hK Qe;clear Qe;refine⟨Z,fun hw=>?_⟩;rw[oE]at hw;refine⟨_,ie (v:=0) Z Z (base_kind _) Z H.f_loadU64 (x_loadU64_n L) (x_loadU64_b L) (x_loadU64_x L) .u64 (x_loadU64_f L) Z hw.cellSt,yd (n:=60) ?_⟩;clear hw
  walk_nrm
  u_op kn hK;u_c iN kn hK;u_c kS kn hK
  u_leave1 H.f_uLoad kn hK
  u_op kn hK;u_op kn hK;u_c iN kn hK;u_c kX kn hK
  u_cond true kn hK
  u_c kX kn hK;u_reg kn hK;refine kV<|fun axT MZ=>?_;replace hK:=kn hK MZ;clear MZ;refine⟨Z,_,kG .enable aq Z Z (by k_ne) Z H.f_enable (x_enable_n L) (x_enable_b L) (x_enable_x L)<|x_enable_f L,yd (n:=20) ?_⟩
  walk_nrm
  u_c iN kn hK;u_reg kn hK;u_op kn hK
  u_in kn hK
  refine kB Z Z (by k_ne)<|fun Y uJ=>?_;have hv:=fP (P:=c.P) H.underlying_tWgP H.underlying_tUP H.room_tWg (JJ oE hK).choose_spec;have he:=fun es=>eP (P:=c.P) H.underlying_tWgP H.underlying_tUP H.room_tWg (JJ oE hK).choose_spec es
  go_simp
  refine uJ _ _ ⟨?_,?_⟩
  .u_none
   intro e1 h1;have h2:=kQ h1;simp[go_sem,he]at h2
  clear uJ Y hv he;refine kV<|fun axU M4=>?_;replace hK:=kn hK M4;clear M4;refine⟨Z,_,km .acquire aq Z Z (by k_ne) Z H.f_acquire (x_acquire_n L) (x_acquire_b L) (x_acquire_x L) (x_acquire_f L) (by simp[Act.eval,stA]),hT _ ⟨60,fun w=>?_⟩⟩;clear hK;have hK:AtRel w w:=atRel_refl w;have kn:∀{x y:lE},AtRel w x->AtRel x y->AtRel w y:=fun h k=>atRel_trans _ _ _ h k;revert hK;generalize AD:w=w' at kn|-;intro hK
  walk_nrm
  u_c iN kn hK;u_c kX kn hK;u_c kX kn hK;u_reg kn hK;u_op kn hK;u_c iN kn hK
  u_cond false kn hK
  u_c kT kn hK;u_c kS kn hK
  u_leave0 H.f_wait kn hK
  exact kV fun w7 h7=>⟨Z,kn hK h7⟩
 rw[oE]at hw;refine⟨_,stepG_cas_miss (v:=(v':Int)*KK) (old:=S) (n:=S+1) Z Z (base_kind _) Z H.f_casU64 (x_casU64_n L) (x_casU64_b L) (x_casU64_x L) .u64 (x_casU64_f L) Z Z Z hw.cellSt (hw.thaw 0) (by rw[<-hS];simp only[KK];omega),yd (n:=40) ?_⟩;clear hw
 walk_nrm
 u_op kn hK;u_c iN kn hK;u_c kS kn hK
 u_leave1 H.f_uCas kn hK
 u_c iN kn hK
 u_cond false kn hK
 u_c kT kn hK;u_c jT kn hK;u_c kl kn hK;refine kV<|fun GF BX=>?_;replace hK:=kn hK BX;exact hA _ _ ⟨_,Z,aq,aq,hK⟩
theorem axv(H:WgLib c.P L){b₀:Frame}{k₀:nA}{cs:nX}
  (hA:∀g w,Ld c L (b₀.at a₀ (.inRegion ops₀ (i₀::rest₀)::k₀)) cs g w->c.AS g w) (w:lE) (hK:c.Sh w):
  Goes c.P true (c.Rel none_) DC0 (c.AtKd none_) 10 (G ((base L.wait).at ⟨(.pointer (some ⟨c.A.Wg,0,none⟩)::List.replicate ((waitFn L).ntmps-1) undef).toArray,[]⟩ [.code (body_wait L)])<|b₀.at a₀ (.inRegion ops₀ (i₀::rest₀)::k₀)::cs) w:=by
 simp only[waitFn,body_wait,iK,List.replicate]
 lib_facts
 u_c kX kn hK
 u_cond true kn hK
 u_reg kn hK;refine kV<|fun qJ qj=>?_;replace hK:=kn hK qj;clear qj;refine⟨Z,_,kG .disable aq Z Z (by k_ne) Z H.f_disable (x_disable_n L) (x_disable_b L) (x_disable_x L)<|x_disable_f L,yd (n:=10) ?_⟩
 walk_nrm
 u_c iN kn hK;u_c kF kn hK;u_c kR kn hK;exact kV<|fun AP ub=>hA _ _ ⟨_,Z,aq,aq,kn hK ub⟩
end mg
open Go Go.Conc
abbrev link:Go.Conc.Lib.WgLink:={add:=11,done:=13,wait:=14,relMerge:=26,disable:=27,enable:=28,inBubble:=29,associate:=30,fatal:=31,uOr:=32,uAdd:=33,raceRead:=34,uLoad:=35,uStore:=36,disassociate:=37,semrelease:=38,acquire:=39,isAssociated:=40,uCas:=41,raceWrite:=42,semacquire:=43,orU64:=71,addU64:=72,loadU64:=73,storeU64:=74,casU64:=75,tWgP:=90,tUP:=92,tAssoc:=93,tWg:=61,tAU:=58,tU64:=56,tUint:=48,tU32:=59,tPU32:=97,tPAU:=165,tPU64:=167,tNoCopy:=53,tANoCopy:=54,tAlign64:=55}
theorem Iv:Go.Conc.Lib.WgLib prog link:=⟨func11,func13,func14,func26,func27,func28,func29,func30,func31,func32,func33,func34,func35,func36,func37,func38,func39,func40,func41,func42,func43,func71,func72,func73,func74,func75,underlying90,Tryz.runUnderlying90,sizeOf90,isAgg90,zeroValue90,underlying92,Tryz.runUnderlying92,sizeOf92,isAgg92,zeroValue92,underlying93,Tryz.runUnderlying93,sizeOf93,isAgg93,zeroValue93,underlying61,Tryz.runUnderlying61,sizeOf61,isAgg61,zeroValue61,underlying58,Tryz.runUnderlying58,sizeOf58,isAgg58,zeroValue58,Cj,Tryz.runUnderlying56,sizeOf56,isAgg56,zeroValue56,underlying48,Tryz.runUnderlying48,sizeOf48,isAgg48,zeroValue48,underlying59,Tryz.runUnderlying59,sizeOf59,isAgg59,zeroValue59,underlying97,Tryz.runUnderlying97,sizeOf97,isAgg97,zeroValue97,underlying165,Tryz.runUnderlying165,sizeOf165,isAgg165,zeroValue165,underlying167,Tryz.runUnderlying167,sizeOf167,isAgg167,zeroValue167,underlying0,Tryz.runUnderlying0,sizeOf0,isAgg0,zeroValue0,sM,Tryz.runUnderlying3,sizeOf3,isAgg3,zeroValue3,E6,Tryz.runUnderlying4,sizeOf4,isAgg4,zeroValue4,nS,Tryz.runUnderlying9,sizeOf9,isAgg9,zeroValue9,underlying20,Tryz.runUnderlying20,sizeOf20,isAgg20,zeroValue20,underlying21,Tryz.runUnderlying21,sizeOf21,isAgg21,zeroValue21,ai,ai⟩
end Go.Proofs.YtfjcghhjlmfggaaGreatDoor
