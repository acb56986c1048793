/-
  FarmMany: for every input the law returns true, and each argument reads afterwards as it read before; errors.errorType holds what the program's text lays (the card ties it).
-/
import Derived.Test.YtfjcghhjlmfggaaGreatDoorCards
import Derived.Test.YtfjcghhjlmfggaaGreatDoorTie
import Derived.Test.YtfjcghhjlmfggaaGreatDoorPLaidM
import Derived.SevenTiedAt
import Derived.Test.YtfjcghhjlmfggaaGreatDoorPLvw
import Derived.WalkKit
import Derived.ProofKit
import Derived.OpenShut
import Derived.ShutString
import Derived.ChangeOld
import Derived.Below
namespace Go.Proofs.YtfjcghhjlmfggaaGreatDoor.farmMany
open Go.ChangeShapes Go.WideShapes Go.ChangeAt Go.RowKit
open Go.ChangeMaps (open_string shut_string)
set_option linter.unusedVariables false
set_option linter.unusedSimpArgs false

theorem own:ownKnob Tryz.prog.godebug=none:=by kernel_rfl
theorem laidOut:laidOutB Tryz.prog=true:=by kernel_rfl

set_option maxRecDepth 4000 in
theorem walk{H:Type}{enc:TypeId×Value->H}{base:Nat}(w:World)(hsh:w.ShapedOpen Tryz.prog)(hglob:laidMetH Tryz.prog JI w)(v0:Value)(p0:List MemPlace){d0:DataW H}(o0:Value.okWide Tryz.prog w .any base 22 v0)(h0:DataW.Trod enc Tryz.prog w 0 (fun _=>true) true 22 v0 d0 p0)(lt0:∀x∈p0,x.block<w.heap.size)(v1:Value)(p1:List MemPlace){d1:DataW H}(o1:Value.okWide Tryz.prog w .any base 23 v1)(h1:DataW.Trod enc Tryz.prog w 0 (fun _=>true) true 23 v1 d1 p1)(lt1:∀x∈p1,x.block<w.heap.size)(a2:Int)(w2:(Lit.int .i64 a2).wf=true)(a3:Int)(w3:(Lit.int .i64 a3).wf=true):
    ∃M last o w' t',runNT Tryz.prog (M+1) (Go.Conc.solo (Go.Conc.G (Frame.enter Tryz.prog 3 #[v0,v1,.int .i64 a2,.int .i64 a3] .normal) []) w) #[]=(.ended o w',t')/\runN Tryz.prog M (Go.Conc.solo (Go.Conc.G (Frame.enter Tryz.prog 3 #[v0,v1,.int .i64 a2,.int .i64 a3] .normal) []) w)=.next last/\
      step Tryz.prog last=.ended o w'/\Go.Conc.Good Tryz.prog (fun v w'=>v=.bool true/\Below w.heap.size w w') last o w' t':=by
  obtain⟨A,c,ps,rfl,hp⟩:=aAn h0 (by obtain⟨A,n,c,rfl⟩:=okWide_slice Tryz.underlying22 o0;rfl);obtain⟨B',ct,ts,rfl,ht,hti⟩:=aAo h1 (by obtain⟨A,n,c,rfl⟩:=okWide_slice Tryz.underlying23 o1;rfl);obtain⟨M,last,o',w',t',e1,e2,e3,e4⟩:=aAg (wk0:=a2) (ot0:=a3)<|ayL hp ht hti o0 o1 hsh hglob;exact⟨M,last,o',w',t',e1,e2,e3,e4.mono fun v hp=>⟨hp.1,hp.2.below⟩⟩

set_option maxRecDepth 100000 in
theorem lifted(os:Os)(started:os.Started)(H:Type)(enc:TypeId×Value->H):
    ReturnsInLeavingWide {} Tryz.checked os 3 .any (fun w args=>(Rows.farmManySpec.pre enc Tryz.prog Tryz.f3 [] false w args/\laidMetH Tryz.prog JI w)/\sizedMet enc Tryz.prog Tryz.f3 (OpenSpec.ofChange Rows.farmManySpec) false w args)
      (Rows.farmManySpec.post enc Tryz.prog Tryz.f3 false true false false):=by
  refine aAr (C:=Tryz.checked) (X:=fun w _=>laidMetH Tryz.prog JI w) (fun _ _ _ hh h=>h.of_heap hh) own started Tryz.func3
    (ChangeSpec.witness_at (enc:=enc) (C:=Tryz.checked) (os:=os) (X:=fun w _=>laidMetH Tryz.prog JI w) false (adQ os) #[.slice none 0 0,.slice none 0 0,.int .i64 0,.int .i64 0] 8 rfl (by kernel_rfl) (by kernel_rfl) (by kernel_rfl) (by kernel_rfl) (by kernel_rfl)<|aAf os _) ?_
  intro W base args ds gs before hsh0 hval0 hW _ hsz0 hL _;have hval:∀(j:Nat) t v,Tryz.f3.params[j]?=some t->args[j]?=some v->Value.okWide Tryz.prog W .any base t v:=hval0;have hW':=hW;obtain⟨p,q,hA0,hV,rfl,hfz,hnd⟩:=hW;have hA:DataW.TrodAll enc Tryz.prog W 0 (fun _=>true) true Tryz.f3.params.toList args.toList ds p:=hA0;rw[Tryz.params3]at hA hval;obtain⟨v0,vs0,d0,ds0,p0,q0,hargs,rfl,rfl,h0,r0⟩:=trodAll_cons hA;obtain⟨v1,vs1,d1,ds1,p1,q1,rfl,rfl,rfl,h1,r1⟩:=trodAll_cons r0;obtain⟨v2,vs2,d2,ds2,p2,q2,rfl,rfl,rfl,h2,r2⟩:=trodAll_cons r1;obtain⟨v3,vs3,d3,ds3,p3,q3,rfl,rfl,rfl,h3,r3⟩:=trodAll_cons r2;obtain⟨rfl,rfl,rfl⟩:=trodAll_nil r3;obtain rfl:args= #[v0,v1,v2,v3]:=by cases args;simp_all
  obtain⟨rfl,rfl⟩:=trodVars_none hV;have k0:=h0;have lt0:∀x∈p0,x.block<W.heap.size:=by obtain⟨m,hm⟩:=k0;exact DataW.trod_lt m _ _ _ hm
  have k1:=h1;have lt1:∀x∈p1,x.block<W.heap.size:=by obtain⟨m,hm⟩:=k1;exact DataW.trod_lt m _ _ _ hm
  have k2:=h2;have lt2:∀x∈p2,x.block<W.heap.size:=by obtain⟨m,hm⟩:=k2;exact DataW.trod_lt m _ _ _ hm
  have k3:=h3;have lt3:∀x∈p3,x.block<W.heap.size:=by obtain⟨m,hm⟩:=k3;exact DataW.trod_lt m _ _ _ hm
  obtain⟨a2,rfl,_,_,w2⟩:=open_int Tryz.underlying3 (hval 2 3 v2 rfl rfl) h2;obtain⟨a3,rfl,_,_,w3⟩:=open_int Tryz.underlying3 (hval 3 3 v3 rfl rfl) h3;obtain⟨M,last,o,w',t',g1,g2,g3,g4⟩:=walk (H:=H) (enc:=enc) (base:=base) W hsh0 hL v0 _ (hval 0 22 v0 rfl rfl) h0 lt0 v1 _ (hval 1 23 v1 rfl rfl) h1 lt1 a2 w2 a3 w3;refine⟨M,last,o,w',t',g1,g2,g3,g4.mono fun v hp=>?_⟩;obtain⟨he,bel⟩:=hp;subst he;exact⟨_,_,_,[],_,[],hW',trodAll_mk1<|shut_bool Tryz.underlying4 _,(trodAll_cons_mk (Below.trod laidOut (by kernel_rfl) (of_decide_eq_true<|by kernel_rfl) k0 bel lt0)<|trodAll_cons_mk (Below.trod laidOut (by kernel_rfl) (of_decide_eq_true<|by kernel_rfl) k1 bel lt1)<|trodAll_cons_mk (Below.trod laidOut (by kernel_rfl) (of_decide_eq_true<|by kernel_rfl) k2 bel lt2)<|trodAll_cons_mk (Below.trod laidOut (by kernel_rfl) (of_decide_eq_true<|by kernel_rfl) k3 bel lt3) trodAll_mk0),rfl,bel.frame _,fun h=>by cases h⟩

theorem over:Rows.farmManyRow.holds Tryz.pinned (OpenSpec.ofChange Rows.farmManySpec):=
  OpenClaim.holds_of_wide_leaving 3 Tryz.f3 rfl rfl rfl rfl rfl rfl rfl ⟨rfl,rfl,rfl,rfl,rfl⟩ rfl rfl rfl rfl rfl (by kernel_rfl) Tryz.func3 (by kernel_rfl)
    (of_decide_eq_true<|by kernel_rfl) (by unfold Func.isWrapper;first|(rw[if_pos (by decide+kernel)];kernel_rfl)|(rw[if_neg (by decide+kernel)];exact⟨rfl,rfl⟩))
    (fun os started H enc _=>lifted os started H enc)

theorem plain(g:FuncId)(fn:Func)(hf:Tryz.pinned.checked.prog.funcNamed "testimony/testimonykeep.FarmMany" =some g)(hfn:Tryz.pinned.checked.prog.funcs[g]?=some fn):
    true=Tryz.pinned.checked.prog.looks []/\∀(j:Nat) t,fn.params[j]?=some t->Tryz.pinned.checked.prog.wantsStandIn t=false:=by
  obtain rfl:g=3:=Option.some.inj ((show Tryz.prog.funcNamed "testimony/testimonykeep.FarmMany" =some 3 by kernel_rfl).symm.trans hf) |>.symm;obtain rfl:fn=Tryz.f3:=(Option.some.inj<|Tryz.func3.symm.trans hfn).symm;refine⟨by kernel_rfl,fun j t ht=>?_⟩;have hB:(Tryz.f3.params.toList.all fun t=> !Tryz.prog.wantsStandIn t)=true:=by kernel_rfl
  have:=List.all_eq_true.1 hB t (by simpa using Array.mem_of_getElem? ht);exact(show Tryz.prog.wantsStandIn t=false by simpa using this)
theorem proved:Rows.FarmManyCardSaid:=azM .later _ _ _ _ over (by kernel_rfl) farmMany_row_tie rfl ⟨rfl,rfl⟩ (by kernel_rfl) rfl plain (by kernel_rfl)
#print axioms proved
end Go.Proofs.YtfjcghhjlmfggaaGreatDoor.farmMany
