/- FarmMany: lemmas. -/
import Derived.Test.YtfjcghhjlmfggaaGreatDoorRows
import Derived.Test.YtfjcghhjlmfggaaGreatDoorPFarJ
import Derived.ChangeVars
import Derived.JoinedOf
import Derived.RowKit
import Derived.RowKitTokens
import Derived.LaidLaws
import Derived.LaidHandle
import Derived.Lib.LaidTab
import Derived.Stop.Joined
import Derived.Stop.LaidErr
set_option linter.unusedSectionVars false
set_option linter.unusedVariables false
set_option linter.unusedSimpArgs false
namespace Go.Proofs.YtfjcghhjlmfggaaGreatDoor
open Go Go.ChangeShapes Go.WideShapes Go.RowKit
set_option maxRecDepth 20000
abbrev JI:List (String×DataW Unit):=[("math/bits.deBruijn32tab",Rows.laid_math_bits_deBruijn32tab),("math/bits.deBruijn64tab",Rows.laid_math_bits_deBruijn64tab),("internal/strconv.uint64pow10",Rows.laid_internal_strconv_uint64pow10),("unicode/utf8.acceptRanges",Rows.laid_unicode_utf8_acceptRanges),("errors.errorType",Rows.laid_errors_errorType),("strconv.ErrRange",Rows.laid_strconv_ErrRange),("strconv.ErrSyntax",Rows.laid_strconv_ErrSyntax),("testimony/model.knows",Rows.laid_testimony_model_knows),("unicode/utf8.first",Rows.laid_unicode_utf8_first)]
theorem et_:Tryz.prog.globalNamed "errors.errorType" =some 0:=ai
theorem rt_:(Tryz.prog.cutTypes.find? (·.1== "internal/reflectlite.rtype")).map (·.2)=some 177:=ai
theorem ass:((List.range Tryz.prog.types.size).filter fun t=>Tryz.prog.rowNamed t [101,114,114,111,114])=[32]:=ai
abbrev Qk:List (String×DataW Unit):=[("math/bits.deBruijn32tab",Rows.laid_math_bits_deBruijn32tab),("math/bits.deBruijn64tab",Rows.laid_math_bits_deBruijn64tab),("internal/strconv.uint64pow10",Rows.laid_internal_strconv_uint64pow10),("unicode/utf8.acceptRanges",Rows.laid_unicode_utf8_acceptRanges),("strconv.ErrRange",Rows.laid_strconv_ErrRange),("strconv.ErrSyntax",Rows.laid_strconv_ErrSyntax),("testimony/model.knows",Rows.laid_testimony_model_knows),("unicode/utf8.first",Rows.laid_unicode_utf8_first)]
theorem ant{W:World}(h:laidMetH Tryz.prog JI W):W.cell? ⟨0,0,none⟩=some (.iface 177 (.agg #[oD 32])):=by have h':laidMet Tryz.prog Qk W/\handlesMet Tryz.prog [("errors.errorType",Rows.laid_errors_errorType)] W:=h;have⟨name,u,ty,e1,e2,e3,e4,e5⟩:=h'.2 _<|gF.2 rfl;have en:name=[101,114,114,111,114]:=(jl e1).symm;subst en;obtain rfl:=jl<|rt_.symm.trans e2;have hm:ty∈(List.range Tryz.prog.types.size).filter fun t=>Tryz.prog.rowNamed t [101,114,114,111,114]:=jd.2 ⟨jy.2 e3,e4⟩;rw[ass]at hm;obtain rfl:=gF.1 hm;have hh:typeHandle Tryz.prog 32=oD 32:=ai;rw[hh]at e5;simpa using World.var?_cell et_ e5 0
theorem adO:Tryz.prog.globalNamed "testimony/model.knows" =some 2:=ai
theorem aqI{W:World}(h:laidMetH Tryz.prog JI W):wW W:=by have h0:laidMet Tryz.prog Qk W:=h.1;have h':laidMet Tryz.prog (("testimony/model.knows",Lib.tabData .i64 JG)::[("unicode/utf8.first",Rows.laid_unicode_utf8_first)]) W:=h0.tail.tail.tail.tail.tail.tail;have ht:=Lib.tabIs_of_head (k:=.i64) (zs:=JG) adO (t:=270) ai Tryz.underlying270 sM ai ai h';exact fun i hi=>ht.cell adO i (by simpa[JG]using hi)
theorem OW(u:TypeId)(h:Tryz.prog.typeName? 3 u=some "*errors.errorString"):u=310:=typeName_ptr_named (nm:= "errors.errorString") (by rw[show "*" ++ "errors.errorString" = "*errors.errorString" by decide];kernel_rfl) ai aw u (by rw[show "*" ++ "errors.errorString" = "*errors.errorString" by decide];exact h)
theorem asc{W:World}(h:laidMetH Tryz.prog JI W):uB W:=by
 have h0:laidMet Tryz.prog Qk W:=h.1;refine⟨?_,?_,?_⟩
 .obtain⟨a,s,hv, -⟩:=laid_sentinel (tp:=310) (te:=312) (ti:=32) (h0.tail.tail.tail.tail.tail) LQ ai mY OW Tryz.underlying310 Tryz.underlying312 rfl rfl nS ai ai;exact⟨_,_,hv⟩
 .obtain⟨a,s,hv, -⟩:=laid_sentinel (tp:=310) (te:=312) (ti:=32) (h0.tail.tail.tail.tail) LP ai mY OW Tryz.underlying310 Tryz.underlying312 rfl rfl nS ai ai;exact⟨_,_,hv⟩
 have h':laidMet Tryz.prog (("internal/strconv.uint64pow10",Lib.tabData .u64 Lib.pow10Tab)::[("unicode/utf8.acceptRanges",Rows.laid_unicode_utf8_acceptRanges),("strconv.ErrRange",Rows.laid_strconv_ErrRange),("strconv.ErrSyntax",Rows.laid_strconv_ErrSyntax),("testimony/model.knows",Rows.laid_testimony_model_knows),("unicode/utf8.first",Rows.laid_unicode_utf8_first)]) W:=h0.tail.tail;exact Lib.tabIs_of_head (k:=.u64) (zs:=Lib.pow10Tab) Pc (t:=313) ai Tryz.underlying313 Cj ai ai h'
abbrev tb(k:IntKind)(l:List Int):Array Value:=(l.map (.int k)).toArray
abbrev cl(g n:Nat):List MemPlace:=(List.range n).map (.cell g)
noncomputable def Qv:Nat:=(World.holding Tryz.prog default ⟨#[], #[],[]⟩).heap.size
def Et(cs:Array Value):Obj->Obj
 |.cells _ t f=>.cells cs t f|o=>o
noncomputable def adQ(os:Os):World:={World.holding Tryz.prog os ⟨#[.cells #[.string {data:= #[118,97,108,117,101,32,111,117,116,32,111,102,32,114,97,110,103,101]}] 312,.cells #[.string {data:= #[105,110,118,97,108,105,100,32,115,121,110,116,97,120]}] 312], #[],[]⟩with heap:=(((((((((((((((((((World.holding Tryz.prog os ⟨#[.cells #[.string {data:= #[118,97,108,117,101,32,111,117,116,32,111,102,32,114,97,110,103,101]}] 312,.cells #[.string {data:= #[105,110,118,97,108,105,100,32,115,121,110,116,97,120]}] 312], #[],[]⟩).heap).modify 8<|Et<|tb .u8 [0,1,28,2,29,14,24,3,30,22,20,15,25,17,4,8,31,27,13,23,21,19,16,7,26,12,18,6,11,5,10,9])).modify 9<|Et<|tb .u8 [0,1,56,2,57,49,28,3,61,58,42,50,38,29,17,4,62,47,59,36,45,43,51,22,53,39,33,30,24,18,12,5,63,55,48,27,60,41,37,16,46,35,44,21,52,32,23,11,54,26,40,15,34,20,31,10,25,14,19,9,13,8,7,6])).modify 7<|Et<|tb .u64 [1,10,100,1000,10000,100000,1000000,10000000,100000000,1000000000,10000000000,100000000000,1000000000000,10000000000000,100000000000000,1000000000000000,10000000000000000,100000000000000000,1000000000000000000,10000000000000000000])).modify 4<|Et<|tb .u8<|[128,191,160,191,128,159,144,191,128,143]++(.replicate 22 0))).modify 0<|Et #[.iface 177 (.agg #[oD 32])])).modify 6<|Et #[.iface 310 (.pointer<|some ⟨Qv,0,none⟩)])).modify 5<|Et #[.iface 310 (.pointer<|some ⟨Qv+1,0,none⟩)])).modify 2<|Et<|tb .i64 [0,14,48,448,1536,1536,6144])).modify 3<|Et<|tb .u8<|(.replicate 128 240)++(.replicate 66 241)++(.replicate 30 2)++[19]++(.replicate 12 3)++[35,3,3,52,4,4,4,68,241,241,241,241,241,241,241,241,241,241,241])}
theorem aAf(os:Os)(args:Array Value):laidMetH Tryz.prog JI ((adQ os).forCall (fun _ _=>0) ⟨#[],args,[]⟩).memory:=by
 have h:laidMet Tryz.prog Qk ((adQ os).forCall (fun _ _=>0) ⟨#[],args,[]⟩).memory:=laidMet_of_run (ps:=cl 8 32++cl 9 64++cl 7 20++cl 4 32++[.cell 6 0,.cell Qv 0,.cell 5 0,.cell (Qv+1) 0]++cl 2 7++cl 3 256) 80 ai ai ai
 exact laidMetH_of_parts h ai
end Go.Proofs.YtfjcghhjlmfggaaGreatDoor
