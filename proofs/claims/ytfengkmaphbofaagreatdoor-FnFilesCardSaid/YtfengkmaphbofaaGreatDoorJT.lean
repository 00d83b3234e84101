/-
  Texts joined: LaidP.
-/
import Derived.Test.YtfengkmaphbofaaGreatDoorRows
import Derived.Test.YtfengkmaphbofaaGreatDoorJB
import Derived.ProofKit
import Derived.LaidMore
import Derived.LaidSub
import Derived.OpenShut
import Derived.MakeChecks
import Derived.Shelf.Vars
import Derived.Stop.LaidErr
import Derived.HandedShaped
import Derived.Lay
set_option maxRecDepth 100000
set_option linter.unusedSimpArgs false
set_option linter.unusedVariables false
namespace Go.Proofs.YtfengkmaphbofaaGreatDoor
open Go.RowKit
open MakeChecks renaming laidMetH_plain→a_
open Go.ChangeShapes Go.WideShapes Go.ChangeAt
def qJ :List (String×DataW Unit):=Rows.fnExactParseDataRow.laid
theorem XO : "*" ++ "errors.errorString" = "*errors.errorString" :=by decide
theorem Om(u:TypeId)(h:Tryz.prog.typeName? 3 u=some "*errors.errorString"):u=185:=
 typeName_ptr_named (nm:= "errors.errorString") (by rw[XO];kernel_rfl) (by kernel_rfl) (by decide) u (by rw[XO];exact h)
theorem Jy{W:World}(h:laidMetH Tryz.prog qJ W):Lib.TabIs Tryz.prog W "internal/strconv.uint64pow10" .u64 Lib.pow10Tab:=by
 have h2:=h.filter (fun x=>x.1== "internal/strconv.uint64pow10")
 have e:qJ.filter (fun x=>x.1== "internal/strconv.uint64pow10")= [("internal/strconv.uint64pow10",Lib.tabData .u64 Lib.pow10Tab)]:=by rfl
 rw[e,a_ _ _ _ (by rfl)]at h2;exact Lib.tabIs_of_head (g:=5) (t:=181) (e:=159) (n:=20) (by kernel_rfl) (by kernel_rfl) (by kernel_rfl) (by kernel_rfl) (by kernel_rfl) (by kernel_rfl) h2
theorem Jf{W:World}(h:laidMetH Tryz.prog qJ W):XJ W 3:=by
 have h2:=h.filter (fun x=>x.1== "strconv.ErrSyntax")
 have e:qJ.filter (fun x=>x.1== "strconv.ErrSyntax")= [("strconv.ErrSyntax",.iface "*errors.errorString" (.ptr (.agg [.lit (.string [105,110,118,97,108,105,100,32,115,121,110,116,97,120])])))]:=by rfl
 rw[e,a_ _ _ _ (by rfl)]at h2;obtain⟨a0,s0,hv0, -, -, -⟩:=laid_sentinel (g:=3) (ti:=107) (tp:=185) (te:=187) (ts:=9) h2 (by kernel_rfl) (by kernel_rfl) Tryz.underlying107 Om Tryz.underlying185 Tryz.underlying187 rfl rfl Tryz.underlying9 (by kernel_rfl) (by kernel_rfl);have hg:Tryz.prog.globalNamed "strconv.ErrSyntax" =some 3:=by kernel_rfl
 exact⟨_,by have h0:=World.var?_cell hg hv0 0;simpa using h0,Or.inr ⟨_,_,rfl⟩⟩
theorem Js{W:World}(h:laidMetH Tryz.prog qJ W):XJ W 4:=by
 have h2:=h.filter (fun x=>x.1== "strconv.ErrRange")
 have e:qJ.filter (fun x=>x.1== "strconv.ErrRange")= [("strconv.ErrRange",.iface "*errors.errorString" (.ptr (.agg [.lit (.string [118,97,108,117,101,32,111,117,116,32,111,102,32,114,97,110,103,101])])))]:=by rfl
 rw[e,a_ _ _ _ (by rfl)]at h2;obtain⟨a0,s0,hv0, -, -, -⟩:=laid_sentinel (g:=4) (ti:=107) (tp:=185) (te:=187) (ts:=9) h2 (by kernel_rfl) (by kernel_rfl) Tryz.underlying107 Om Tryz.underlying185 Tryz.underlying187 rfl rfl Tryz.underlying9 (by kernel_rfl) (by kernel_rfl);have hg:Tryz.prog.globalNamed "strconv.ErrRange" =some 4:=by kernel_rfl
 exact⟨_,by have h0:=World.var?_cell hg hv0 0;simpa using h0,Or.inr ⟨_,_,rfl⟩⟩
theorem Je{W:World}(h:laidMetH Tryz.prog qJ W)(hs:W.ShapedOpen Tryz.prog):oZ W:=
 ⟨Jy h,Jf h,Js h,cell_of_shapedOpen_int (zero:= #[.int .i64 0]) (t:=3) hs (of_decide_eq_true (by kernel_rfl)) (by kernel_rfl) rfl (by kernel_rfl) (by kernel_rfl) Tryz.underlying3⟩
theorem Vg(os:Os)(args:Array Value):laidMetH Tryz.prog qJ ((World.laidAll Tryz.prog os qJ).forCall (fun _ _=>0) ⟨#[],args,[]⟩).memory:=by
 rw[a_ _ _ _ (by kernel_rfl)];exact laidMet_laidAll _ (by kernel_rfl) (by kernel_rfl)
theorem LG(os:Os)(args:Array Value):((World.laidAll Tryz.prog os qJ).forCall (fun _ _=>0) ⟨#[],args,[]⟩).Shaped Tryz.checked.prog:=World.shaped_of_ZipB (by kernel_rfl) (by kernel_rfl)
theorem uw{H:Type}{enc:TypeId×Value→H}{C:Checked}{a:Assume}{os:Os}{f:FuncId}{fn:Func}{s:ChangeSpec}{conds:List PathCond}{apart fresh handsOn again:Bool}{X:World→Array Value→Prop}
 (hX:∀(w w':World) (args:Array Value),w.heap=w'.heap→X w args→X w' args)
 (own:ownKnob C.prog.godebug=none) (started:os.Started) (noInit:C.prog.inits.idxOf? f=none) (hfn:C.prog.funcs[f]? =some fn)
 (witness:∃(w:World) (tape:Tape) (i:Input),w.os=os∧(w.forCall tape i).Shaped C.prog∧i.vars= []∧Input.okWide C.prog (w.forCall tape i) .any w.heap.size f i∧
   ((s.pre enc C.prog fn conds apart (w.forCall tape i).memory i.args∧X (w.forCall tape i).memory i.args)∧sizedMet enc C.prog fn (OpenSpec.ofChange s) apart (w.forCall tape i).memory i.args)∧a.holds C.prog (lone (Frame.enter C.prog f i.args .normal) [] (w.forCall tape i)))
 (contract:∀(W:World) (base:Nat) (args:Array Value) (ds gs:List (DataW H)) (before:List MemPlace),
   (∀(j:Nat) t v,fn.params[j]? =some t→args[j]? =some v→Value.okWide C.prog W .any base t v)→
   DataW.Whole enc C.prog fn.params.toList s.vars apart W args.toList ds gs before→
   conds.all (PathCond.test C.prog ⟨fn.params.toList,ds,s.plain.varTypes C.prog,gs⟩)=true→
   (DataW.weightsEach C.prog (fn.params.toList++s.plain.varTypes C.prog) (ds++gs)).all (·≤reachBytes)=true→X W args→W.ShapedOpen C.prog→
   a.holds C.prog (lone (Frame.enter C.prog f args .normal) [] W)→
   Calls C.prog f args W fun e W'=>∃v,e= .returned v∧s.post enc C.prog fn apart fresh handsOn again W args v W'):
 ReturnsInHanded a C os f .any (fun w args=>(s.pre enc C.prog fn conds apart w args∧X w args)∧sizedMet enc C.prog fn (OpenSpec.ofChange s) apart w args) (s.post enc C.prog fn apart fresh handsOn again):=by
 refine returnsInHanded_of_calls own started noInit witness ?_;intro w tape i _ hsh _ hok hpre hholds;obtain⟨_,_,_,fn',hfn',_,_,_,_,hval⟩:=hok;have e:fn'=fn:=Option.some.inj (hfn'.symm.trans hfn);subst e;obtain⟨⟨⟨ds,gs,before,hw,hc⟩,hx⟩,hz⟩:=hpre;have hw':=DataW.Whole.of_heap (w':=w.forCall tape i) (by rfl) hw;refine(contract (w.forCall tape i) w.heap.size i.args ds gs before hval hw' hc (hz.weights hw) (hX _ _ _ (by rfl) hx) hsh hholds).mono fun e W' ⟨v,he,hp⟩=> ?_
 subst he;exact ChangeSpec.post_blind hp
end Go.Proofs.YtfengkmaphbofaaGreatDoor
