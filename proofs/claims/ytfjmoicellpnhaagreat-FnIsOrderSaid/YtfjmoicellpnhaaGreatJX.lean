/-
  Texts joined: Lgc.
-/
import Derived.Test.YtfjmoicellpnhaaGreatJV
set_option maxHeartbeats 8000000
set_option linter.unusedSimpArgs false
set_option linter.unusedVariables false
namespace Go.Proofs.YtfjmoicellpnhaaGreat
open Go.RowKit
attribute [local irreducible] sw sd sn
def RJ :IC:=(zd_ [zk_ 4 0] (zd_ [zk_ 5 0] (.seq (zd_ [zk_ 6 0] (.block 0 (.loop (.seq (zd_ [zw_ 7 6,zw_ 8 0,zf_ 9 false 8,zl_ 10 .lss 7 9] (.cond (.t 10) .skip (.exit 0))) (.seq (.block 1 (zd_ [zw_ 13 0,zw_ 14 6,ze_ 15 1 13 14,zs_ 16 1 15,zw_ 17 1,zl_ 18 .eql 16 17] (.cond (.t 18) (.reg false [zw_ 19 5,zm_ 20 .add 19 1,zw_ 5 20]) .skip))) (.reg false [zw_ 11 6,zm_ 12 .add 11 1,zw_ 6 12])))))) (zd_ [zw_ 21 5,zw_ 4 21] .ret))))
theorem RI :ak Tryz.prog (Tryz.f20.body.getD .skip)=some RJ:=by kernel_rfl
theorem abo(xs:List Int)(y:Int)(hx:xs.length≤1048576):aI Tryz.prog 20 [.sl (xs.map li),li y] (.c false [.raw (.int .i64 ((xs.count y:Nat):Int))]):=by
 refine aY (fn:=Tryz.f20) (t:=4) (hc:=RI) (h:= ?_);unfold RJ;refine zb_ ?_;change AWP _ _ _ (st0 22 _);refine sS tdX ?_
 repeat' (first|(refine rg_ ?_;intro K hK)|(refine hq_ ?_;clear hK K)|refine ca_ ?_ ?_|refine sz_ tdE ?_|refine nv ?_|(refine c2_ ?_ ?_<;>(intro hb hb';try(exfalso;omega)))|exact bq_|fail)
 refine aQ (X:=Nat) (fun z=> [.k,.k,.d,.d,.d,.v (.c false [.raw (.int .i64 (((xs.take z).count y:Nat)))]),.v (.c false [.raw (.int .i64 ((z:Nat)))])]) (fun _=> []) (fun _ _=> []) (fun z=>z≤xs.length) (fun z=>xs.length - z) 0 (Nat.zero_le _) ?_ ?_
 ·simp[aG,aU,aC,aF,AV.fits,AC.fits,FB,aB]
 rintro z hz;simp only[FB,aB];have hcl:=List.count_le_length (a:=y) (l:=xs.take z);rw[List.length_take]at hcl;by_cases hlt:z<xs.length
 ·have hT:decide ((z:Int)<(xs.length:Int))=true:=decide_eq_true (by omega);have hw1:(z:Int)+1=((z+1:Nat):Int):=by omega
  have g1:idx (xs.map li) (some (z:Int))=some (li xs[z]):=bU li xs hlt;have hts:=List.take_succ_eq_append_getElem hlt;by_cases he:xs[z]=y
  ·have hq:(xs[z]==y)=true:=by simp[he]
   have hc:(xs.take (z+1)).count y=(xs.take z).count y+1:=by rw[hts,List.count_append];simp[he]
   have hw2:(((xs.take z).count y:Nat):Int)+1=(((xs.take (z+1)).count y:Nat):Int):=by rw[hc];omega
   repeat' (first|(refine rg_ ?_;intro K hK)|(refine hq_ ?_;clear hK K)|refine ca_ ?_ ?_|refine sz_ (a6_ tdE hT hw1 hw2 g1 hq) ?_|refine nv ?_|(refine c2_ ?_ ?_<;>(intro hb hb';try(exfalso;omega)))|exact bq_|fail)
   all_goals first
    |exact eP _
    | (refine aP (z+1) ?_ (show z+1≤xs.length by omega) (show xs.length - (z+1)<xs.length - z by omega)
       simp[aG,aU,aC,aF,AV.fits,AC.fits,FB,aB]
       done)
  ·have hq:(xs[z]==y)=false:=by simp[he]
   have hc:(xs.take (z+1)).count y=(xs.take z).count y:=by rw[hts,List.count_append];simp[he]
   have hw2:(((xs.take z).count y:Nat):Int)=(((xs.take (z+1)).count y:Nat):Int):=by rw[hc]
   repeat' (first|(refine rg_ ?_;intro K hK)|(refine hq_ ?_;clear hK K)|refine ca_ ?_ ?_|refine sz_ (a5_ tdE hT hw1 g1 hq) ?_|refine nv ?_|(refine c2_ ?_ ?_<;>(intro hb hb';try(exfalso;omega)))|exact bq_|fail)
   all_goals first
    |exact eP _
    | (refine aP (z+1) ?_ (show z+1≤xs.length by omega) (show xs.length - (z+1)<xs.length - z by omega)
       simp[hc,aG,aU,aC,aF,AV.fits,AC.fits,FB,aB]
       done)
 ·have hT:decide ((z:Int)<(xs.length:Int))=false:=decide_eq_false (by omega);rw[List.take_of_length_le (by omega:xs.length≤z)]
  repeat' (first|(refine rg_ ?_;intro K hK)|(refine hq_ ?_;clear hK K)|refine ca_ ?_ ?_|refine sz_ (aiX tdE hT) ?_|refine nv ?_|(refine c2_ ?_ ?_<;>(intro hb hb';try(exfalso;omega)))|exact bq_|fail)
  all_goals exact aS ⟨_,rfl,⟨rfl,trivial⟩⟩
end Go.Proofs.YtfjmoicellpnhaaGreat
