/-
  Texts joined: Lgc.
-/
import Derived.Test.YtfjmoicellpnhaaGreatJV
set_option maxHeartbeats 8000000
namespace Go.Proofs.YtfjmoicellpnhaaGreat
open Go.RowKit
set_option linter.unusedSimpArgs false
set_option linter.unusedVariables false
attribute [local irreducible] sw sd sn
def GX :IC:=(zd_ [zj_ 2 false] (.seq (zd_ [zk_ 3 1] (.block 0 (.loop (.seq (zd_ [zw_ 4 3,zw_ 5 0,zf_ 6 false 5,zl_ 7 .lss 4 6] (.cond (.t 7) .skip (.exit 0))) (.seq (.block 1 (.seq (.reg true [zw_ 10 0,zw_ 11 3,zm_ 12 .sub 11 1,ze_ 13 1 10 12,zs_ 14 1 13,zw_ 15 0,zw_ 16 3,ze_ 17 1 15 16,zs_ 18 1 17,zl_ 19 .geq 14 18]) (.cond (.t 19) (zd_ [zj_ 2 false] .ret) .skip))) (.reg false [zw_ 8 3,zm_ 9 .add 8 1,zw_ 3 9])))))) (zd_ [zj_ 2 true] .ret)))
theorem Jw :ay Tryz.prog (Tryz.f46.body.getD .skip)=some GX:=by kernel_rfl
theorem TT(xs:List Int)(hx:xs.length≤1048576)(hs:xs.Pairwise (· < ·)):aV Tryz.prog 46 [.sl (xs.map li)] (.c false [.raw (.bool true)]):=by
 refine dR (fn:=Tryz.f46) (t:=2) (hc:=Jw) (h:= ?_)
 unfold GX;refine zb_ ?_
 change AWP _ _ _ (st0 20 _)
 refine sS tdX ?_
 repeat' (first|(refine hq_ ?_;clear hK K)|refine ca_ ?_ ?_|((with_reducible refine ak ?_);refine ss tdE ?_)|((with_reducible refine bf ?_);refine sx tdE ?_)|refine nv ?_|(refine rD ?_;intro K hK)|(refine c2_ ?_ ?_<;>(intro hb hb';try(exfalso;omega)))|exact aA|exact au)
 refine aW (X:=Nat) (fun z=> [.k,.d,.d,.v (.c false [.raw (.int .i64 ((z:Nat)))]),.d,.d,.d,.d,.d,.d,.d,.d,.d,.d,.d,.d,.d,.d,.d,.d]) (fun _=> []) (fun _ _=> []) (fun z=>1≤z) (fun z=>xs.length - z) 1 (Nat.le_refl _) ?_ ?_
 ·simp[aO,aX,aK,aN,AV.fits,AC.fits,FB,aG]
 rintro z hz
 simp only[FB,aG]
 by_cases hlt:z<xs.length
 ·have hT:decide ((z:Int)<(xs.length:Int))=true:=decide_eq_true (by omega)
  have hw1:(z:Int)+1=((z+1:Nat):Int):=by omega
  have hw2:(z:Int) - 1=((z - 1:Nat):Int):=by omega
  have hl0:z - 1<xs.length:=by omega
  have g1:idx (xs.map li) (some ((z - 1:Nat):Int))=some (li xs[z - 1]):=dD li xs hl0
  have g2:idx (xs.map li) (some (z:Int))=some (li xs[z]):=dD li xs hlt
  have hq:decide (xs[z - 1]≥xs[z])=false:=by
   have hp:xs[z - 1]<xs[z]:=List.pairwise_iff_getElem.1 hs _ _ hl0 hlt (by omega)
   exact decide_eq_false (by omega)
  repeat' (first|(refine hq_ ?_;clear hK K)|refine ca_ ?_ ?_|((with_reducible refine ak ?_);refine ss (aho tdE (aho hT (aho hw1 (aho hw2 (aho g1 (aho g2 hq)))))) ?_)|((with_reducible refine bf ?_);refine sx (aho tdE (aho hT (aho hw1 (aho hw2 (aho g1 (aho g2 hq)))))) ?_)|refine nv ?_|(refine rD ?_;intro K hK)|(refine c2_ ?_ ?_<;>(intro hb hb';try(exfalso;omega)))|exact aA|exact au)
  all_goals first
   |exact dQ _
   | (refine aS (z+1) ?_ (show 1≤z+1 by omega) (show xs.length - (z+1)<xs.length - z by omega)
      simp[aO,aX,aK,aN,AV.fits,AC.fits,FB,aG]
      done)
 ·have hT:decide ((z:Int)<(xs.length:Int))=false:=decide_eq_false (by omega)
  repeat' (first|(refine hq_ ?_;clear hK K)|refine ca_ ?_ ?_|((with_reducible refine ak ?_);refine ss (aho tdE hT) ?_)|((with_reducible refine bf ?_);refine sx (aho tdE hT) ?_)|refine nv ?_|(refine rD ?_;intro K hK)|(refine c2_ ?_ ?_<;>(intro hb hb';try(exfalso;omega)))|exact aA|exact au)
  all_goals exact bC ⟨_,rfl,⟨rfl,trivial⟩⟩
def Qu :IC:=(zd_ [zk_ 4 0] (zd_ [zk_ 5 0] (.seq (zd_ [zk_ 6 0] (.block 0 (.loop (.seq (zd_ [zw_ 7 6,zw_ 8 0,zf_ 9 false 8,zl_ 10 .lss 7 9] (.cond (.t 10) .skip (.exit 0))) (.seq (.block 1 (zd_ [zw_ 13 0,zw_ 14 6,ze_ 15 1 13 14,zs_ 16 1 15,zw_ 17 1,zl_ 18 .eql 16 17] (.cond (.t 18) (.reg false [zw_ 19 5,zm_ 20 .add 19 1,zw_ 5 20]) .skip))) (.reg false [zw_ 11 6,zm_ 12 .add 11 1,zw_ 6 12])))))) (zd_ [zw_ 21 5,zw_ 4 21] .ret))))
theorem Qs :ay Tryz.prog (Tryz.f20.body.getD .skip)=some Qu:=by kernel_rfl
theorem OC(xs:List Int)(y:Int)(hx:xs.length≤1048576):aV Tryz.prog 20 [.sl (xs.map li),li y] (.c false [.raw (.int .i64 ((xs.count y:Nat):Int))]):=by
 refine dR (fn:=Tryz.f20) (t:=4) (hc:=Qs) (h:= ?_)
 unfold Qu;refine zb_ ?_
 change AWP _ _ _ (st0 22 _)
 refine sS tdX ?_
 repeat' (first|(refine rg_ ?_;intro K hK)|(refine hq_ ?_;clear hK K)|refine ca_ ?_ ?_|((with_reducible refine ak ?_);refine ss tdE ?_)|refine nv ?_|(refine c2_ ?_ ?_<;>(intro hb hb';try(exfalso;omega)))|exact aA|exact au)
 refine aW (X:=Nat) (fun z=> [.k,.k,.d,.d,.d,.v (.c false [.raw (.int .i64 (((xs.take z).count y:Nat)))]),.v (.c false [.raw (.int .i64 ((z:Nat)))]),.d,.d,.d,.d,.d,.d,.d,.d,.d,.d,.d,.d,.d,.d,.d]) (fun _=> []) (fun _ _=> []) (fun z=>z≤xs.length) (fun z=>xs.length - z) 0 (Nat.zero_le _) ?_ ?_
 ·simp[aO,aX,aK,aN,AV.fits,AC.fits,FB,aG]
 rintro z hz
 simp only[FB,aG]
 have hcl:=List.count_le_length (a:=y) (l:=xs.take z)
 rw[List.length_take]at hcl
 by_cases hlt:z<xs.length
 ·have hT:decide ((z:Int)<(xs.length:Int))=true:=decide_eq_true (by omega)
  have hw1:(z:Int)+1=((z+1:Nat):Int):=by omega
  have g1:idx (xs.map li) (some (z:Int))=some (li xs[z]):=dD li xs hlt
  have hts:=List.take_succ_eq_append_getElem hlt
  by_cases he:xs[z]=y
  ·have hq:(xs[z]==y)=true:=by simp[he]
   have hc:(xs.take (z+1)).count y=(xs.take z).count y+1:=by rw[hts,List.count_append];simp[he]
   have hw2:(((xs.take z).count y:Nat):Int)+1=(((xs.take (z+1)).count y:Nat):Int):=by rw[hc];omega
   repeat' (first|(refine rg_ ?_;intro K hK)|(refine hq_ ?_;clear hK K)|refine ca_ ?_ ?_|((with_reducible refine ak ?_);refine ss (aho tdE (aho hT (aho hw1 (aho hw2 (aho g1 hq))))) ?_)|refine nv ?_|(refine c2_ ?_ ?_<;>(intro hb hb';try(exfalso;omega)))|exact aA|exact au)
   all_goals first
    |exact dQ _
    | (refine aS (z+1) ?_ (show z+1≤xs.length by omega) (show xs.length - (z+1)<xs.length - z by omega)
       simp[aO,aX,aK,aN,AV.fits,AC.fits,FB,aG]
       done)
  ·have hq:(xs[z]==y)=false:=by simp[he]
   have hc:(xs.take (z+1)).count y=(xs.take z).count y:=by rw[hts,List.count_append];simp[he]
   have hw2:(((xs.take z).count y:Nat):Int)=(((xs.take (z+1)).count y:Nat):Int):=by rw[hc]
   repeat' (first|(refine rg_ ?_;intro K hK)|(refine hq_ ?_;clear hK K)|refine ca_ ?_ ?_|((with_reducible refine ak ?_);refine ss (aho tdE (aho hT (aho hw1 (aho g1 hq)))) ?_)|refine nv ?_|(refine c2_ ?_ ?_<;>(intro hb hb';try(exfalso;omega)))|exact aA|exact au)
   all_goals first
    |exact dQ _
    | (refine aS (z+1) ?_ (show z+1≤xs.length by omega) (show xs.length - (z+1)<xs.length - z by omega)
       simp[hc,aO,aX,aK,aN,AV.fits,AC.fits,FB,aG]
       done)
 ·have hT:decide ((z:Int)<(xs.length:Int))=false:=decide_eq_false (by omega)
  rw[List.take_of_length_le (by omega:xs.length≤z)]
  repeat' (first|(refine rg_ ?_;intro K hK)|(refine hq_ ?_;clear hK K)|refine ca_ ?_ ?_|((with_reducible refine ak ?_);refine ss (aho tdE hT) ?_)|refine nv ?_|(refine c2_ ?_ ?_<;>(intro hb hb';try(exfalso;omega)))|exact aA|exact au)
  all_goals exact bC ⟨_,rfl,⟨rfl,trivial⟩⟩
def ab2 :IC:=(zd_ [zj_ 4 false] (zd_ [zw_ 5 0,zw_ 6 1,zp_ 7 20 5 6,zm_ 8 .gtr 7 0,zw_ 4 8] .ret))
theorem Zc :ay Tryz.prog (Tryz.f18.body.getD .skip)=some ab2:=by kernel_rfl
theorem U8(xs:List Int)(y:Int)(hx:xs.length≤1048576):aV Tryz.prog 18 [.sl (xs.map li),li y] (.c false [.raw (.bool (decide (y∈xs)))]):=by
 refine dR (fn:=Tryz.f18) (t:=4) (hc:=Zc) (h:= ?_)
 unfold ab2;refine zb_ ?_
 change AWP _ _ _ (st0 9 _)
 refine sS tdX ?_
 have hI:=OC xs y hx
 have hh:decide (((xs.count y:Nat):Int) > 0)=decide (y∈xs):=by
  rw[decide_eq_decide]
  exact⟨fun h=>List.count_pos_iff.1 (by omega),fun h=>by have:=List.count_pos_iff.2 h;omega⟩
 repeat' (first|(refine rg_ ?_;intro K hK)|(refine hq_ ?_;clear hK K)|refine ca_ ?_ ?_|((with_reducible refine aB ?_);first|refine aI (hc:=hI) (h:= ?_))|((with_reducible refine ak ?_);refine ss tdE ?_)|refine nv ?_|(refine c2_ ?_ ?_<;>(intro hb hb';try(exfalso;omega)))|exact aA|exact au)
 exact bC ⟨_,rfl,⟨by simp only[gZ,hh],trivial⟩⟩
end Go.Proofs.YtfjmoicellpnhaaGreat
