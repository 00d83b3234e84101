/-
  Texts joined: Lgc.
-/
import Derived.Test.YtfjmoicellpnhaaGreatJV
set_option maxHeartbeats 8000000
namespace Go.Proofs.YtfjmoicellpnhaaGreat
open Go.RowKit
open List renaming take_succ_eq_append_getElem→a_,take_of_length_le→b_,count_pos_iff→c_,count_append→d_
set_option linter.unusedSimpArgs false
set_option linter.unusedVariables false
def Jk :IC:=(zd_ [zj_ 4 false] (.seq (zd_ [zw_ 6 0,zf_ 7 false 6,zw_ 8 1,zf_ 9 false 8,zl_ 10 .neq 7 9] (.cond (.t 10) (zd_ [zj_ 4 false] .ret) .skip)) (.seq (zd_ [zk_ 5 0] (.block 0 (.loop (.seq (zd_ [zw_ 11 5,zw_ 12 0,zf_ 13 false 12,zl_ 14 .lss 11 13] (.cond (.t 14) .skip (.exit 0))) (.seq (.block 1 (.seq (.reg true [zw_ 17 0,zw_ 18 5,ze_ 19 1 17 18,zs_ 20 1 19,zw_ 21 1,zw_ 22 5,ze_ 23 1 21 22,zs_ 24 1 23,zl_ 25 .neq 20 24]) (.cond (.t 25) (zd_ [zj_ 4 false] .ret) .skip))) (.reg false [zw_ 15 5,zm_ 16 .add 15 1,zw_ 5 16])))))) (zd_ [zj_ 4 true] .ret))))
theorem Lu :aF Tryz.prog (Tryz.f32.body.getD .skip)=some Jk:=by kernel_rfl
theorem Xx(xs ys:List ByteArray)(hx:xs.length≤1048576)(hy:ys.length≤1048576):aV Tryz.prog 32 [.sl (xs.map ls),.sl (ys.map ls)] (.c false [.raw (.bool (decide (xs=ys)))]):=by
 refine dS (fn:=Tryz.f32) (t:=4) (by kernel_rfl) (by kernel_rfl) (by kernel_rfl) Lu ?_
 unfold Jk;refine zb_ ?_
 change AWP _ _ _ (st0 26 _)
 refine sS tdX ?_
 by_cases hl:xs.length=ys.length
 ·have hne:((xs.length:Int) !=(ys.length:Int))=false:=by simp[hl]
  repeat' (first|((with_reducible refine hK _ ?_);clear hK K)|(with_reducible refine aj ?_ ?_)|((with_reducible refine aB ?_);refine ss (afY tdE hne) ?_)|((with_reducible refine bD ?_);refine sx (afY tdE hne) ?_)|refine nv ?_|(refine rD ?_;intro K hK)|(with_reducible (refine cS rfl ?_ ?_)<;>(intro hb hb';try(exfalso;omega)))|exact aG|exact aC)
  refine bF (X:=Nat) (fun z=> [.k,.k,.d,.d,.d,.v (.c false [.raw (.int .i64 ((z:Nat)))]),.d,.d,.d,.d,.d,.d,.d,.d,.d,.d,.d,.d,.d,.d,.d,.d,.d,.d,.d,.d]) (fun _=> []) (fun _ _=> []) (fun z=>z≤xs.length∧xs.take z=ys.take z) (fun z=>xs.length - z) 0 ⟨Nat.zero_le _,rfl⟩ ?_ ?_
  ·simp[bf,bI,aY,aZ,AV.fits,AC.fits,FB,aW]
  rintro z ⟨hz,htk⟩
  simp only[FB,aW]
  by_cases hlt:z<xs.length
  ·have hT:decide ((z:Int)<(xs.length:Int))=true:=decide_eq_true (by omega)
   have hw1:(z:Int)+1=((z+1:Nat):Int):=by omega
   have hlt2:z<ys.length:=by omega
   have g1:idx (xs.map ls) (some (z:Int))=some (ls xs[z]):=dH ls xs hlt
   have g2:idx (ys.map ls) (some (z:Int))=some (ls ys[z]):=dH ls ys hlt2
   by_cases he:xs[z]=ys[z]
   ·have hq:(!((xs[z]).toList==(ys[z]).toList))=false:=by simp[he]
    repeat' (first|((with_reducible refine hK _ ?_);clear hK K)|(with_reducible refine aj ?_ ?_)|((with_reducible refine aB ?_);refine ss (afY tdE (afY hT (afY hw1 (afY g1 (afY g2 hq))))) ?_)|((with_reducible refine bD ?_);refine sx (afY tdE (afY hT (afY hw1 (afY g1 (afY g2 hq))))) ?_)|refine nv ?_|(refine rD ?_;intro K hK)|(with_reducible (refine cS rfl ?_ ?_)<;>(intro hb hb';try(exfalso;omega)))|exact aG|exact aC)
    all_goals first
     |exact cZ _
     | (refine bC (z+1) ?_ ⟨by omega,by rw[a_ hlt,a_ hlt2,htk,he]⟩ (show xs.length - (z+1)<xs.length - z by omega)
        simp[bf,bI,aY,aZ,AV.fits,AC.fits,FB,aW]
        done)
   ·have hq:(!((xs[z]).toList==(ys[z]).toList))=true:=by
     cases hh:((xs[z]).toList==(ys[z]).toList)
     ·rfl
     ·exact absurd (lG (by simpa using hh)) he
    have hd:decide (xs=ys)=false:=decide_eq_false (fun e=>he (by simp[e]))
    repeat' (first|((with_reducible refine hK _ ?_);clear hK K)|(with_reducible refine aj ?_ ?_)|((with_reducible refine aB ?_);refine ss (afY tdE (afY hT (afY hw1 (afY g1 (afY g2 hq))))) ?_)|((with_reducible refine bD ?_);refine sx (afY tdE (afY hT (afY hw1 (afY g1 (afY g2 hq))))) ?_)|refine nv ?_|(refine rD ?_;intro K hK)|(with_reducible (refine cS rfl ?_ ?_)<;>(intro hb hb';try(exfalso;omega)))|exact aG|exact aC)
    all_goals first
     |exact cZ _
     |exact bP ⟨_,rfl,⟨by simp[gy,hd],trivial⟩⟩
  ·have hT:decide ((z:Int)<(xs.length:Int))=false:=decide_eq_false (by omega)
   have hd:decide (xs=ys)=true:=decide_eq_true (by rw[b_ (by omega),b_ (by omega)]at htk;exact htk)
   repeat' (first|((with_reducible refine hK _ ?_);clear hK K)|(with_reducible refine aj ?_ ?_)|((with_reducible refine aB ?_);refine ss (afY tdE hT) ?_)|((with_reducible refine bD ?_);refine sx (afY tdE hT) ?_)|refine nv ?_|(refine rD ?_;intro K hK)|(with_reducible (refine cS rfl ?_ ?_)<;>(intro hb hb';try(exfalso;omega)))|exact aG|exact aC)
   all_goals exact bP ⟨_,rfl,⟨by simp[gy,hd],trivial⟩⟩
 ·have hne:((xs.length:Int) !=(ys.length:Int))=true:=by simp;omega
  have hd:decide (xs=ys)=false:=decide_eq_false (fun e=>hl (by rw[e]))
  repeat' (first|((with_reducible refine hK _ ?_);clear hK K)|(with_reducible refine aj ?_ ?_)|((with_reducible refine aB ?_);refine ss (afY tdE hne) ?_)|((with_reducible refine bD ?_);refine sx (afY tdE hne) ?_)|refine nv ?_|(refine rD ?_;intro K hK)|(with_reducible (refine cS rfl ?_ ?_)<;>(intro hb hb';try(exfalso;omega)))|exact aG|exact aC)
  all_goals exact bP ⟨_,rfl,⟨by simp[gy,hd],trivial⟩⟩
def Jl :IC:=(zd_ [zj_ 2 false] (.seq (zd_ [zk_ 3 1] (.block 0 (.loop (.seq (zd_ [zw_ 4 3,zw_ 5 0,zf_ 6 false 5,zl_ 7 .lss 4 6] (.cond (.t 7) .skip (.exit 0))) (.seq (.block 1 (.seq (.reg true [zw_ 10 0,zw_ 11 3,zm_ 12 .sub 11 1,ze_ 13 1 10 12,zs_ 14 1 13,zw_ 15 0,zw_ 16 3,ze_ 17 1 15 16,zs_ 18 1 17,zl_ 19 .geq 14 18]) (.cond (.t 19) (zd_ [zj_ 2 false] .ret) .skip))) (.reg false [zw_ 8 3,zm_ 9 .add 8 1,zw_ 3 9])))))) (zd_ [zj_ 2 true] .ret)))
theorem LC :aF Tryz.prog (Tryz.f34.body.getD .skip)=some Jl:=by kernel_rfl
theorem XC(xs:List ByteArray)(hx:xs.length≤1048576)(hs:xs.Pairwise LtB):aV Tryz.prog 34 [.sl (xs.map ls)] (.c false [.raw (.bool true)]):=by
 refine dS (fn:=Tryz.f34) (t:=2) (by kernel_rfl) (by kernel_rfl) (by kernel_rfl) LC ?_
 unfold Jl;refine zb_ ?_
 change AWP _ _ _ (st0 20 _)
 refine sS tdX ?_
 repeat' (first|((with_reducible refine hK _ ?_);clear hK K)|(with_reducible refine aj ?_ ?_)|((with_reducible refine aB ?_);refine ss tdE ?_)|((with_reducible refine bD ?_);refine sx tdE ?_)|refine nv ?_|(refine rD ?_;intro K hK)|(with_reducible (refine cS rfl ?_ ?_)<;>(intro hb hb';try(exfalso;omega)))|exact aG|exact aC)
 refine bF (X:=Nat) (fun z=> [.k,.d,.d,.v (.c false [.raw (.int .i64 ((z:Nat)))]),.d,.d,.d,.d,.d,.d,.d,.d,.d,.d,.d,.d,.d,.d,.d,.d]) (fun _=> []) (fun _ _=> []) (fun z=>1≤z) (fun z=>xs.length - z) 1 (Nat.le_refl _) ?_ ?_
 ·simp[bf,bI,aY,aZ,AV.fits,AC.fits,FB,aW]
 rintro z hz
 simp only[FB,aW]
 by_cases hlt:z<xs.length
 ·have hT:decide ((z:Int)<(xs.length:Int))=true:=decide_eq_true (by omega)
  have hw1:(z:Int)+1=((z+1:Nat):Int):=by omega
  have hw2:(z:Int) - 1=((z - 1:Nat):Int):=by omega
  have hl0:z - 1<xs.length:=by omega
  have g1:idx (xs.map ls) (some ((z - 1:Nat):Int))=some (ls xs[z - 1]):=dH ls xs hl0
  have g2:idx (xs.map ls) (some (z:Int))=some (ls xs[z]):=dH ls xs hlt
  have hq:(!Op.bytesLess (xs[z - 1]).toList (xs[z]).toList)=false:=by
   have hp:LtB xs[z - 1] xs[z]:=List.pairwise_iff_getElem.1 hs _ _ hl0 hlt (by omega)
   have:=Lh.2 hp;unfold ltS at this;simp[this]
  repeat' (first|((with_reducible refine hK _ ?_);clear hK K)|(with_reducible refine aj ?_ ?_)|((with_reducible refine aB ?_);refine ss (afY tdE (afY hT (afY hw1 (afY hw2 (afY g1 (afY g2 hq)))))) ?_)|((with_reducible refine bD ?_);refine sx (afY tdE (afY hT (afY hw1 (afY hw2 (afY g1 (afY g2 hq)))))) ?_)|refine nv ?_|(refine rD ?_;intro K hK)|(with_reducible (refine cS rfl ?_ ?_)<;>(intro hb hb';try(exfalso;omega)))|exact aG|exact aC)
  all_goals first
   |exact cZ _
   | (refine bC (z+1) ?_ (show 1≤z+1 by omega) (show xs.length - (z+1)<xs.length - z by omega)
      simp[bf,bI,aY,aZ,AV.fits,AC.fits,FB,aW]
      done)
 ·have hT:decide ((z:Int)<(xs.length:Int))=false:=decide_eq_false (by omega)
  repeat' (first|((with_reducible refine hK _ ?_);clear hK K)|(with_reducible refine aj ?_ ?_)|((with_reducible refine aB ?_);refine ss (afY tdE hT) ?_)|((with_reducible refine bD ?_);refine sx (afY tdE hT) ?_)|refine nv ?_|(refine rD ?_;intro K hK)|(with_reducible (refine cS rfl ?_ ?_)<;>(intro hb hb';try(exfalso;omega)))|exact aG|exact aC)
  all_goals exact bP ⟨_,rfl,⟨rfl,trivial⟩⟩
def O1 :IC:=(zd_ [zk_ 4 0] (zd_ [zk_ 5 0] (.seq (zd_ [zk_ 6 0] (.block 0 (.loop (.seq (zd_ [zw_ 7 6,zw_ 8 0,zf_ 9 false 8,zl_ 10 .lss 7 9] (.cond (.t 10) .skip (.exit 0))) (.seq (.block 1 (zd_ [zw_ 13 0,zw_ 14 6,ze_ 15 1 13 14,zs_ 16 1 15,zw_ 17 1,zl_ 18 .eql 16 17] (.cond (.t 18) (.reg false [zw_ 19 5,zm_ 20 .add 19 1,zw_ 5 20]) .skip))) (.reg false [zw_ 11 6,zm_ 12 .add 11 1,zw_ 6 12])))))) (zd_ [zw_ 21 5,zw_ 4 21] .ret))))
theorem OZ :aF Tryz.prog (Tryz.f20.body.getD .skip)=some O1:=by kernel_rfl
theorem YX(xs:List Int)(y:Int)(hx:xs.length≤1048576):aV Tryz.prog 20 [.sl (xs.map li),li y] (.c false [.raw (.int .i64 ((xs.count y:Nat):Int))]):=by
 refine dS (fn:=Tryz.f20) (t:=4) (by kernel_rfl) (by kernel_rfl) (by kernel_rfl) OZ ?_
 unfold O1;refine zb_ ?_
 change AWP _ _ _ (st0 22 _)
 refine sS tdX ?_
 repeat' (first|((with_reducible refine ak ?_);intro K hK)|((with_reducible refine hK _ ?_);clear hK K)|(with_reducible refine aj ?_ ?_)|((with_reducible refine aB ?_);refine ss tdE ?_)|refine nv ?_|(with_reducible (refine cS rfl ?_ ?_)<;>(intro hb hb';try(exfalso;omega)))|exact aG|exact aC)
 refine bF (X:=Nat) (fun z=> [.k,.k,.d,.d,.d,.v (.c false [.raw (.int .i64 (((xs.take z).count y:Nat)))]),.v (.c false [.raw (.int .i64 ((z:Nat)))]),.d,.d,.d,.d,.d,.d,.d,.d,.d,.d,.d,.d,.d,.d,.d]) (fun _=> []) (fun _ _=> []) (fun z=>z≤xs.length) (fun z=>xs.length - z) 0 (Nat.zero_le _) ?_ ?_
 ·simp[bf,bI,aY,aZ,AV.fits,AC.fits,FB,aW]
 rintro z hz
 simp only[FB,aW]
 have hcl:=List.count_le_length (a:=y) (l:=xs.take z)
 rw[List.length_take]at hcl
 by_cases hlt:z<xs.length
 ·have hT:decide ((z:Int)<(xs.length:Int))=true:=decide_eq_true (by omega)
  have hw1:(z:Int)+1=((z+1:Nat):Int):=by omega
  have g1:idx (xs.map li) (some (z:Int))=some (li xs[z]):=dH li xs hlt
  have hts:=a_ hlt
  by_cases he:xs[z]=y
  ·have hq:(xs[z]==y)=true:=by simp[he]
   have hc:(xs.take (z+1)).count y=(xs.take z).count y+1:=by rw[hts,d_];simp[he]
   have hw2:(((xs.take z).count y:Nat):Int)+1=(((xs.take (z+1)).count y:Nat):Int):=by rw[hc];omega
   repeat' (first|((with_reducible refine ak ?_);intro K hK)|((with_reducible refine hK _ ?_);clear hK K)|(with_reducible refine aj ?_ ?_)|((with_reducible refine aB ?_);refine ss (afY tdE (afY hT (afY hw1 (afY hw2 (afY g1 hq))))) ?_)|refine nv ?_|(with_reducible (refine cS rfl ?_ ?_)<;>(intro hb hb';try(exfalso;omega)))|exact aG|exact aC)
   all_goals first
    |exact iG _
    | (refine bC (z+1) ?_ (show z+1≤xs.length by omega) (show xs.length - (z+1)<xs.length - z by omega)
       simp[bf,bI,aY,aZ,AV.fits,AC.fits,FB,aW]
       done)
  ·have hq:(xs[z]==y)=false:=by simp[he]
   have hc:(xs.take (z+1)).count y=(xs.take z).count y:=by rw[hts,d_];simp[he]
   have hw2:(((xs.take z).count y:Nat):Int)=(((xs.take (z+1)).count y:Nat):Int):=by rw[hc]
   repeat' (first|((with_reducible refine ak ?_);intro K hK)|((with_reducible refine hK _ ?_);clear hK K)|(with_reducible refine aj ?_ ?_)|((with_reducible refine aB ?_);refine ss (afY tdE (afY hT (afY hw1 (afY g1 hq)))) ?_)|refine nv ?_|(with_reducible (refine cS rfl ?_ ?_)<;>(intro hb hb';try(exfalso;omega)))|exact aG|exact aC)
   all_goals first
    |exact iG _
    | (refine bC (z+1) ?_ (show z+1≤xs.length by omega) (show xs.length - (z+1)<xs.length - z by omega)
       simp[hc,bf,bI,aY,aZ,AV.fits,AC.fits,FB,aW]
       done)
 ·have hT:decide ((z:Int)<(xs.length:Int))=false:=decide_eq_false (by omega)
  rw[b_ (by omega:xs.length≤z)]
  repeat' (first|((with_reducible refine ak ?_);intro K hK)|((with_reducible refine hK _ ?_);clear hK K)|(with_reducible refine aj ?_ ?_)|((with_reducible refine aB ?_);refine ss (afY tdE hT) ?_)|refine nv ?_|(with_reducible (refine cS rfl ?_ ?_)<;>(intro hb hb';try(exfalso;omega)))|exact aG|exact aC)
  all_goals exact bP ⟨_,rfl,⟨rfl,trivial⟩⟩
def aaI :IC:=(zd_ [zj_ 4 false] (zd_ [zw_ 5 0,zw_ 6 1,zp_ 7 20 5 6,zm_ 8 .gtr 7 0,zw_ 4 8] .ret))
theorem X4 :aF Tryz.prog (Tryz.f18.body.getD .skip)=some aaI:=by kernel_rfl
theorem L8(xs:List Int)(y:Int)(hx:xs.length≤1048576):aV Tryz.prog 18 [.sl (xs.map li),li y] (.c false [.raw (.bool (decide (y∈xs)))]):=by
 refine dS (fn:=Tryz.f18) (t:=4) (by kernel_rfl) (by kernel_rfl) (by kernel_rfl) X4 ?_
 unfold aaI;refine zb_ ?_
 change AWP _ _ _ (st0 9 _)
 refine sS tdX ?_
 have hI:=YX xs y hx
 have hh:decide (((xs.count y:Nat):Int) > 0)=decide (y∈xs):=by
  rw[decide_eq_decide]
  exact⟨fun h=>c_.1 (by omega),fun h=>by have:=c_.2 h;omega⟩
 repeat' (first|((with_reducible refine ak ?_);intro K hK)|((with_reducible refine hK _ ?_);clear hK K)|(with_reducible refine aj ?_ ?_)|((with_reducible refine aI ?_);first|refine aO (hc:=hI) (h:= ?_))|((with_reducible refine aB ?_);refine ss tdE ?_)|refine nv ?_|(with_reducible (refine cS rfl ?_ ?_)<;>(intro hb hb';try(exfalso;omega)))|exact aG|exact aC)
 exact bP ⟨_,rfl,⟨by simp only[gy,hh],trivial⟩⟩
end Go.Proofs.YtfjmoicellpnhaaGreat
