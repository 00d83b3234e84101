/-
  The missing names.
-/
import Derived.Test.YtfjmoicellpnhaaGreatJX
import Derived.Test.YtfjmoicellpnhaaGreatJY
set_option maxHeartbeats 32000000
set_option maxRecDepth 100000
namespace Go.Proofs.YtfjmoicellpnhaaGreat
open Go.RowKit
open Nat renaming zero_le→a_
set_option linter.unusedSimpArgs false
set_option linter.unusedVariables false
def Jz :IC:=(zd_ [zz_ 2 (.mov (.k (.slice none 0 0)))] (zd_ [zw_ 3 0,zq_ 4 56 3,zq_ 5 65 4,zw_ 2 5] .ret))
theorem LW :aF Tryz.prog (Tryz.f30.body.getD .skip)=some Jz:=by kernel_rfl
theorem abx(l:List UInt8)(n:Bool)(hl:l.length≤1048576):jD Tryz.prog 30 [.c false [.sl n (l.map lu8)]] [] [] (fun r os' bs'=>∃(ps:List GPart) (i h:Int),ps.length≤9∧(∀p∈ps,p.toD.wt≤60000)∧(r= .c false [.sl false (ps.map pF)])∧os'= []∧bs'= [[.sl false (l.map lu8),.raw (.int .i64 i),.raw (.int .i64 h)]]):=by
 refine WT (fn:=Tryz.f30) (rs:= [.tmp 2]) (by kernel_rfl) (by kernel_rfl) (by kernel_rfl) LW ?_
 unfold Jz;refine zb_ ?_
 change dN _ _ _ _ (stS 6 _ _ _)
 refine sS tdX ?_
 repeat' (first|((with_reducible refine ak ?_);intro K hK)|((with_reducible refine hK _ ?_);clear hK K)|(with_reducible refine aj ?_ ?_)|((with_reducible refine aI ?_);first|((refine Aw (aeb l _ _ _ hl (by simp[AC.fits]) (by simp[AC.fits])) ?_);rintro _ _ _ ⟨rfl,rfl,h,rfl⟩)|(refine aH false (h:=(IX l _ _ (by first|assumption|omega) (by first|assumption|omega) hl)) (hK:= ?_);rintro _ _ _ ⟨⟨ps,hp1,hp2,rfl⟩,rfl,i,h,hi0,hi1,rfl⟩))|((with_reducible refine aB ?_);refine ss tdE ?_)|refine nv ?_|(with_reducible (refine cS rfl ?_ ?_)<;>(intro hb hb';try(exfalso;omega)))|exact aG|exact aC)
 all_goals exact⟨_,_,_,⟨ps,_,_,hp1,hp2,rfl,rfl,rfl⟩,a_ _,a_ _,trivial,⟨rfl,trivial⟩,rfl,rfl,rfl⟩
theorem RG(l:List GPart)(us:List ByteArray)(s:ByteArray):s∈kZ l us↔s∈us∧(tY (eY l s l.length)== -1)=true:=by
 unfold kZ
 rw[List.mem_filter]
theorem Fg(l:List GPart)(s:ByteArray):∀(k:Nat),k≤l.length→(s∈iU l k↔∃(j:Nat) (h:j<l.length),j<k∧s∈bn l[j]∧(tY (eY l s l.length)== -1)=true)
 | 0,_=>by
   simp[iU]
 | k+1,hk=>by
   rw[rZ l (by omega:k<l.length),List.mem_append,Fg l s k (by omega),RG]
   constructor
   ·rintro(⟨j,h,h1,h2⟩|h)
    ·exact⟨j,h,by omega,h2⟩
    ·exact⟨k,by omega,by omega,h⟩
   ·rintro⟨j,h,h1,h2⟩
    by_cases e:j=k
    ·subst e;exact Or.inr h2
    ·exact Or.inl ⟨j,h,by omega,h2⟩
/-- A used name stands among the missing ones exactly if no part, or none alone, defines it. -/
theorem aar{l:List GPart}{j:Nat}(h:j<l.length){s:ByteArray}(hs:s∈bn l[j]):mV (nT (iU l l.length)) s=(tY (eY l s l.length)== -1):=by
 rw[Bool.eq_iff_iff,Gl,Xm,Fg l s l.length (Nat.le_refl _)]
 exact⟨fun⟨_,_,_,_,e⟩=>e,fun e=>⟨j,h,h,hs,e⟩⟩
theorem KE(l:List ByteArray):(nT l).Pairwise LtB:=by
 unfold nT jG
 exact CZ List.Pairwise.nil
theorem aeJ{l:List GPart}(h1:l.length≤9)(h2:∀p∈l,p.toD.wt≤60000):l.length+D.wts (l.map GPart.toD)≤1048576:=by
 have:∀l:List GPart,(∀p∈l,p.toD.wt≤60000)→D.wts (l.map GPart.toD)≤60001*l.length:=by
  intro l
  induction l with
  |nil=>intro _;simp[D.wts]
  | cons x l ih=>
    intro h
    have e1:=h x (by simp)
    have e2:=ih fun p hp=>h p (List.mem_cons_of_mem _ hp)
    simp only[List.map_cons,D.wts,List.length_cons]
    omega
 have:=this l h2
 omega
theorem aeK(x:GPart)(b:Bool):(pF x).acs b=x.toD.acs b:=by rw[D.acs,Va,← D.acs]
theorem aeu(x:GPart)(hw:x.expr.toD.wt≤1048576):aV Tryz.prog 35 [pF x] (.c false [.sl true ((bn x).map ls)]):=aV.pF1 (uH (kS x hw))
theorem aeW(l:List GPart)(hw:l.length+D.wts (l.map GPart.toD)≤1048576):aV Tryz.prog 31 [.sl (l.map pF)] (.c false [.sl true ((nT (iU l l.length)).map ls)]):=aV.pF (uH (Dz l hw))
theorem aeV(l:List GPart)(hw:l.length+D.wts (l.map GPart.toD)≤1048576):aV Tryz.prog 33 [.sl (l.map pF)] (.c false [.sl true ((nT (iU l l.length)).map ls)]):=aV.pF (uH (Dy l hw))
def SX :IC:=(zd_ [zj_ 2 false] (.seq (zd_ [zw_ 8 0,zq_ 9 10 8] (.cond (.t 9) (zd_ [zj_ 2 true] .ret) .skip)) (zd_ [zw_ 10 0,zq_ 11 30 10,zw_ 3 11] (zd_ [zw_ 12 3,zq_ 13 31 12,zw_ 4 13] (.seq (zd_ [zw_ 14 4,zw_ 15 3,zq_ 16 33 15,zp_ 17 32 14 16,zz_ 18 (.not (.t 17)),zw_ 19 18,zu_ 20 19 4,zx_ 21 19 (.call 34 [(.t 20)]),zx_ 22 19 (.not (.t 21)),zg_ 23 19 true 22] (.cond (.t 23) (zd_ [zj_ 2 false] .ret) .skip)) (.seq (zd_ [zk_ 5 0] (.block 0 (.loop (.seq (zd_ [zw_ 24 5,zw_ 25 3,zf_ 26 false 25,zl_ 27 .lss 24 26] (.cond (.t 27) .skip (.exit 0))) (.seq (.block 1 (zd_ [zw_ 30 3,zw_ 31 5,ze_ 32 14 30 31,zr_ 33 14 32,zq_ 34 35 33,zw_ 6 34] (zd_ [zk_ 7 0] (.block 2 (.loop (.seq (zd_ [zw_ 35 7,zw_ 36 6,zf_ 37 false 36,zl_ 38 .lss 35 37] (.cond (.t 38) .skip (.exit 2))) (.seq (.block 3 (.seq (.regN true [] [zw_ 41 4,zw_ 42 6,zw_ 43 7,ze_ 44 1 42 43,zs_ 45 1 44,zp_ 46 26 41 45,zw_ 47 3,zw_ 48 6,zw_ 49 7,ze_ 50 1 48 49,zs_ 51 1 50,zp_ 52 22 47 51,zm_ 53 .eql 52 (-1),zz_ 54 (.beq true (.t 46) (.t 53))]) (.cond (.t 54) (zd_ [zj_ 2 false] .ret) .skip))) (.reg false [zw_ 39 7,zm_ 40 .add 39 1,zw_ 7 40])))))))) (.reg false [zw_ 28 5,zm_ 29 .add 28 1,zw_ 5 29])))))) (zd_ [zj_ 2 true] .ret)))))))
theorem Jq :aF Tryz.prog (Tryz.f5.body.getD .skip)=some SX:=by kernel_rfl
theorem XU(l:List UInt8)(hl:l.length≤1048576):aV Tryz.prog 5 [.sl (l.map lu8)] (.c false [.raw (.bool (true))]):=by
 refine dS (fn:=Tryz.f5) (t:=2) (by kernel_rfl) (by kernel_rfl) (by kernel_rfl) Jq ?_
 unfold SX;refine zb_ ?_
 change AWP _ _ _ (st0 55 _)
 refine sS tdX ?_
 have hB:=ML l
 rw[decide_eq_false (by omega:¬(l.length:Int) > 1048576)]at hB
 repeat' (first|((with_reducible refine hK _ ?_);clear hK K)|(with_reducible refine aj ?_ ?_)|((with_reducible refine gi ?_);first|(refine ay ?_ ?_;rfl)|(refine aA ?_ ?_;(rfl;refine gF ?_))|((with_reducible refine gS rfl ?_ ?_)<;>(intro hb hb';try(exfalso;omega))))|((with_reducible refine gxi ?_);first|(refine aQ ?_ ?_;rfl)|(refine aS ?_ ?_;(rfl;refine gxF ?_))|((with_reducible refine gxS rfl ?_ ?_)<;>(intro hb hb';try(exfalso;omega))))|((with_reducible refine aI ?_);first|refine aO (hc:=hB) (h:= ?_)|((refine Aw (abx l _ hl) ?_);rintro _ _ _ ⟨ps,i,h,hp1,hp2,rfl,rfl,rfl⟩))|((with_reducible refine aB ?_);refine ss tdE ?_)|((with_reducible refine bD ?_);refine sx tdE ?_)|refine nv ?_|(refine rD ?_;intro K hK)|(with_reducible (refine cS rfl ?_ ?_)<;>(intro hb hb';try(exfalso;omega)))|exact aG|exact aC)
 have hn:ps.length≤1048576:=by omega
 have hw:=aeJ hp1 hp2
 have m1:=aeW ps hw
 have m2:=aeV ps hw
 have hl1:=Bg (iU ps ps.length)
 have hl2:=yT ps
 obtain⟨ml,hml⟩:∃ml,ml=nT (iU ps ps.length):=⟨_,rfl⟩
 have s1:=Xx ml ml (by rw[hml];omega) (by rw[hml];omega)
 simp only[decide_true]at s1
 have s2:=XC ml (by rw[hml];omega) (by rw[hml];exact KE _)
 have hml9:ml.length≤1048576:=by rw[hml];omega
 have hmi:∀{j:Nat} (h:j<ps.length) {s:ByteArray},s∈bn ps[j]→mV ml s=(tY (eY ps s ps.length)== -1):=by intro j h s hs;rw[hml];exact aar h hs
 rw[← hml]at m1 m2
 clear hml hl1 hl2
 repeat' (first|((with_reducible refine hK _ ?_);clear hK K)|(with_reducible refine aj ?_ ?_)|((with_reducible refine gi ?_);first|(refine ay ?_ ?_;rfl)|(refine aA ?_ ?_;(rfl;refine gF ?_))|((with_reducible refine gS rfl ?_ ?_)<;>(intro hb hb';try(exfalso;omega))))|((with_reducible refine gxi ?_);first|(refine aQ ?_ ?_;rfl)|(refine aS ?_ ?_;(rfl;refine gxF ?_))|((with_reducible refine gxS rfl ?_ ?_)<;>(intro hb hb';try(exfalso;omega))))|((with_reducible refine aI ?_);first|refine aO (hc:=m1) (h:= ?_)|refine aO (hc:=m2) (h:= ?_)|refine aO (hc:=s1) (h:= ?_)|refine aO (hc:=s2) (h:= ?_))|((with_reducible refine aB ?_);refine ss tdE ?_)|((with_reducible refine bD ?_);refine sx tdE ?_)|refine nv ?_|(refine rD ?_;intro K hK)|(with_reducible (refine cS rfl ?_ ?_)<;>(intro hb hb';try(exfalso;omega)))|exact aG|exact aC)
 refine bF (X:=Nat) (fun z=> [.d,.d,.d,.k,.k,.v (.c false [.raw (.int .i64 ((z:Nat)))]),.d,.d,.d,.d,.d,.d,.d,.d,.d,.d,.d,.d,.d,.d,.d,.d,.d,.d,.d,.d,.d,.d,.d,.d,.d,.d,.d,.d,.d,.d,.d,.d,.d,.d,.d,.d,.d,.d,.d,.d,.d,.d,.d,.d,.d,.d,.d,.d,.d]) (fun _=> []) (fun _ _=> [[.sl false (l.map lu8),.raw (.int .i64 i),.raw (.int .i64 h)]]) (fun z=>z≤ps.length) (fun z=>ps.length - z) 0 (a_ _) ?_ ?_
 ·simp[bf,bI,aY,aZ,AV.fits,AC.fits,FB,aW]
 rintro z hz
 simp only[FB,aW]
 by_cases hlt:z<ps.length
 ·have hT:decide ((z:Int)<(ps.length:Int))=true:=decide_eq_true (by omega)
  have hw1:(z:Int)+1=((z+1:Nat):Int):=by omega
  have g1:idx (ps.map pF) (some (z:Int))=some (pF ps[z]):=dH pF ps hlt
  have hwz:=lT hw hlt
  have u1:=aeu ps[z] hwz
  have hpa:=aeK ps[z] false
  rw[GPart.bg]at hpa
  unfold pF at u1
  have hul:=tK ps[z] hwz
  obtain⟨us,hus⟩:∃us,us=bn ps[z]:=⟨_,rfl⟩
  rw[← hus]at u1 hul
  have hmz:∀s∈us,mV ml s=(tY (eY ps s ps.length)== -1):=fun s hs=>hmi hlt (by rw[← hus];exact hs)
  repeat' (first|((with_reducible refine hK _ ?_);clear hK K)|(with_reducible refine aj ?_ ?_)|((with_reducible refine gi ?_);first|(refine ay ?_ ?_;rfl)|(refine aA ?_ ?_;(rfl;refine gF ?_))|((with_reducible refine gS rfl ?_ ?_)<;>(intro hb hb';try(exfalso;omega))))|((with_reducible refine gxi ?_);first|(refine aQ ?_ ?_;rfl)|(refine aS ?_ ?_;(rfl;refine gxF ?_))|((with_reducible refine gxS rfl ?_ ?_)<;>(intro hb hb';try(exfalso;omega))))|((with_reducible refine aI ?_);first|refine aO (hc:=u1) (h:= ?_))|((with_reducible refine aB ?_);refine ss (afY tdE (afY hT (afY g1 hpa))) ?_)|((with_reducible refine bD ?_);refine sx (afY tdE (afY hT (afY g1 hpa))) ?_)|refine nv ?_|(refine rD ?_;intro K hK)|(with_reducible (refine cS rfl ?_ ?_)<;>(intro hb hb';try(exfalso;omega)))|exact aG|exact aC)
  any_goals exact aae _
  refine bF (X:=Nat) (fun y=> [.d,.d,.d,.k,.k,.k,.k,.v (.c false [.raw (.int .i64 ((y:Nat)))]),.d,.d,.d,.d,.d,.d,.d,.d,.d,.d,.d,.d,.d,.d,.d,.d,.d,.d,.d,.d,.d,.d,.d,.d,.d,.d,.d,.d,.d,.d,.d,.d,.d,.d,.d,.d,.d,.d,.d,.d,.d,.d,.d,.d,.d,.d,.d]) (fun _=> []) (fun _ _=> [[.sl false (l.map lu8),.raw (.int .i64 i),.raw (.int .i64 h)]]) (fun y=>y≤us.length) (fun y=>us.length - y) 0 (a_ _) ?_ ?_
  ·simp[bf,bI,aY,aZ,AV.fits,AC.fits,FB,aW]
  rintro y hy
  simp only[FB,aW]
  by_cases hly:y<us.length
  ·have hT2:decide ((y:Int)<(us.length:Int))=true:=decide_eq_true (by omega)
   have hw2:(y:Int)+1=((y+1:Nat):Int):=by omega
   have g2:idx (us.map ls) (some (y:Int))=some (ls us[y]):=dH ls us hly
   have r1:=Rt ps us[y] hn
   have t1:=ac6 ml us[y] hml9
   have e1:=hmz us[y] (List.getElem_mem hly)
   obtain⟨k,hk⟩:∃k,k=tY (eY ps us[y] ps.length):=⟨_,rfl⟩
   rw[← hk]at r1 e1
   clear hk
   obtain⟨b,hb⟩:∃b,(k== -1)=b:=⟨_,rfl⟩
   rw[e1,hb]at t1
   have hbb:(b !=b)=false:=by simp
   clear e1
   repeat' (first|((with_reducible refine hK _ ?_);clear hK K)|(with_reducible refine aj ?_ ?_)|((with_reducible refine gi ?_);first|(refine ay ?_ ?_;rfl)|(refine aA ?_ ?_;(rfl;refine gF ?_))|((with_reducible refine gS rfl ?_ ?_)<;>(intro hb hb';try(exfalso;omega))))|((with_reducible refine gxi ?_);first|(refine aQ ?_ ?_;rfl)|(refine aS ?_ ?_;(rfl;refine gxF ?_))|((with_reducible refine gxS rfl ?_ ?_)<;>(intro hb hb';try(exfalso;omega))))|((with_reducible refine aI ?_);first|refine aO (hc:=r1) (h:= ?_)|refine aO (hc:=t1) (h:= ?_))|((with_reducible refine fV ?_);first|refine jA (hc:=r1) (h:= ?_)|refine jA (hc:=t1) (h:= ?_))|((with_reducible refine aB ?_);refine ss (afY tdE (afY hT2 (afY hw2 (afY g2 (afY hb hbb))))) ?_)|((with_reducible refine bD ?_);refine sx (afY tdE (afY hT2 (afY hw2 (afY g2 (afY hb hbb))))) ?_)|refine nv ?_|(refine rD ?_;intro K hK)|(with_reducible (refine cS rfl ?_ ?_)<;>(intro hb hb';try(exfalso;omega)))|exact aG|exact aC)
   all_goals first
    |exact cZ _
    | (refine bC (y+1) ?_ (show y+1≤us.length by omega) (show us.length - (y+1)<us.length - y by omega)
       simp[bf,bI,aY,aZ,AV.fits,AC.fits,FB,aW]
       done)
  ·have hT2:decide ((y:Int)<(us.length:Int))=false:=decide_eq_false (by omega)
   repeat' (first|((with_reducible refine hK _ ?_);clear hK K)|(with_reducible refine aj ?_ ?_)|((with_reducible refine gi ?_);first|(refine ay ?_ ?_;rfl)|(refine aA ?_ ?_;(rfl;refine gF ?_))|((with_reducible refine gS rfl ?_ ?_)<;>(intro hb hb';try(exfalso;omega))))|((with_reducible refine gxi ?_);first|(refine aQ ?_ ?_;rfl)|(refine aS ?_ ?_;(rfl;refine gxF ?_))|((with_reducible refine gxS rfl ?_ ?_)<;>(intro hb hb';try(exfalso;omega))))|((with_reducible refine aB ?_);refine ss (afY tdE (afY hT2 hw1)) ?_)|((with_reducible refine bD ?_);refine sx (afY tdE (afY hT2 hw1)) ?_)|refine nv ?_|(refine rD ?_;intro K hK)|(with_reducible (refine cS rfl ?_ ?_)<;>(intro hb hb';try(exfalso;omega)))|exact aG|exact aC)
   all_goals
    refine bC (z+1) ?_ (show z+1≤ps.length by omega) (show ps.length - (z+1)<ps.length - z by omega)
    simp[bf,bI,aY,aZ,AV.fits,AC.fits,FB,aW]
 ·have hT:decide ((z:Int)<(ps.length:Int))=false:=decide_eq_false (by omega)
  repeat' (first|((with_reducible refine hK _ ?_);clear hK K)|(with_reducible refine aj ?_ ?_)|((with_reducible refine gi ?_);first|(refine ay ?_ ?_;rfl)|(refine aA ?_ ?_;(rfl;refine gF ?_))|((with_reducible refine gS rfl ?_ ?_)<;>(intro hb hb';try(exfalso;omega))))|((with_reducible refine gxi ?_);first|(refine aQ ?_ ?_;rfl)|(refine aS ?_ ?_;(rfl;refine gxF ?_))|((with_reducible refine gxS rfl ?_ ?_)<;>(intro hb hb';try(exfalso;omega))))|((with_reducible refine aB ?_);refine ss (afY tdE hT) ?_)|((with_reducible refine bD ?_);refine sx (afY tdE hT) ?_)|refine nv ?_|(refine rD ?_;intro K hK)|(with_reducible (refine cS rfl ?_ ?_)<;>(intro hb hb';try(exfalso;omega)))|exact aG|exact aC)
  all_goals exact bP ⟨_,rfl,⟨rfl,trivial⟩⟩
theorem acS(l:List UInt8)(hl:¬l.length≤1048576):aV Tryz.prog 5 [.sl (l.map lu8)] (.c false [.raw (.bool (true))]):=by
 refine dS (fn:=Tryz.f5) (t:=2) (by kernel_rfl) (by kernel_rfl) (by kernel_rfl) Jq ?_
 unfold SX;refine zb_ ?_
 change AWP _ _ _ (st0 55 _)
 refine sS tdX ?_
 have hB:=ML l
 rw[decide_eq_true (by omega:(l.length:Int) > 1048576)]at hB
 repeat' (first|((with_reducible refine hK _ ?_);clear hK K)|(with_reducible refine aj ?_ ?_)|((with_reducible refine gi ?_);first|(refine ay ?_ ?_;rfl)|(refine aA ?_ ?_;(rfl;refine gF ?_))|((with_reducible refine gS rfl ?_ ?_)<;>(intro hb hb';try(exfalso;omega))))|((with_reducible refine gxi ?_);first|(refine aQ ?_ ?_;rfl)|(refine aS ?_ ?_;(rfl;refine gxF ?_))|((with_reducible refine gxS rfl ?_ ?_)<;>(intro hb hb';try(exfalso;omega))))|((with_reducible refine aI ?_);first|refine aO (hc:=hB) (h:= ?_))|((with_reducible refine aB ?_);refine ss (afY tdC @jc) ?_)|((with_reducible refine bD ?_);refine sx (afY tdC @jc) ?_)|refine nv ?_|(refine rD ?_;intro K hK)|(with_reducible (refine cS rfl ?_ ?_)<;>(intro hb hb';try(exfalso;omega)))|(exact GCell.el _)|exact aG|exact aC)
 exact bP ⟨_,rfl,⟨rfl,trivial⟩⟩
theorem H9(l:List UInt8)(fp:List Nat)(v:Value)(w:World)(h:Sl w (l.map lu8) fp v):Calls Tryz.prog 5 #[v] w (QS w):=by
 have hC:aV Tryz.prog 5 [.sl (l.map lu8)] (.c false [.raw (.bool (true))]):=by
  by_cases hl:l.length≤1048576
  ·exact XU l hl
  ·exact acS l hl
 refine(aak hC (vs:= [v]) ⟨NS h,trivial⟩).mono ?_
 rintro e w' ⟨h1,h2⟩
 exact⟨h1,h2⟩
open Go.ChangeShapes Go.WideShapes Go.ChangeAt
theorem BA(os:Os)(started:os.Started)(H:Type)(enc:TypeId×Value→H):
 ReturnsInHanded {} Tryz.checked os 5 .any (Rows.fnMissingSpec.pre6 enc Tryz.prog Tryz.f5 Rows.fnMissingRow.domain false) (Rows.fnMissingSpec.post enc Tryz.prog Tryz.f5 false true false false):=by
 refine returnsInHanded_of_change (C:=Tryz.checked) aft started (by kernel_rfl) Tryz.func5
  (ChangeSpec.witness6 (enc:=enc) (C:=Tryz.checked) false ⟨#[], #[.slice none 0 0],[]⟩ 8 (by kernel_rfl) (by kernel_rfl) (by kernel_rfl) (by kernel_rfl)) ?_
 intro W base args ds gs before hval0 hW hcnd _
 have hval:∀(j:Nat) t v,Tryz.f5.params[j]? =some t→args[j]? =some v→Value.okWide Tryz.prog W .any base t v:=hval0
 have hW':=hW
 obtain⟨p,q,hA0,hV,rfl,hfz,hnd⟩:=hW
 have hA:DataW.TrodAll enc Tryz.prog W 0 (fun _=>true) true Tryz.f5.params.toList args.toList ds p:=hA0
 rw[Tryz.params5]at hA hval
 obtain⟨v0,vs0,d0,ds0,p0,q0,ha0,rfl,rfl,h0,r0⟩:=trodAll_cons hA
 obtain⟨rfl,rfl,rfl⟩:=trodAll_nil r0
 obtain rfl:args= #[v0]:=by cases args;simp_all
 obtain⟨rfl,rfl⟩:=trodVars_none hV
 obtain⟨l0,fx0,hx0,wx0⟩:=J6 Tryz.underlying22 (hval 0 22 v0 rfl rfl) (fun n=>Zq n) h0
 clear hA0 hval0
 have hlt:∀z∈p0++ [],z.block<W.heap.size:=fun z hz=>hW'.lt z (by simpa using hz)
 refine(H9 l0 fx0 _ W hx0).mono fun e W' ⟨he,hb⟩=> ?_
 subst he
 exact⟨_,rfl,yD (pa:=p0++ []) (pv:= []) hW' (fun _ _ _=>trodAll_mk1 (shut_bool Tryz.underlying4 _))
  (fun sp hsp=>⟨_,_,WideElems.Trod_stays Ov (by kernel_rfl) (of_decide_eq_true (by kernel_rfl)) h0 (fun z hz=>hb.same (hlt z (List.mem_append_left _ hz))) (fun z hz=>hsp z (by simp[hz])),rfl,rfl⟩) (fun _ _=>rfl) (by simp) hb (ok_one (by kernel_rfl) rfl (okWide_bool_mk Tryz.underlying4 _))⟩
theorem proved_FnMissing :Rows.FnMissingSaid:=
 OpenClaim.holds_of_wide 5 Tryz.f5 rfl rfl rfl rfl rfl rfl rfl ⟨rfl,rfl,rfl,rfl,rfl⟩ rfl rfl rfl rfl rfl (by kernel_rfl) Tryz.func5 (by kernel_rfl)
  (of_decide_eq_true (by kernel_rfl)) (by unfold Func.isWrapper;first|(rw[if_pos (by decide+kernel)];kernel_rfl)|(rw[if_neg (by decide+kernel)];exact⟨rfl,rfl⟩))
  (fun os started H enc _=>BA os started H enc)
end Go.Proofs.YtfjmoicellpnhaaGreat
