/-
  Uses and users are each other's reverse.
-/
import Derived.Test.YtfjmoicellpnhaaGreatJZ
set_option maxHeartbeats 32000000
set_option maxRecDepth 100000
namespace Go.Proofs.YtfjmoicellpnhaaGreat
open Go.RowKit
open Nat renaming zero_le→a_
set_option linter.unusedSimpArgs false
set_option linter.unusedVariables false
def JC :IC:=(zd_ [zz_ 2 (.mov (.k (.slice none 0 0))),zk_ 3 0] (zd_ [zw_ 5 0,zq_ 6 56 5,zw_ 4 6] (zd_ [zw_ 7 4,zq_ 8 65 7,zw_ 9 4,zn_ 10 76 9 10,zm_ 11 .sub 10 1,zw_ 2 8,zw_ 3 11] .ret)))
theorem LY :aF Tryz.prog (Tryz.f70.body.getD .skip)=some JC:=by kernel_rfl
theorem abU(l:List UInt8)(n:Bool)(hl:l.length≤1048576):jD Tryz.prog 70 [.c false [.sl n (l.map lu8)]] [] [] (fun r os' bs'=>∃(ps:List GPart) (i h:Int),ps.length≤9∧(∀p∈ps,p.toD.wt≤60000)∧(∃z:Int,r= .tup [(false,[.sl false (ps.map pF)]),(false,[.raw (.int .i64 z)])])∧os'= []∧bs'= [[.sl false (l.map lu8),.raw (.int .i64 i),.raw (.int .i64 h)]]):=by
 refine Qy (fn:=Tryz.f70) (t:=2) (u:=3) (by kernel_rfl) (by kernel_rfl) (by kernel_rfl) LY ?_
 unfold JC;refine zb_ ?_
 change dN _ _ _ _ (stS 12 _ _ _)
 refine sS tdX ?_
 repeat' (first|((with_reducible refine ak ?_);intro K hK)|((with_reducible refine hK _ ?_);clear hK K)|(with_reducible refine aj ?_ ?_)|((with_reducible refine aI ?_);first|((refine Aw (aeb l _ _ _ hl (by simp[AC.fits]) (by simp[AC.fits])) ?_);rintro _ _ _ ⟨rfl,rfl,h,rfl⟩)|(refine aH false (h:=(IX l _ _ (by first|assumption|omega) (by first|assumption|omega) hl)) (hK:= ?_);rintro _ _ _ ⟨⟨ps,hp1,hp2,rfl⟩,rfl,i,h,hi0,hi1,rfl⟩)|(refine aH false (h:=(uD l _ _ 10 (by first|assumption|omega) (by first|assumption|omega) hl (by decide) (by decide))) (hK:= ?_);rintro _ _ _ ⟨⟨k,hk,rfl⟩,rfl,i,h,hi0,hi1,rfl⟩))|((with_reducible refine aB ?_);refine ss tdE ?_)|refine nv ?_|(with_reducible (refine cS rfl ?_ ?_)<;>(intro hb hb';try(exfalso;omega)))|exact aG|exact aC)
 all_goals exact⟨_,_,rfl,rfl,a_ _,a_ _,ps,_,_,hp1,hp2,⟨_,rfl⟩,rfl,rfl⟩
def Jy :IC:=(zd_ [zz_ 2 (.mov (.k (.slice none 0 0))),zk_ 3 0] (zd_ [zw_ 4 0,zq_ 5 70 4,zz_ 6 (.ext 0 (.t 5)),zz_ 7 (.ext 1 (.t 5)),zw_ 2 6,zw_ 3 7] .ret))
theorem LV :aF Tryz.prog (Tryz.f36.body.getD .skip)=some Jy:=by kernel_rfl
theorem abw(l:List UInt8)(n:Bool)(hl:l.length≤1048576):jD Tryz.prog 36 [.c false [.sl n (l.map lu8)]] [] [] (fun r os' bs'=>∃(ps:List GPart) (i h:Int),ps.length≤9∧(∀p∈ps,p.toD.wt≤60000)∧(∃z:Int,r= .tup [(false,[.sl false (ps.map pF)]),(false,[.raw (.int .i64 z)])])∧os'= []∧bs'= [[.sl false (l.map lu8),.raw (.int .i64 i),.raw (.int .i64 h)]]):=by
 refine Qy (fn:=Tryz.f36) (t:=2) (u:=3) (by kernel_rfl) (by kernel_rfl) (by kernel_rfl) LV ?_
 unfold Jy;refine zb_ ?_
 change dN _ _ _ _ (stS 8 _ _ _)
 refine sS tdX ?_
 repeat' (first|((with_reducible refine ak ?_);intro K hK)|((with_reducible refine hK _ ?_);clear hK K)|(with_reducible refine aj ?_ ?_)|((with_reducible refine aI ?_);first|((refine Aw (abU l _ hl) ?_);rintro _ _ _ ⟨ps,i,h,hp1,hp2,⟨z,rfl⟩,rfl,rfl⟩))|((with_reducible refine aB ?_);refine ss tdE ?_)|refine nv ?_|(with_reducible (refine cS rfl ?_ ?_)<;>(intro hb hb';try(exfalso;omega)))|exact aG|exact aC)
 all_goals exact⟨_,_,rfl,rfl,a_ _,a_ _,ps,_,_,hp1,hp2,⟨_,rfl⟩,rfl,rfl⟩
def Tz :IC:=(zd_ [zj_ 2 false] (.seq (zd_ [zw_ 7 0,zq_ 8 10 7] (.cond (.t 8) (zd_ [zj_ 2 true] .ret) .skip)) (zd_ [zw_ 10 0,zq_ 11 36 10,zw_ 9 11,zz_ 12 (.ext 0 (.t 9)),zz_ 13 (.ext 1 (.t 9)),zw_ 3 12,zw_ 4 13] (zd_ [zw_ 14 3,zw_ 15 4,zp_ 16 37 14 15,zw_ 5 16] (.seq (zd_ [zw_ 17 5,zw_ 18 3,zw_ 19 4,zp_ 20 38 18 19,zp_ 21 13 17 20,zz_ 22 (.not (.t 21)),zw_ 23 22,zu_ 24 23 3,zu_ 25 23 4,zx_ 26 23 (.call 39 [(.t 24),(.t 25)]),zu_ 27 23 3,zu_ 28 23 4,zx_ 29 23 (.call 40 [(.t 27),(.t 28)]),zx_ 30 23 (.call 13 [(.t 26),(.t 29)]),zx_ 31 23 (.not (.t 30)),zg_ 32 23 true 31] (.cond (.t 32) (zd_ [zj_ 2 false] .ret) .skip)) (.seq (zd_ [zk_ 6 0] (.block 0 (.loop (.seq (zd_ [zw_ 33 6,zw_ 34 3,zf_ 35 false 34,zl_ 36 .lss 33 35] (.cond (.t 36) .skip (.exit 0))) (.seq (.block 1 (zd_ [zw_ 39 3,zw_ 40 6,zp_ 41 41 39 40,zw_ 42 4,zp_ 43 18 41 42,zw_ 44 3,zw_ 45 4,zp_ 46 42 44 45,zw_ 47 6,zp_ 48 18 46 47,zz_ 49 (.beq true (.t 43) (.t 48)),zw_ 50 49,zu_ 51 50 5,zu_ 52 50 6,zx_ 53 50 (.call 18 [(.t 51),(.t 52)]),zu_ 54 50 3,zu_ 55 50 6,zx_ 56 50 (.call 39 [(.t 54),(.t 55)]),zu_ 57 50 4,zx_ 58 50 (.call 18 [(.t 56),(.t 57)]),zx_ 59 50 (.beq true (.t 53) (.t 58)),zg_ 60 50 true 59] (.cond (.t 60) (zd_ [zj_ 2 false] .ret) .skip))) (.reg false [zw_ 37 6,zm_ 38 .add 37 1,zw_ 6 38])))))) (zd_ [zj_ 2 true] .ret)))))))
theorem JA :aF Tryz.prog (Tryz.f6.body.getD .skip)=some Tz:=by kernel_rfl
theorem Yq(l:List UInt8)(hl:l.length≤1048576):aV Tryz.prog 6 [.sl (l.map lu8)] (.c false [.raw (.bool (true))]):=by
 refine dS (fn:=Tryz.f6) (t:=2) (by kernel_rfl) (by kernel_rfl) (by kernel_rfl) JA ?_
 unfold Tz;refine zb_ ?_
 change AWP _ _ _ (st0 61 _)
 refine sS tdX ?_
 have hB:=ML l
 rw[decide_eq_false (by omega:¬(l.length:Int) > 1048576)]at hB
 repeat' (first|((with_reducible refine ak ?_);intro K hK)|((with_reducible refine hK _ ?_);clear hK K)|(with_reducible refine aj ?_ ?_)|((with_reducible refine gi ?_);first|(refine ay ?_ ?_;rfl)|(refine aA ?_ ?_;(rfl;refine gF ?_))|((with_reducible refine gS rfl ?_ ?_)<;>(intro hb hb';try(exfalso;omega))))|((with_reducible refine aI ?_);first|refine aO (hc:=hB) (h:= ?_)|((refine Aw (abw l _ hl) ?_);rintro _ _ _ ⟨ps,i,h,hp1,hp2,⟨z,rfl⟩,rfl,rfl⟩))|((with_reducible refine aB ?_);refine ss tdE ?_)|refine nv ?_|(with_reducible (refine cS rfl ?_ ?_)<;>(intro hb hb';try(exfalso;omega)))|exact aG|exact aC)
 have hn:ps.length≤1048576:=by omega
 have hw:=aac hp1 hp2
 have a1:=YD ps z hw
 have a2:=YC ps z hw
 have a3:=J7 ps z hw
 have a4:=YF ps z hw
 have c1:=TV ps.length (nrI ps false) z
 have c2:=TV ps.length (nrI ps true) z
 have hrev:=fun{y:Nat} (hy:y<ps.length)=>adV ps z hy
 obtain⟨av,hav⟩:∃av,av=lnz (cl ps.length (nrI ps false) z):=⟨_,rfl⟩
 obtain⟨rv_,hrv⟩:∃rv_,rv_=lnz (cl ps.length (nrI ps true) z):=⟨_,rfl⟩
 have c3:av.length≤1048576:=by rw[hav,zN];omega
 have c4:rv_.length≤1048576:=by rw[hrv,zN];omega
 simp only[← hav]at a1 a2 hrev
 rw[← hrv]at a3 a4
 have s1:=Cm av av c3 c3
 have s2:=Cm rv_ rv_ c4 c4
 simp only[decide_true]at s1 s2
 clear hav hrv c1 c2
 repeat' (first|((with_reducible refine ak ?_);intro K hK)|((with_reducible refine hK _ ?_);clear hK K)|(with_reducible refine aj ?_ ?_)|((with_reducible refine gi ?_);first|(refine ay ?_ ?_;rfl)|(refine aA ?_ ?_;(rfl;refine gF ?_))|((with_reducible refine gS rfl ?_ ?_)<;>(intro hb hb';try(exfalso;omega))))|((with_reducible refine aI ?_);first|refine aO (hc:=a1) (h:= ?_)|refine aO (hc:=a2) (h:= ?_)|refine aO (hc:=a3) (h:= ?_)|refine aO (hc:=a4) (h:= ?_)|refine aO (hc:=s1) (h:= ?_)|refine aO (hc:=s2) (h:= ?_))|((with_reducible refine aB ?_);refine ss tdE ?_)|refine nv ?_|(with_reducible (refine cS rfl ?_ ?_)<;>(intro hb hb';try(exfalso;omega)))|exact aG|exact aC)
 refine bF (X:=Nat) (fun y=> [.d,.d,.d,.k,.k,.k,.v (.c false [.raw (.int .i64 ((y:Nat)))]),.d,.d,.d,.d,.d,.d,.d,.d,.d,.d,.d,.d,.d,.d,.d,.d,.d,.d,.d,.d,.d,.d,.d,.d,.d,.d,.d,.d,.d,.d,.d,.d,.d,.d,.d,.d,.d,.d,.d,.d,.d,.d,.d,.d,.d,.d,.d,.d,.d,.d,.d,.d,.d,.d]) (fun _=> []) (fun _ _=> [[.sl false (l.map lu8),.raw (.int .i64 i),.raw (.int .i64 h)]]) (fun y=>y≤ps.length) (fun y=>ps.length - y) 0 (a_ _) ?_ ?_
 ·simp[bf,bI,aY,aZ,AV.fits,AC.fits,FB,aW]
 rintro y hy
 simp only[FB,aW]
 by_cases hlt:y<ps.length
 ·have hT:decide ((y:Int)<(ps.length:Int))=true:=decide_eq_true (by omega)
  have hw1:(y:Int)+1=((y+1:Nat):Int):=by omega
  have d1:=Yp ps (y:Int) hw
  have u1:=Xe ps z hw
  have r1:=J7 ps (y:Int) hw
  have l1:=WJ ps (y:Int)
  have l2:(usI ps z).length≤ps.length:=qO _ _
  have l3:=TV ps.length (nrI ps true) (y:Int)
  have q1:=L8 (lnz (duI ps (y:Int))) z (by rw[zN];omega)
  have q2:=L8 (lnz (usI ps z)) (y:Int) (by rw[zN];omega)
  have q3:=L8 av (y:Int) c3
  have q4:=L8 (lnz (cl ps.length (nrI ps true) (y:Int))) z (by rw[zN];omega)
  rw[acn ps z hlt]at q1
  rw[hrev hlt]at q3
  clear l1 l2 l3
  obtain⟨b1,hb1⟩:∃b,decide ((y:Int)∈lnz (usI ps z))=b:=⟨_,rfl⟩
  obtain⟨b2,hb2⟩:∃b,decide (z∈lnz (cl ps.length (nrI ps true) (y:Int)))=b:=⟨_,rfl⟩
  rw[hb1]at q1 q2
  rw[hb2]at q3 q4
  have b1f:(b1 !=b1)=false:=by simp
  have b2f:(b2 !=b2)=false:=by simp
  repeat' (first|((with_reducible refine ak ?_);intro K hK)|((with_reducible refine hK _ ?_);clear hK K)|(with_reducible refine aj ?_ ?_)|((with_reducible refine gi ?_);first|(refine ay ?_ ?_;rfl)|(refine aA ?_ ?_;(rfl;refine gF ?_))|((with_reducible refine gS rfl ?_ ?_)<;>(intro hb hb';try(exfalso;omega))))|((with_reducible refine aI ?_);first|refine aO (hc:=d1) (h:= ?_)|refine aO (hc:=u1) (h:= ?_)|refine aO (hc:=r1) (h:= ?_)|refine aO (hc:=q1) (h:= ?_)|refine aO (hc:=q2) (h:= ?_)|refine aO (hc:=q3) (h:= ?_)|refine aO (hc:=q4) (h:= ?_))|((with_reducible refine aB ?_);refine ss (afY tdE (afY hT (afY hw1 (afY b1f b2f)))) ?_)|refine nv ?_|(with_reducible (refine cS rfl ?_ ?_)<;>(intro hb hb';try(exfalso;omega)))|exact aG|exact aC)
  all_goals first
   |exact iG _
   | (refine bC (y+1) ?_ (show y+1≤ps.length by omega) (show ps.length - (y+1)<ps.length - y by omega)
      simp[bf,bI,aY,aZ,AV.fits,AC.fits,FB,aW]
      done)
 ·have hT:decide ((y:Int)<(ps.length:Int))=false:=decide_eq_false (by omega)
  repeat' (first|((with_reducible refine ak ?_);intro K hK)|((with_reducible refine hK _ ?_);clear hK K)|(with_reducible refine aj ?_ ?_)|((with_reducible refine gi ?_);first|(refine ay ?_ ?_;rfl)|(refine aA ?_ ?_;(rfl;refine gF ?_))|((with_reducible refine gS rfl ?_ ?_)<;>(intro hb hb';try(exfalso;omega))))|((with_reducible refine aB ?_);refine ss (afY tdE hT) ?_)|refine nv ?_|(with_reducible (refine cS rfl ?_ ?_)<;>(intro hb hb';try(exfalso;omega)))|exact aG|exact aC)
  all_goals exact bP ⟨_,rfl,⟨rfl,trivial⟩⟩
theorem adw(l:List UInt8)(hl:¬l.length≤1048576):aV Tryz.prog 6 [.sl (l.map lu8)] (.c false [.raw (.bool (true))]):=by
 refine dS (fn:=Tryz.f6) (t:=2) (by kernel_rfl) (by kernel_rfl) (by kernel_rfl) JA ?_
 unfold Tz;refine zb_ ?_
 change AWP _ _ _ (st0 61 _)
 refine sS tdX ?_
 have hB:=ML l
 rw[decide_eq_true (by omega:(l.length:Int) > 1048576)]at hB
 repeat' (first|((with_reducible refine ak ?_);intro K hK)|((with_reducible refine hK _ ?_);clear hK K)|(with_reducible refine aj ?_ ?_)|((with_reducible refine gi ?_);first|(refine ay ?_ ?_;rfl)|(refine aA ?_ ?_;(rfl;refine gF ?_))|((with_reducible refine gS rfl ?_ ?_)<;>(intro hb hb';try(exfalso;omega))))|((with_reducible refine aI ?_);first|refine aO (hc:=hB) (h:= ?_))|((with_reducible refine aB ?_);refine ss (afY tdC @jc) ?_)|refine nv ?_|(with_reducible (refine cS rfl ?_ ?_)<;>(intro hb hb';try(exfalso;omega)))|(exact GCell.el _)|exact aG|exact aC)
 exact bP ⟨_,rfl,⟨rfl,trivial⟩⟩
theorem Ia(l:List UInt8)(fp:List Nat)(v:Value)(w:World)(h:Sl w (l.map lu8) fp v):Calls Tryz.prog 6 #[v] w (QS w):=by
 have hC:aV Tryz.prog 6 [.sl (l.map lu8)] (.c false [.raw (.bool (true))]):=by
  by_cases hl:l.length≤1048576
  ·exact Yq l hl
  ·exact adw l hl
 refine(aak hC (vs:= [v]) ⟨NS h,trivial⟩).mono ?_
 rintro e w' ⟨h1,h2⟩
 exact⟨h1,h2⟩
open Go.ChangeShapes Go.WideShapes Go.ChangeAt
theorem BD(os:Os)(started:os.Started)(H:Type)(enc:TypeId×Value→H):
 ReturnsInHanded {} Tryz.checked os 6 .any (Rows.fnDependsSpec.pre6 enc Tryz.prog Tryz.f6 Rows.fnDependsRow.domain false) (Rows.fnDependsSpec.post enc Tryz.prog Tryz.f6 false true false false):=by
 refine returnsInHanded_of_change (C:=Tryz.checked) aft started (by kernel_rfl) Tryz.func6
  (ChangeSpec.witness6 (enc:=enc) (C:=Tryz.checked) false ⟨#[], #[.slice none 0 0],[]⟩ 8 (by kernel_rfl) (by kernel_rfl) (by kernel_rfl) (by kernel_rfl)) ?_
 intro W base args ds gs before hval0 hW hcnd _
 have hval:∀(j:Nat) t v,Tryz.f6.params[j]? =some t→args[j]? =some v→Value.okWide Tryz.prog W .any base t v:=hval0
 have hW':=hW
 obtain⟨p,q,hA0,hV,rfl,hfz,hnd⟩:=hW
 have hA:DataW.TrodAll enc Tryz.prog W 0 (fun _=>true) true Tryz.f6.params.toList args.toList ds p:=hA0
 rw[Tryz.params6]at hA hval
 obtain⟨v0,vs0,d0,ds0,p0,q0,ha0,rfl,rfl,h0,r0⟩:=trodAll_cons hA
 obtain⟨rfl,rfl,rfl⟩:=trodAll_nil r0
 obtain rfl:args= #[v0]:=by cases args;simp_all
 obtain⟨rfl,rfl⟩:=trodVars_none hV
 obtain⟨l0,fx0,hx0,wx0⟩:=J6 Tryz.underlying22 (hval 0 22 v0 rfl rfl) (fun n=>Zq n) h0
 clear hA0 hval0
 have hlt:∀z∈p0++ [],z.block<W.heap.size:=fun z hz=>hW'.lt z (by simpa using hz)
 refine(Ia l0 fx0 _ W hx0).mono fun e W' ⟨he,hb⟩=> ?_
 subst he
 exact⟨_,rfl,yD (pa:=p0++ []) (pv:= []) hW' (fun _ _ _=>trodAll_mk1 (shut_bool Tryz.underlying4 _))
  (fun sp hsp=>⟨_,_,WideElems.Trod_stays Ov (by kernel_rfl) (of_decide_eq_true (by kernel_rfl)) h0 (fun z hz=>hb.same (hlt z (List.mem_append_left _ hz))) (fun z hz=>hsp z (by simp[hz])),rfl,rfl⟩) (fun _ _=>rfl) (by simp) hb (ok_one (by kernel_rfl) rfl (okWide_bool_mk Tryz.underlying4 _))⟩
theorem proved_FnDepends :Rows.FnDependsSaid:=
 OpenClaim.holds_of_wide 6 Tryz.f6 rfl rfl rfl rfl rfl rfl rfl ⟨rfl,rfl,rfl,rfl,rfl⟩ rfl rfl rfl rfl rfl (by kernel_rfl) Tryz.func6 (by kernel_rfl)
  (of_decide_eq_true (by kernel_rfl)) (by unfold Func.isWrapper;first|(rw[if_pos (by decide+kernel)];kernel_rfl)|(rw[if_neg (by decide+kernel)];exact⟨rfl,rfl⟩))
  (fun os started H enc _=>BD os started H enc)
end Go.Proofs.YtfjmoicellpnhaaGreat
