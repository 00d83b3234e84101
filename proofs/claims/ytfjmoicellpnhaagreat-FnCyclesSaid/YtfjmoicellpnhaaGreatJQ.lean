/-
  Texts joined: Psr6 Psr7.
-/
import Derived.Test.YtfjmoicellpnhaaGreatJP
import Derived.Test.YtfjmoicellpnhaaGreatJR
set_option maxHeartbeats 16000000
set_option maxRecDepth 8000
namespace Go.Proofs.YtfjmoicellpnhaaGreat
open Go.RowKit
open List renaming size_toArray→a_,length_nil→b_
open Nat renaming zero_le→c_
set_option linter.unusedSimpArgs false
set_option linter.unusedVariables false
attribute [local irreducible] sw sd sn
def Xm :IC:=(zd_ [zz_ 2 (.alloc [(.int .i64 0),(.int .i64 0),(.string ⟨#[]⟩),(.slice none 0 0)])] (zd_ [zw_ 4 0,zq_ 5 222 4,zz_ 3 (.alloc [(.int .i64 0),(.int .i64 0),(.string ⟨#[]⟩),(.slice none 0 0)]),⟨none,none,.store 4 (.t 3) (.t 5)⟩] (.seq (.block 0 (.loop (.seq (zd_ [zw_ 6 0,zz_ 7 (.call 175 [(.t 6),(.k (.string ⟨#[42]⟩))])] (.cond (.t 7) .skip (.exit 0))) (.block 1 (zd_ [zw_ 8 0,zw_ 9 0,zi_ 10 9,zt_ 11 1 10,zs_ 12 1 11,zm_ 13 .add 12 1,zi_ 14 8,zt_ 15 1 14,⟨none,none,.store 1 (.t 15) (.t 13)⟩] (.regN true [] [zr_ 16 4 3,zw_ 17 0,zq_ 18 222 17,zz_ 19 (.call 164 [(.k (.int .i64 3)),(.t 16),(.t 18)]),⟨none,none,.store 4 (.t 3) (.t 19)⟩])))))) (zd_ [zr_ 20 4 3,⟨none,none,.store 4 (.t 2) (.t 20)⟩] .ret))))
theorem UE :ay Tryz.prog (Tryz.f219.body.getD .skip)=some Xm:=by kernel_rfl
theorem ad6(q:List D)(i:Nat)(hi:i≤q.length)(hl:q.length≤60)(hq:∀d∈q,IsT 120 d)(hAt:∀j,i≤j→j≤q.length→∀e b,bH Tryz.prog 222 [] (rdC q j e b) (dJ q j e))(e b:Int):bH Tryz.prog 219 [] (rdC q i e b) (dJ q i e):=by
 refine fQ (fn:=Tryz.f219) (r:= .cell 2 45) (hc:=UE) (h:= ?_)
 unfold Xm rdC;refine zb_ ?_
 change dK _ _ _ _ (stS 21 _ _ _)
 refine sS tdX ?_
 repeat' (first|(refine rg_ ?_;intro K hK)|((first|(with_reducible refine aF 0 false bF ?_)|(refine aF 0 false (by simp[eu,St.ev]) ?_));intro K hK)|refine nN ?_|(refine hq_ ?_;clear hK K)|refine ca_ ?_ ?_|((with_reducible refine aB ?_);first|(refine aC true (h:=(hAt _ (by omega) (by omega) _ _)) (hK:= ?_);rintro _ _ _ ⟨⟨j,b1,hj0,hj1,⟨ek,en,et,eq,hE,rfl⟩,rfl⟩,rfl, -⟩))|((with_reducible refine fG ?_);first|(refine iy true (h:=(hAt _ (by omega) (by omega) _ _)) (hne:=(lY _ _ _ (by omega))) (hr:= ?_);rintro _ _ _ ⟨⟨j,b1,hj0,hj1,⟨ek,en,et,eq,hE,rfl⟩,rfl⟩,rfl, -⟩))|((with_reducible refine ak ?_);refine ss (aho tdE (aho @bW (aho @bV (aho @bD (aho @rdC.eq_1 (aho @dT.eq_1 @fV)))))) ?_)|((with_reducible refine bf ?_);refine sx (aho tdE (aho @bW (aho @bV (aho @bD (aho @rdC.eq_1 (aho @dT.eq_1 @fV)))))) ?_)|refine nv ?_|(refine c2_ ?_ ?_<;>(intro hb hb';try(exfalso;omega)))|exact aA|exact au)
 refine iG (X:=Nat×Int×Int×Int×ByteArray×List D) (fun z=> [.k,.d,.k,.k,.d,.d,.d,.d,.d,.d,.d,.d,.d,.d,.d,.d,.d,.d,.d,.d,.d]) (fun z=> []) (fun z _=> [rdC q z.1 e z.2.1,[.raw (.int .i64 0),.raw (.int .i64 0),.raw (.string ⟨#[]⟩),.raw (.slice none 0 0)],[.raw (.int .i64 z.2.2.1),.raw (.int .i64 z.2.2.2.1),.raw (.string z.2.2.2.2.1),.sl true z.2.2.2.2.2]])
  (fun z=>i≤z.1∧z.1≤q.length∧IsE (300*(z.1 - i)) (dE z.2.2.1 z.2.2.2.1 z.2.2.2.2.1 z.2.2.2.2.2)) (fun z=>q.length - z.1) (j,b1,ek,en,et,eq) ⟨hj0,hj1,hE⟩ (fun z=>⟨c_ _,by simp⟩) ?_ ?_
 ·simp[aO,aX,aK,aN,AV.fits,AC.fits,FB,aG,rdC]
 clear hE hj0 hj1
 rintro⟨j0,b0,k0,n0,t0,l0⟩ ⟨hj0,hj1,hE0⟩
 simp only at hj0 hj1 hE0
 simp only[FB,aG]
 repeat' (first|(refine rg_ ?_;intro K hK)|((first|(with_reducible refine aF 0 false bF ?_)|(refine aF 0 false (by simp[eu,St.ev]) ?_));intro K hK)|refine nN ?_|(refine hq_ ?_;clear hK K)|refine ca_ ?_ ?_|((with_reducible refine aB ?_);first|(refine aC true (h:=(zl q _ _ _ _ (by omega) hl hq)) (hK:= ?_);rintro _ _ _ ⟨rfl|⟨hx,rfl⟩,rfl,rfl⟩)|(refine aC true (h:=(hAt _ (by omega) (by omega) _ _)) (hK:= ?_);rintro _ _ _ ⟨⟨j,b1,hj0,hj1,⟨ek,en,et,eq,hE,rfl⟩,rfl⟩,rfl, -⟩)|refine tY true (h:=(uX _ _ _ _ _ _ _ _ _)) (hK:= ?_))|((with_reducible refine fG ?_);first|(refine iy true (h:=(hAt _ (by omega) (by omega) _ _)) (hne:=(lY _ _ _ (by omega))) (hr:= ?_);rintro _ _ _ ⟨⟨j,b1,hj0,hj1,⟨ek,en,et,eq,hE,rfl⟩,rfl⟩,rfl, -⟩)|refine af0 true (h:=(uX _ _ _ _ _ _ _ _ _)) (hK:= ?_))|((with_reducible refine ak ?_);refine ss (aho tdE (aho @bW (aho @bV (aho @bD (aho @rdC.eq_1 (aho @dT.eq_1 @fV)))))) ?_)|((with_reducible refine bf ?_);refine sx (aho tdE (aho @bW (aho @bV (aho @bD (aho @rdC.eq_1 (aho @dT.eq_1 @fV)))))) ?_)|refine nv ?_|(refine c2_ ?_ ?_<;>(intro hb hb';try(exfalso;omega)))|exact aA|exact au)
 all_goals first
  |exact elE hE0
  | (refine aS (j,b1,6,_,⟨#[]⟩,_) ⟨?_,trivial,⟨rfl,rfl,rfl,trivial⟩,rfl⟩ ⟨by omega,by omega,pU hE0 hE (by first|omega|(simp only[szD,a_,b_];omega))⟩ (show q.length - j<q.length - j0 by omega)
     simp[aX,AV.fits,AC.fits,FB,aG]
     done)
  | (first
    |exact bP rfl rfl rfl (by kernel_rfl) ⟨⟨_,_,by omega,by omega,⟨_,_,_,_,hE0,rfl⟩,rfl⟩,rfl,trivial⟩
    |exact bP rfl rfl rfl (by kernel_rfl) ⟨⟨_,_,by omega,by omega,⟨_,_,_,_,IsE.mono hE (by omega),rfl⟩,rfl⟩,rfl,trivial⟩
    |exact bP rfl rfl rfl (by kernel_rfl) ⟨⟨_,_,by omega,by omega,⟨_,_,_,_,pU (by assumption) (by assumption) (by first|omega|(simp only[szD,a_,b_];omega)),rfl⟩,rfl⟩,rfl,trivial⟩
    |exact bP rfl rfl rfl (by kernel_rfl) ⟨⟨_,_,by omega,by omega,⟨_,_,_,_,nJ (by assumption) (by assumption) (by assumption) (by first|omega|(simp only[szD,a_,b_];omega)),rfl⟩,rfl⟩,rfl,trivial⟩
    |exact sV rfl rfl rfl rfl rfl rfl (by kernel_rfl) ⟨⟨_,_,by omega,by omega,⟨_,_,_,_,pU (by assumption) (by assumption) (by first|omega|(simp only[szD,a_,b_];omega)),rfl⟩,rfl⟩,rfl,trivial⟩
    |exact sV rfl rfl rfl rfl rfl rfl (by kernel_rfl) ⟨⟨_,_,by omega,by omega,⟨_,_,_,_,nJ (by assumption) (by assumption) (by assumption) (by first|omega|(simp only[szD,a_,b_];omega)),rfl⟩,rfl⟩,rfl,trivial⟩)
def abZ :IC:=(zd_ [zz_ 2 (.alloc [(.int .i64 0),(.int .i64 0),(.string ⟨#[]⟩),(.slice none 0 0)])] (zd_ [zw_ 5 0,zq_ 6 219 5,zz_ 3 (.alloc [(.int .i64 0),(.int .i64 0),(.string ⟨#[]⟩),(.slice none 0 0)]),⟨none,none,.store 4 (.t 3) (.t 6)⟩] (.seq (.block 0 (.loop (.seq (zd_ [zw_ 7 0,zz_ 8 (.call 175 [(.t 7),(.k (.string ⟨#[43]⟩))]),zw_ 9 8,zu_ 10 9 0,zx_ 11 9 (.call 175 [(.t 10),(.k (.string ⟨#[45]⟩))]),zg_ 12 9 true 11] (.cond (.t 12) .skip (.exit 0))) (.block 1 (zd_ [zk_ 4 1] (.seq (zd_ [zw_ 13 0,zz_ 14 (.call 175 [(.t 13),(.k (.string ⟨#[45]⟩))])] (.cond (.t 14) (.reg false [zk_ 4 2]) .skip)) (zd_ [zw_ 15 0,zw_ 16 0,zi_ 17 16,zt_ 18 1 17,zs_ 19 1 18,zm_ 20 .add 19 1,zi_ 21 15,zt_ 22 1 21,⟨none,none,.store 1 (.t 22) (.t 20)⟩] (.regN true [] [zw_ 23 4,zr_ 24 4 3,zw_ 25 0,zq_ 26 219 25,zo_ 27 164 23 24 26,⟨none,none,.store 4 (.t 3) (.t 27)⟩])))))))) (zd_ [zr_ 28 4 3,⟨none,none,.store 4 (.t 2) (.t 28)⟩] .ret))))
theorem Za :ay Tryz.prog (Tryz.f210.body.getD .skip)=some abZ:=by kernel_rfl
theorem afY(q:List D)(i:Nat)(hi:i≤q.length)(hl:q.length≤60)(hq:∀d∈q,IsT 120 d)(hPr:∀j,i≤j→j≤q.length→∀e b,bH Tryz.prog 219 [] (rdC q j e b) (dJ q j e))(e b:Int):bH Tryz.prog 210 [] (rdC q i e b) (dJ q i e):=by
 refine fQ (fn:=Tryz.f210) (r:= .cell 2 45) (hc:=Za) (h:= ?_)
 unfold abZ rdC;refine zb_ ?_
 change dK _ _ _ _ (stS 29 _ _ _)
 refine sS tdX ?_
 repeat' (first|(refine rg_ ?_;intro K hK)|((first|(with_reducible refine aF 0 false bF ?_)|(refine aF 0 false (by simp[eu,St.ev]) ?_));intro K hK)|refine nN ?_|(refine hq_ ?_;clear hK K)|refine ca_ ?_ ?_|refine gq_ ?_|(refine c2_ ?_ ?_<;>(intro hb hb';try(exfalso;omega)))|((with_reducible refine jk ?_);first|(refine eH ?_ ?_;rfl)|(refine eP ?_ ?_;(rfl;refine gnF ?_)))|((with_reducible refine aB ?_);first|(refine aC true (h:=(hPr _ (by omega) (by omega) _ _)) (hK:= ?_);rintro _ _ _ ⟨⟨j,b1,hj0,hj1,⟨ek,en,et,eq,hE,rfl⟩,rfl⟩,rfl, -⟩))|((with_reducible refine fG ?_);first|(refine iy true (h:=(hPr _ (by omega) (by omega) _ _)) (hne:=(lY _ _ _ (by omega))) (hr:= ?_);rintro _ _ _ ⟨⟨j,b1,hj0,hj1,⟨ek,en,et,eq,hE,rfl⟩,rfl⟩,rfl, -⟩))|((with_reducible refine ak ?_);refine ss (aho tdE (aho @bW (aho @bV (aho @bD (aho @rdC.eq_1 (aho @dT.eq_1 @fV)))))) ?_)|((with_reducible refine bf ?_);refine sx (aho tdE (aho @bW (aho @bV (aho @bD (aho @rdC.eq_1 (aho @dT.eq_1 @fV)))))) ?_)|refine nv ?_|exact aA|exact au)
 refine iG (X:=Nat×Int×Int×Int×ByteArray×List D) (fun z=> [.k,.d,.k,.k,.d,.d,.d,.d,.d,.d,.d,.d,.d,.d,.d,.d,.d,.d,.d,.d,.d,.d,.d,.d,.d,.d,.d,.d,.d]) (fun z=> []) (fun z _=> [rdC q z.1 e z.2.1,[.raw (.int .i64 0),.raw (.int .i64 0),.raw (.string ⟨#[]⟩),.raw (.slice none 0 0)],[.raw (.int .i64 z.2.2.1),.raw (.int .i64 z.2.2.2.1),.raw (.string z.2.2.2.2.1),.sl true z.2.2.2.2.2]])
  (fun z=>i≤z.1∧z.1≤q.length∧IsE (300*(z.1 - i)) (dE z.2.2.1 z.2.2.2.1 z.2.2.2.2.1 z.2.2.2.2.2)) (fun z=>q.length - z.1) (j,b1,ek,en,et,eq) ⟨hj0,hj1,hE⟩ (fun z=>⟨c_ _,by simp⟩) ?_ ?_
 ·simp[aO,aX,aK,aN,AV.fits,AC.fits,FB,aG,rdC]
 clear hE hj0 hj1
 rintro⟨j0,b0,k0,n0,t0,l0⟩ ⟨hj0,hj1,hE0⟩
 simp only at hj0 hj1 hE0
 simp only[FB,aG]
 repeat' (first|(refine rg_ ?_;intro K hK)|((first|(with_reducible refine aF 0 false bF ?_)|(refine aF 0 false (by simp[eu,St.ev]) ?_));intro K hK)|refine nN ?_|(refine hq_ ?_;clear hK K)|refine ca_ ?_ ?_|refine gq_ ?_|(refine c2_ ?_ ?_<;>(intro hb hb';try(exfalso;omega)))|((with_reducible refine jk ?_);first|(refine eH ?_ ?_;rfl)|(refine eP ?_ ?_;(rfl;refine gnF ?_)))|((with_reducible refine aB ?_);first|(refine aC true (h:=(zl q _ _ _ _ (by omega) hl hq)) (hK:= ?_);rintro _ _ _ ⟨rfl|⟨hx,rfl⟩,rfl,rfl⟩)|(refine aC true (h:=(hPr _ (by omega) (by omega) _ _)) (hK:= ?_);rintro _ _ _ ⟨⟨j,b1,hj0,hj1,⟨ek,en,et,eq,hE,rfl⟩,rfl⟩,rfl, -⟩)|refine tY true (h:=(uX _ _ _ _ _ _ _ _ _)) (hK:= ?_))|((with_reducible refine fG ?_);first|(refine iy true (h:=(hPr _ (by omega) (by omega) _ _)) (hne:=(lY _ _ _ (by omega))) (hr:= ?_);rintro _ _ _ ⟨⟨j,b1,hj0,hj1,⟨ek,en,et,eq,hE,rfl⟩,rfl⟩,rfl, -⟩)|refine af0 true (h:=(uX _ _ _ _ _ _ _ _ _)) (hK:= ?_))|((with_reducible refine ak ?_);refine ss (aho tdE (aho @bW (aho @bV (aho @bD (aho @rdC.eq_1 (aho @dT.eq_1 @fV)))))) ?_)|((with_reducible refine bf ?_);refine sx (aho tdE (aho @bW (aho @bV (aho @bD (aho @rdC.eq_1 (aho @dT.eq_1 @fV)))))) ?_)|refine nv ?_|exact aA|exact au)
 all_goals first
  |exact elE hE0
  | (refine aS (j,b1,6,_,⟨#[]⟩,_) ⟨?_,trivial,⟨rfl,rfl,rfl,trivial⟩,rfl⟩ ⟨by omega,by omega,pU hE0 hE (by first|omega|(simp only[szD,a_,b_];omega))⟩ (show q.length - j<q.length - j0 by omega)
     simp[aX,AV.fits,AC.fits,FB,aG]
     done)
  | (first
    |exact bP rfl rfl rfl (by kernel_rfl) ⟨⟨_,_,by omega,by omega,⟨_,_,_,_,hE0,rfl⟩,rfl⟩,rfl,trivial⟩
    |exact bP rfl rfl rfl (by kernel_rfl) ⟨⟨_,_,by omega,by omega,⟨_,_,_,_,IsE.mono hE (by omega),rfl⟩,rfl⟩,rfl,trivial⟩
    |exact bP rfl rfl rfl (by kernel_rfl) ⟨⟨_,_,by omega,by omega,⟨_,_,_,_,pU (by assumption) (by assumption) (by first|omega|(simp only[szD,a_,b_];omega)),rfl⟩,rfl⟩,rfl,trivial⟩
    |exact bP rfl rfl rfl (by kernel_rfl) ⟨⟨_,_,by omega,by omega,⟨_,_,_,_,nJ (by assumption) (by assumption) (by assumption) (by first|omega|(simp only[szD,a_,b_];omega)),rfl⟩,rfl⟩,rfl,trivial⟩
    |exact sV rfl rfl rfl rfl rfl rfl (by kernel_rfl) ⟨⟨_,_,by omega,by omega,⟨_,_,_,_,pU (by assumption) (by assumption) (by first|omega|(simp only[szD,a_,b_];omega)),rfl⟩,rfl⟩,rfl,trivial⟩
    |exact sV rfl rfl rfl rfl rfl rfl (by kernel_rfl) ⟨⟨_,_,by omega,by omega,⟨_,_,_,_,nJ (by assumption) (by assumption) (by assumption) (by first|omega|(simp only[szD,a_,b_];omega)),rfl⟩,rfl⟩,rfl,trivial⟩)
def XF :IC:=(zd_ [zz_ 2 (.alloc [(.int .i64 0),(.int .i64 0),(.string ⟨#[]⟩),(.slice none 0 0)])] (zd_ [zw_ 4 0,zq_ 5 210 4,zz_ 3 (.alloc [(.int .i64 0),(.int .i64 0),(.string ⟨#[]⟩),(.slice none 0 0)]),⟨none,none,.store 4 (.t 3) (.t 5)⟩] (.seq (.block 0 (zd_ [zw_ 7 0,zz_ 8 (.call 175 [(.t 7),(.k (.string ⟨#[60]⟩))]),zw_ 6 8] (.cond (.t 6) (zd_ [zw_ 9 0,zw_ 10 0,zi_ 11 10,zt_ 12 1 11,zs_ 13 1 12,zm_ 14 .add 13 1,zi_ 15 9,zt_ 16 1 15,⟨none,none,.store 1 (.t 16) (.t 14)⟩] (.seq (.regN true [] [zr_ 17 4 3,zw_ 18 0,zq_ 19 210 18,zz_ 20 (.call 164 [(.k (.int .i64 4)),(.t 17),(.t 19)]),⟨none,none,.store 4 (.t 2) (.t 20)⟩]) .ret)) (zd_ [zw_ 22 0,zz_ 23 (.call 175 [(.t 22),(.k (.string ⟨#[61,61]⟩))]),zw_ 21 23] (.cond (.t 21) (zd_ [zw_ 24 0,zw_ 25 0,zi_ 26 25,zt_ 27 1 26,zs_ 28 1 27,zm_ 29 .add 28 1,zi_ 30 24,zt_ 31 1 30,⟨none,none,.store 1 (.t 31) (.t 29)⟩] (.seq (.regN true [] [zr_ 32 4 3,zw_ 33 0,zq_ 34 210 33,zz_ 35 (.call 164 [(.k (.int .i64 5)),(.t 32),(.t 34)]),⟨none,none,.store 4 (.t 2) (.t 35)⟩]) .ret)) .skip))))) (zd_ [zr_ 36 4 3,⟨none,none,.store 4 (.t 2) (.t 36)⟩] .ret))))
theorem U1 :ay Tryz.prog (Tryz.f178.body.getD .skip)=some XF:=by kernel_rfl
theorem aeW(q:List D)(i:Nat)(hi:i≤q.length)(hl:q.length≤60)(hq:∀d∈q,IsT 120 d)(hSu:∀j,i≤j→j≤q.length→∀e b,bH Tryz.prog 210 [] (rdC q j e b) (dJ q j e))(e b:Int):bH Tryz.prog 178 [] (rdC q i e b) (dJ q i e):=by
 refine fQ (fn:=Tryz.f178) (r:= .cell 2 45) (hc:=U1) (h:= ?_)
 unfold XF rdC;refine zb_ ?_
 change dK _ _ _ _ (stS 37 _ _ _)
 refine sS tdX ?_
 repeat' (first|(refine rg_ ?_;intro K hK)|((first|(with_reducible refine aF 0 false bF ?_)|(refine aF 0 false (by simp[eu,St.ev]) ?_));intro K hK)|refine nN ?_|(refine hq_ ?_;clear hK K)|refine ca_ ?_ ?_|((with_reducible refine aB ?_);first|(refine aC true (h:=(zl q _ _ _ _ (by omega) hl hq)) (hK:= ?_);rintro _ _ _ ⟨rfl|⟨hx,rfl⟩,rfl,rfl⟩)|(refine aC true (h:=(hSu _ (by omega) (by omega) _ _)) (hK:= ?_);rintro _ _ _ ⟨⟨j,b1,hj0,hj1,⟨ek,en,et,eq,hE,rfl⟩,rfl⟩,rfl, -⟩)|refine tY true (h:=(uX _ _ _ _ _ _ _ _ _)) (hK:= ?_))|((with_reducible refine fG ?_);first|(refine iy true (h:=(hSu _ (by omega) (by omega) _ _)) (hne:=(lY _ _ _ (by omega))) (hr:= ?_);rintro _ _ _ ⟨⟨j,b1,hj0,hj1,⟨ek,en,et,eq,hE,rfl⟩,rfl⟩,rfl, -⟩)|refine af0 true (h:=(uX _ _ _ _ _ _ _ _ _)) (hK:= ?_))|((with_reducible refine ak ?_);refine ss (aho tdE (aho @bW (aho @bV (aho @bD (aho @rdC.eq_1 (aho @dT.eq_1 @fV)))))) ?_)|((with_reducible refine bf ?_);refine sx (aho tdE (aho @bW (aho @bV (aho @bD (aho @rdC.eq_1 (aho @dT.eq_1 @fV)))))) ?_)|refine nv ?_|(refine c2_ ?_ ?_<;>(intro hb hb';try(exfalso;omega)))|exact aA|exact au)
 all_goals(first
  |exact bP rfl rfl rfl (by kernel_rfl) ⟨⟨_,_,by omega,by omega,⟨_,_,_,_,(by assumption),rfl⟩,rfl⟩,rfl,trivial⟩
  |exact bP rfl rfl rfl (by kernel_rfl) ⟨⟨_,_,by omega,by omega,⟨_,_,_,_,IsE.mono hE (by omega),rfl⟩,rfl⟩,rfl,trivial⟩
  |exact bP rfl rfl rfl (by kernel_rfl) ⟨⟨_,_,by omega,by omega,⟨_,_,_,_,pU (by assumption) (by assumption) (by first|omega|(simp only[szD,a_,b_];omega)),rfl⟩,rfl⟩,rfl,trivial⟩
  |exact bP rfl rfl rfl (by kernel_rfl) ⟨⟨_,_,by omega,by omega,⟨_,_,_,_,nJ (by assumption) (by assumption) (by assumption) (by first|omega|(simp only[szD,a_,b_];omega)),rfl⟩,rfl⟩,rfl,trivial⟩
  |exact sV rfl rfl rfl rfl rfl rfl (by kernel_rfl) ⟨⟨_,_,by omega,by omega,⟨_,_,_,_,pU (by assumption) (by assumption) (by first|omega|(simp only[szD,a_,b_];omega)),rfl⟩,rfl⟩,rfl,trivial⟩
  |exact sV rfl rfl rfl rfl rfl rfl (by kernel_rfl) ⟨⟨_,_,by omega,by omega,⟨_,_,_,_,nJ (by assumption) (by assumption) (by assumption) (by first|omega|(simp only[szD,a_,b_];omega)),rfl⟩,rfl⟩,rfl,trivial⟩)
def XD :IC:=(zd_ [zz_ 2 (.alloc [(.int .i64 0),(.int .i64 0),(.string ⟨#[]⟩),(.slice none 0 0)])] (.seq (.block 0 (zd_ [zw_ 10 0,zz_ 11 (.call 175 [(.t 10),(.k (.string ⟨#[108,101,116]⟩))]),zw_ 9 11] (.cond (.t 9) (zd_ [zw_ 12 0,zw_ 13 0,zi_ 14 13,zt_ 15 1 14,zs_ 16 1 15,zm_ 17 .add 16 1,zi_ 18 12,zt_ 19 1 18,⟨none,none,.store 1 (.t 19) (.t 17)⟩] (zd_ [zw_ 20 0,zq_ 21 176 20,zw_ 3 21] (zd_ [zw_ 22 0,zz_ 23 (.call 177 [(.t 22),(.k (.string ⟨#[61]⟩))])] (zd_ [zw_ 24 0,zq_ 25 135 24,zz_ 4 (.alloc [(.int .i64 0),(.int .i64 0),(.string ⟨#[]⟩),(.slice none 0 0)]),⟨none,none,.store 4 (.t 4) (.t 25)⟩] (zd_ [zw_ 26 0,zz_ 27 (.call 177 [(.t 26),(.k (.string ⟨#[105,110]⟩))])] (.seq (.regN true [] [zw_ 28 3,zr_ 29 4 4,zw_ 30 0,zq_ 31 135 30,zz_ 32 (.brow true 45 4 2 false [(.t 29),(.t 31)]),zz_ 33 (.bld [(.int .i64 0),(.int .i64 0),(.string ⟨#[]⟩),(.slice none 0 0)] [(0,1,(.k (.int .i64 7))),(2,1,(.t 28)),(3,1,(.t 32))]),⟨none,none,.store 4 (.t 2) (.t 33)⟩]) .ret)))))) (zd_ [zw_ 35 0,zz_ 36 (.call 175 [(.t 35),(.k (.string ⟨#[105,102]⟩))]),zw_ 34 36] (.cond (.t 34) (zd_ [zw_ 37 0,zw_ 38 0,zi_ 39 38,zt_ 40 1 39,zs_ 41 1 40,zm_ 42 .add 41 1,zi_ 43 37,zt_ 44 1 43,⟨none,none,.store 1 (.t 44) (.t 42)⟩] (zd_ [zw_ 45 0,zq_ 46 135 45,zz_ 5 (.alloc [(.int .i64 0),(.int .i64 0),(.string ⟨#[]⟩),(.slice none 0 0)]),⟨none,none,.store 4 (.t 5) (.t 46)⟩] (zd_ [zw_ 47 0,zz_ 48 (.call 177 [(.t 47),(.k (.string ⟨#[116,104,101,110]⟩))])] (zd_ [zw_ 49 0,zq_ 50 135 49,zz_ 6 (.alloc [(.int .i64 0),(.int .i64 0),(.string ⟨#[]⟩),(.slice none 0 0)]),⟨none,none,.store 4 (.t 6) (.t 50)⟩] (zd_ [zw_ 51 0,zz_ 52 (.call 177 [(.t 51),(.k (.string ⟨#[101,108,115,101]⟩))])] (.seq (.regN true [] [zr_ 53 4 5,zr_ 54 4 6,zw_ 55 0,zq_ 56 135 55,zz_ 57 (.brow true 45 4 3 false [(.t 53),(.t 54),(.t 56)]),zz_ 58 (.bld [(.int .i64 0),(.int .i64 0),(.string ⟨#[]⟩),(.slice none 0 0)] [(0,1,(.k (.int .i64 8))),(3,1,(.t 57))]),⟨none,none,.store 4 (.t 2) (.t 58)⟩]) .ret)))))) (zd_ [zw_ 60 0,zz_ 61 (.call 175 [(.t 60),(.k (.string ⟨#[102,111,114]⟩))]),zw_ 59 61] (.cond (.t 59) (zd_ [zw_ 62 0,zw_ 63 0,zi_ 64 63,zt_ 65 1 64,zs_ 66 1 65,zm_ 67 .add 66 1,zi_ 68 62,zt_ 69 1 68,⟨none,none,.store 1 (.t 69) (.t 67)⟩] (zd_ [zw_ 70 0,zq_ 71 176 70,zw_ 7 71] (zd_ [zw_ 72 0,zz_ 73 (.call 177 [(.t 72),(.k (.string ⟨#[105,110]⟩))])] (zd_ [zw_ 74 0,zq_ 75 135 74,zz_ 8 (.alloc [(.int .i64 0),(.int .i64 0),(.string ⟨#[]⟩),(.slice none 0 0)]),⟨none,none,.store 4 (.t 8) (.t 75)⟩] (zd_ [zw_ 76 0,zz_ 77 (.call 177 [(.t 76),(.k (.string ⟨#[100,111]⟩))])] (.seq (.regN true [] [zw_ 78 7,zr_ 79 4 8,zw_ 80 0,zq_ 81 135 80,zz_ 82 (.brow true 45 4 2 false [(.t 79),(.t 81)]),zz_ 83 (.bld [(.int .i64 0),(.int .i64 0),(.string ⟨#[]⟩),(.slice none 0 0)] [(0,1,(.k (.int .i64 9))),(2,1,(.t 78)),(3,1,(.t 82))]),⟨none,none,.store 4 (.t 2) (.t 83)⟩]) .ret)))))) .skip))))))) (zd_ [zw_ 84 0,zq_ 85 178 84,⟨none,none,.store 4 (.t 2) (.t 85)⟩] .ret)))
theorem UY :ay Tryz.prog (Tryz.f135.body.getD .skip)=some XD:=by kernel_rfl
theorem aeJ(q:List D)(i:Nat)(hi:i≤q.length)(hl:q.length≤60)(hq:∀d∈q,IsT 120 d)(hCo:∀j,i≤j→j≤q.length→∀e b,bH Tryz.prog 178 [] (rdC q j e b) (dJ q j e))(hEx:∀j,i<j→j≤q.length→∀e b,bH Tryz.prog 135 [] (rdC q j e b) (dJ q j e))(e b:Int):bH Tryz.prog 135 [] (rdC q i e b) (dJ q i e):=by
 refine fQ (fn:=Tryz.f135) (r:= .cell 2 45) (hc:=UY) (h:= ?_)
 unfold XD rdC;refine zb_ ?_
 change dK _ _ _ _ (stS 86 _ _ _)
 refine sS tdX ?_
 repeat' (first|(refine rg_ ?_;intro K hK)|((first|(with_reducible refine aF 0 false bF ?_)|(refine aF 0 false (by simp[eu,St.ev]) ?_));intro K hK)|refine nN ?_|(refine hq_ ?_;clear hK K)|refine ca_ ?_ ?_|((with_reducible refine aB ?_);first|(refine aC true (h:=(zl q _ _ _ _ (by omega) hl hq)) (hK:= ?_);rintro _ _ _ ⟨rfl|⟨hx,rfl⟩,rfl,rfl⟩)|(refine aC true (h:=(agf q _ _ _ (by omega) hl hq)) (hK:= ?_);rintro _ _ _ ⟨⟨z,hz,rfl⟩,rfl,j,b1,hj0,hj1,rfl⟩)|(refine aC true (h:=(wK q _ _ _ _ (by omega) hl hq)) (hK:= ?_);rintro _ _ _ ⟨rfl,rfl,j,b1,hj0,hj1,rfl⟩)|(refine aC true (h:=(hEx _ (by omega) (by omega) _ _)) (hK:= ?_);rintro _ _ _ ⟨⟨j,b1,hj0,hj1,⟨ek,en,et,eq,hE,rfl⟩,rfl⟩,rfl, -⟩)|(refine aC true (h:=(hCo _ (by omega) (by omega) _ _)) (hK:= ?_);rintro _ _ _ ⟨⟨j,b1,hj0,hj1,⟨ek,en,et,eq,hE,rfl⟩,rfl⟩,rfl, -⟩))|((with_reducible refine fG ?_);first|(refine iy true (h:=(hEx _ (by omega) (by omega) _ _)) (hne:=(lY _ _ _ (by omega))) (hr:= ?_);rintro _ _ _ ⟨⟨j,b1,hj0,hj1,⟨ek,en,et,eq,hE,rfl⟩,rfl⟩,rfl, -⟩)|(refine iy true (h:=(hCo _ (by omega) (by omega) _ _)) (hne:=(lY _ _ _ (by omega))) (hr:= ?_);rintro _ _ _ ⟨⟨j,b1,hj0,hj1,⟨ek,en,et,eq,hE,rfl⟩,rfl⟩,rfl, -⟩))|((with_reducible refine ak ?_);refine ss (aho tdE (aho @bW (aho @bV (aho @bD (aho @rdC.eq_1 (aho @dT.eq_1 @fV)))))) ?_)|((with_reducible refine bf ?_);refine sx (aho tdE (aho @bW (aho @bV (aho @bD (aho @rdC.eq_1 (aho @dT.eq_1 @fV)))))) ?_)|refine nv ?_|(refine c2_ ?_ ?_<;>(intro hb hb';try(exfalso;omega)))|exact aA|exact au)
 all_goals(first
  |exact bP rfl rfl rfl (by kernel_rfl) ⟨⟨_,_,by omega,by omega,⟨_,_,_,_,(by assumption),rfl⟩,rfl⟩,rfl,trivial⟩
  |exact bP rfl rfl rfl (by kernel_rfl) ⟨⟨_,_,by omega,by omega,⟨_,_,_,_,IsE.mono hE (by omega),rfl⟩,rfl⟩,rfl,trivial⟩
  |exact bP rfl rfl rfl (by kernel_rfl) ⟨⟨_,_,by omega,by omega,⟨_,_,_,_,pU (by assumption) (by assumption) (by first|omega|(simp only[szD,a_,b_];omega)),rfl⟩,rfl⟩,rfl,trivial⟩
  |exact bP rfl rfl rfl (by kernel_rfl) ⟨⟨_,_,by omega,by omega,⟨_,_,_,_,nJ (by assumption) (by assumption) (by assumption) (by first|omega|(simp only[szD,a_,b_];omega)),rfl⟩,rfl⟩,rfl,trivial⟩
  |exact sV rfl rfl rfl rfl rfl rfl (by kernel_rfl) ⟨⟨_,_,by omega,by omega,⟨_,_,_,_,pU (by assumption) (by assumption) (by first|omega|(simp only[szD,a_,b_];omega)),rfl⟩,rfl⟩,rfl,trivial⟩
  |exact sV rfl rfl rfl rfl rfl rfl (by kernel_rfl) ⟨⟨_,_,by omega,by omega,⟨_,_,_,_,nJ (by assumption) (by assumption) (by assumption) (by first|omega|(simp only[szD,a_,b_];omega)),rfl⟩,rfl⟩,rfl,trivial⟩)
theorem Iq{P:Program}{t k e s v:Nat}{nw:Nw}{l:List D}{st:St}{c':List AC}{post:AV→List Own→List AC→Prop}(h1:st.fr.getD t .any= .c false [.own k v])(ho:st.owns[k]? =some ⟨l,e,s,v,nw⟩)(hn:nw.n=true)(h0:st.boxes[0]? =some c')
 (hq:post (.c false [.sl true l]) [] c') (hc:c'.all AC.cur=true:=by rfl):iV (rX P (.tmp t) post) .ret st:=
 ⟨false,[.sl true l],[],_,[],hq,rfl,h0,hc,by simp,trivial,rfl,_,h1,⟨rfl,by simp,_,ho,rfl,rfl,Or.inl hn⟩,trivial⟩
def XK :IC:=(zd_ [zz_ 4 (.mov (.k (.slice none 0 0)))] (zd_ [zz_ 6 (.brow true 45 4 0 false []),zw_ 5 6] (.seq (zd_ [zw_ 7 0,zw_ 8 1,zp_ 9 175 7 8] (.cond (.t 9) (zd_ [zw_ 10 0,zw_ 11 0,zi_ 12 11,zt_ 13 1 12,zs_ 14 1 13,zm_ 15 .add 14 1,zi_ 16 10,zt_ 17 1 16,⟨none,none,.store 1 (.t 17) (.t 15)⟩] (zd_ [zw_ 18 5,zw_ 4 18] .ret)) .skip)) (.seq (.block 0 (.loop (.seq (zd_ [zw_ 19 0,zi_ 20 19,zt_ 21 3 20,zs_ 22 1 21,zm_ 23 .lss 22 0] (.cond (.t 23) .skip (.exit 0))) (.block 1 (zd_ [zw_ 24 5,zw_ 25 0,zq_ 26 135 25,zz_ 27 (.brow false 45 4 1 false [(.t 26)]),zz_ 28 (.app 45 4 (.t 24) (.t 27)),zw_ 5 28] (.seq (zd_ [zw_ 29 0,zz_ 30 (.call 175 [(.t 29),(.k (.string ⟨#[44]⟩))]),zz_ 31 (.not (.t 30))] (.cond (.t 31) (.exit 0) .skip)) (.reg false [zw_ 32 0,zw_ 33 0,zi_ 34 33,zt_ 35 1 34,zs_ 36 1 35,zm_ 37 .add 36 1,zi_ 38 32,zt_ 39 1 38,⟨none,none,.store 1 (.t 39) (.t 37)⟩]))))))) (zd_ [zw_ 40 0,zw_ 41 1,zp_ 42 177 40 41] (zd_ [zw_ 43 5,zw_ 4 43] .ret))))))
theorem U6 :ay Tryz.prog (Tryz.f223.body.getD .skip)=some XK:=by kernel_rfl
theorem afc(q:List D)(i:Nat)(s:ByteArray)(hi:i≤q.length)(hl:q.length≤60)(hq:∀d∈q,IsT 120 d)(hEx:∀j,i≤j→j≤q.length→∀e b,bH Tryz.prog 135 [] (rdC q j e b) (dJ q j e))(e b:Int):bH Tryz.prog 223 [ls s] (rdC q i e b) (mQ q i e):=by
 refine fQ (fn:=Tryz.f223) (r:= .tmp 4) (hc:=U6) (h:= ?_)
 unfold XK rdC;refine zb_ ?_
 change dK _ _ _ _ (stS 44 _ _ _)
 refine sS tdX ?_
 repeat' (first|(refine rg_ ?_;intro K hK)|(refine hq_ ?_;clear hK K)|refine ca_ ?_ ?_|((with_reducible refine aB ?_);first|(refine aC true (h:=(zl q _ _ _ _ (by omega) hl hq)) (hK:= ?_);rintro _ _ _ ⟨rfl|⟨hx,rfl⟩,rfl,rfl⟩))|((with_reducible refine ak ?_);refine ss (aho tdE (aho @bW (aho @bV (aho @bD (aho @rdC.eq_1 (aho @dT.eq_1 @fV)))))) ?_)|refine nv ?_|(refine c2_ ?_ ?_<;>(intro hb hb';try(exfalso;omega)))|exact aA|exact au)
 all_goals first
  |exact Iq rfl rfl rfl rfl ⟨⟨_,_,_,by omega,by omega,wW,rfl,rfl⟩,rfl,trivial⟩
  |skip
 refine iG (X:=Nat×Int×Nat×List D) (fun z=> [.k,.k,.d,.d,.d,.v (.c false [.own 0 z.2.2.1]),.d,.d,.d,.d,.d,.d,.d,.d,.d,.d,.d,.d,.d,.d,.d,.d,.d,.d,.d,.d,.d,.d,.d,.d,.d,.d,.d,.d,.d,.d,.d,.d,.d,.d,.d,.d,.d,.d]) (fun z=> [⟨z.2.2.2,45,4,z.2.2.1,true⟩]) (fun z _=> [rdC q z.1 e z.2.1])
  (fun z=>i≤z.1∧z.1≤q.length∧JQ (300*(z.1 - i)) z.2.2.2) (fun z=>q.length - z.1) (i,b,0,[]) ⟨Nat.le_refl _,hi,wW⟩ (fun z=>⟨c_ _,by simp⟩) ?_ ?_
 ·simp[aO,aX,aK,aN,AV.fits,AC.fits,FB,aG,rdC]
 rintro⟨j0,b0,v0,l0⟩ ⟨hj0,hj1,hE0⟩
 simp only at hj0 hj1 hE0
 have hln:=abU hE0
 simp only[FB,aG]
 repeat' (first|(refine rg_ ?_;intro K hK)|(refine hq_ ?_;clear hK K)|refine ca_ ?_ ?_|((with_reducible refine aB ?_);first|(refine aC true (h:=(zl q _ _ _ _ (by omega) hl hq)) (hK:= ?_);rintro _ _ _ ⟨rfl|⟨hx,rfl⟩,rfl,rfl⟩)|(refine aC true (h:=(wK q _ _ _ _ (by omega) hl hq)) (hK:= ?_);rintro _ _ _ ⟨rfl,rfl,j,b1,hj0,hj1,rfl⟩)|(refine aC true (h:=(hEx _ (by omega) (by omega) _ _)) (hK:= ?_);rintro _ _ _ ⟨⟨j,b1,hj0,hj1,⟨ek,en,et,eq,hE,rfl⟩,rfl⟩,rfl, -⟩))|((with_reducible refine ak ?_);refine ss (aho tdE (aho @bW (aho @bV (aho @bD (aho @rdC.eq_1 (aho @dT.eq_1 @fV)))))) ?_)|refine nv ?_|(refine c2_ ?_ ?_<;>(intro hb hb';try(exfalso;omega)))|exact aA|exact au)
 all_goals first
  |omega
  |exact aer hE0
  |exact elE hE
  | (refine aS (j+1,b1,v0+1,l0++ [dE ek en et eq]) ⟨?_,⟨⟨rfl,rfl,rfl,rfl,rfl⟩,trivial⟩,⟨rfl,trivial⟩,rfl⟩ ⟨by omega,by omega,pq hE0 hE (by omega)⟩ (show q.length - (j+1)<q.length - j0 by omega)
     simp[aX,AV.fits,AC.fits,FB,aG]
     done)
  |exact Iq rfl rfl rfl rfl ⟨⟨_,_,_,by omega,by omega,Y8 hE0 (by omega),rfl,rfl⟩,rfl,trivial⟩
  |exact Iq rfl rfl rfl rfl ⟨⟨_,_,_,by omega,by omega,pq hE0 hE (by omega),rfl,rfl⟩,rfl,trivial⟩
def adB(q:List D)(i:Nat):Prop:=(∀e b,bH Tryz.prog 135 [] (rdC q i e b) (dJ q i e))∧(∀(s:ByteArray) e b,bH Tryz.prog 223 [ls s] (rdC q i e b) (mQ q i e))
theorem WE(q:List D)(hl:q.length≤60)(hq:∀d∈q,IsT 120 d):∀(m i:Nat),i≤q.length→q.length - i<m→adB q i
 |0,i,_,h=>absurd h (Nat.not_lt_zero _)
 | m+1,i,hi,hm=>by
   have ih:∀j,i<j→j≤q.length→adB q j:=fun j h1 h2=>WE q hl hq m j h2 (by omega)
   have hAt:∀j,i≤j→j≤q.length→∀e b,bH Tryz.prog 222 [] (rdC q j e b) (dJ q j e):=fun j h1 h2 e b=>ae7 q j h2 hl hq (fun k h3 h4=>(ih k (by omega) h4).1) (fun k h3 h4=>(ih k (by omega) h4).2) e b
   have hPr:∀j,i≤j→j≤q.length→∀e b,bH Tryz.prog 219 [] (rdC q j e b) (dJ q j e):=fun j h1 h2 e b=>ad6 q j h2 hl hq (fun k h3 h4=>hAt k (by omega) h4) e b
   have hSu:∀j,i≤j→j≤q.length→∀e b,bH Tryz.prog 210 [] (rdC q j e b) (dJ q j e):=fun j h1 h2 e b=>afY q j h2 hl hq (fun k h3 h4=>hPr k (by omega) h4) e b
   have hCo:∀j,i≤j→j≤q.length→∀e b,bH Tryz.prog 178 [] (rdC q j e b) (dJ q j e):=fun j h1 h2 e b=>aeW q j h2 hl hq (fun k h3 h4=>hSu k (by omega) h4) e b
   have hEx:∀e b,bH Tryz.prog 135 [] (rdC q i e b) (dJ q i e):=fun e b=>aeJ q i hi hl hq (fun k h3 h4=>hCo k (by omega) h4) (fun k h3 h4=>(ih k h3 h4).1) e b
   refine⟨hEx,fun s e b=>afc q i s hi hl hq (fun k h3 h4=> ?_) e b⟩
   rcases Nat.eq_or_lt_of_le h3 with rfl|h5
   ·exact hEx
   ·exact(ih k h5 h4).1
theorem agm(q:List D)(e b:Int)(hl:q.length≤60)(hq:∀d∈q,IsT 120 d):bH Tryz.prog 135 [] (rdC q 0 e b) (dJ q 0 e):=(WE q hl hq _ 0 (c_ _) (Nat.lt_succ_self _)).1 e b
theorem Zv{P:Program}{t ty s k:Nat}{kd n m:Int}{z:ByteArray}{st:St}{post:AV→List Own→Prop}(h1:st.fr.getD t .any= .bptr k 0)(h2:st.boxes[k]? =some [.raw (.int .i64 kd),.raw (.int .i64 n),.raw (.string z),.raw (.slice none 0 0)])(h3:st.fr.getD s .any= .c false [.raw (.int .i64 m)])
 (hp:fE P (.cell t ty) true 4=true) (hq:post (.tup [(true,[.raw (.int .i64 kd),.raw (.int .i64 n),.raw (.string z),.sl true []]),(false,[.raw (.int .i64 m)])]) []):iV (BN P (.cell t ty) (.tmp s) post) .ret st:=
 ⟨true,false,_,_,[],[],hq,rfl,rfl,by simp,trivial,hp,rfl,⟨k,_,h1,h2,⟨rfl,rfl,rfl,⟨rfl,rfl,rfl⟩,trivial⟩⟩,⟨_,h3,⟨rfl,trivial⟩⟩⟩
theorem acz{P:Program}{t ty s k:Nat}{kd n m:Int}{z:ByteArray}{l:List D}{st:St}{post:AV→List Own→Prop}(h1:st.fr.getD t .any= .bptr k 0)(h2:st.boxes[k]? =some [.raw (.int .i64 kd),.raw (.int .i64 n),.raw (.string z),.sl true l])(h3:st.fr.getD s .any= .c false [.raw (.int .i64 m)])
 (hp:fE P (.cell t ty) true 4=true) (hq:post (.tup [(true,[.raw (.int .i64 kd),.raw (.int .i64 n),.raw (.string z),.sl true l]),(false,[.raw (.int .i64 m)])]) []):iV (BN P (.cell t ty) (.tmp s) post) .ret st:=
 ⟨true,false,_,_,[],[],hq,rfl,rfl,by simp,trivial,hp,rfl,⟨k,_,h1,h2,⟨rfl,rfl,rfl,⟨rfl,rfl,rfl⟩,trivial⟩⟩,⟨_,h3,⟨rfl,trivial⟩⟩⟩
theorem aae(k n:Int)(t:ByteArray)(l:List D)(h:IsE 20000 (dE k n t l)):bJ Tryz.prog 137 [dE k n t l] (fun r os'=>(∃b:Bool,r= .c false [.raw (.bool b)])∧os'= []):=by
 obtain⟨x,h1,h2⟩:=h
 rw[h1]
 exact aV.toX (wG x (by omega)) ⟨_,rfl⟩
def KG :IC:=(zd_ [zz_ 2 (.alloc [(.int .i64 0),(.int .i64 0),(.string ⟨#[]⟩),(.slice none 0 0)]),zk_ 3 0] (zd_ [zw_ 9 0,zq_ 10 134 9,zw_ 8 10,zz_ 11 (.ext 0 (.t 8)),zz_ 12 (.ext 1 (.t 8)),zw_ 4 11,zw_ 5 12] (.seq (zd_ [zw_ 13 5,zm_ 14 .geq 13 0] (.cond (.t 14) (zd_ [zz_ 15 (.bld [(.int .i64 0),(.int .i64 0),(.string ⟨#[]⟩),(.slice none 0 0)] []),zw_ 16 5,⟨none,none,.store 4 (.t 2) (.t 15)⟩,zw_ 3 16] .ret) .skip)) (zd_ [zw_ 17 4,zw_ 18 0,zf_ 19 true 18,zz_ 20 (.bld [(.slice none 0 0),(.int .i64 0),(.int .i64 0),(.int .i64 0)] [(0,1,(.t 17)),(2,1,(.t 19)),(3,1,(.k (.int .i64 (-1))))]),zz_ 21 (.box (.t 20)),zw_ 6 21] (zd_ [zw_ 22 6,zq_ 23 135 22,zz_ 7 (.alloc [(.int .i64 0),(.int .i64 0),(.string ⟨#[]⟩),(.slice none 0 0)]),⟨none,none,.store 4 (.t 7) (.t 23)⟩] (.seq (zd_ [zw_ 24 6,zi_ 25 24,zt_ 26 3 25,zs_ 27 1 26,zm_ 28 .lss 27 0,zw_ 29 28,zv_ 30 29 6,zy_ 31 29 (.nck (.t 30)),zy_ 32 29 (.fad 1 (.t 31)),zy_ 33 29 (.load 1 false (.t 32)),zv_ 34 29 4,zy_ 35 29 (.len false (.t 34)),zy_ 36 29 (.bin .lss (.t 33) (.t 35)),zh_ 37 29 36 false] (.cond (.t 37) (.reg false [zw_ 38 6,zq_ 39 136 38]) .skip)) (.seq (zd_ [zw_ 40 6,zi_ 41 40,zt_ 42 3 41,zs_ 43 1 42,zm_ 44 .geq 43 0] (.cond (.t 44) (.seq (.regN false [1000000,2] [zz_ 45 (.bld [(.int .i64 0),(.int .i64 0),(.string ⟨#[]⟩),(.slice none 0 0)] []),zw_ 46 6,zi_ 47 46,zt_ 48 3 47,zs_ 49 1 48,⟨none,none,.store 4 (.t 2) (.t 45)⟩,zw_ 3 49]) .ret) .skip)) (.seq (zd_ [zr_ 50 4 7,zq_ 51 137 50,zz_ 52 (.not (.t 51))] (.cond (.t 52) (zd_ [zz_ 53 (.bld [(.int .i64 0),(.int .i64 0),(.string ⟨#[]⟩),(.slice none 0 0)] []),⟨none,none,.store 4 (.t 2) (.t 53)⟩,zk_ 3 0] .ret) .skip)) (zd_ [zr_ 54 4 7,⟨none,none,.store 4 (.t 2) (.t 54)⟩,zk_ 3 (-1)] .ret)))))))))
theorem ND :ay Tryz.prog (Tryz.f117.body.getD .skip)=some KG:=by kernel_rfl
theorem abt(s:ByteArray)(hs:s.size≤1048576):bJ Tryz.prog 117 [ls s] (fun r os'=>(∃(k n:Int) (t:ByteArray) (l:List D) (b:Int),IsE 20000 (dE k n t l)∧r= .tup [(true,[.raw (.int .i64 k),.raw (.int .i64 n),.raw (.string t),.sl true l]),(false,[.raw (.int .i64 b)])])∧os'= []):=by
 refine pG (fn:=Tryz.f117) (r:= .cell 2 45) (q:= .tmp 3) (hc:=ND) (h:= ?_)
 unfold KG;refine zb_ ?_
 change AWP _ _ _ (st0 55 _)
 refine sS tdX ?_
 repeat' (first|(refine rg_ ?_;intro K hK)|((first|(with_reducible refine aF 0 false bF ?_)|(refine aF 0 false (by simp[eu,St.ev]) ?_));intro K hK)|refine nN ?_|(refine hq_ ?_;clear hK K)|refine ca_ ?_ ?_|refine gq_ ?_|(refine c2_ ?_ ?_<;>(intro hb hb';try(exfalso;omega)))|((with_reducible refine jk ?_);first|(refine eH ?_ ?_;rfl)|(refine eP ?_ ?_;(rfl;refine gnF ?_)))|((with_reducible refine aB ?_);first|(refine bI (h:=(afV _ hs)) (hK:= ?_);rintro _ _ ⟨⟨q,b0,hl,hq,rfl⟩,rfl⟩)|(refine aC true (h:=(agm q _ _ hl hq)) (hK:= ?_);rintro _ _ _ ⟨⟨j,b1,hj0,hj1,⟨ek,en,et,eq,hE,rfl⟩,rfl⟩,rfl, -⟩)|(refine aC true (h:=(oK q _ _ _ hj1 hl hq)) (hK:= ?_);rintro _ _ _ ⟨⟨fk,fn,ft,fq,hE2,rfl⟩,rfl,b2,rfl⟩)|(refine bI (h:=(aae _ _ _ _ (IsE.mono hE (by omega)))) (hK:= ?_);rintro _ _ ⟨⟨_|_,rfl⟩,rfl⟩))|((with_reducible refine ak ?_);refine ss (aho tdE (aho @bW (aho @bV (aho @bD (aho @rdC.eq_1 (aho @dT.eq_1 @fV)))))) ?_)|((with_reducible refine bf ?_);refine sx (aho tdE (aho @bW (aho @bV (aho @bD (aho @rdC.eq_1 (aho @dT.eq_1 @fV)))))) ?_)|refine nv ?_|exact aA|exact au)
 all_goals first
  |exact Zv rfl rfl rfl (by kernel_rfl) ⟨⟨_,_,_,_,_,IsE.dB 20000 _ _ _ (by simp[szD]),rfl⟩,rfl⟩
  |exact acz rfl rfl rfl (by kernel_rfl) ⟨⟨_,_,_,_,_,IsE.mono hE (by omega),rfl⟩,rfl⟩
end Go.Proofs.YtfjmoicellpnhaaGreat
