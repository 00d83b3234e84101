/-
  Texts joined: Prt Lge.
-/
import Derived.Test.YtfjmoicellpnhaaGreatJT
set_option maxHeartbeats 16000000
set_option maxRecDepth 8000
set_option linter.unusedSimpArgs false
set_option linter.unusedVariables false
namespace Go.Proofs.YtfjmoicellpnhaaGreat
open Go.RowKit
open List renaming length_set→a_,getElem_mem→d_,length_map→e_
open Nat renaming zero_le→b_,le_refl→c_
attribute [local irreducible] sw sd sn
theorem ag6{P:Program}{t:Nat}{l:List UInt8}{ps:List D}{i h:Int}{st:St}{post:AV→List Own→List AC→Prop}(h1:st.fr.getD t .any= .c false [.sl true ps])(h0:st.boxes[0]? =some (bK l i h))(hq:post (.c false [.sl true ps]) [] (bK l i h)):iG (sH P (.tmp t) post) .ret st:=
 ⟨false,_,[],_,[],hq,rfl,h0,rfl,by simp,trivial,rfl,_,h1,⟨⟨rfl,rfl,rfl⟩,trivial⟩⟩
theorem Uf{W:Nat}{x:GCell}{z:ByteArray}(h:oV W x)(hz:z.size≤8):oV W {x with name:=z}:=⟨h.1,h.2.1,h.2.2.1,h.2.2.2.1,Nat.le_trans hz (by decide),h.2.2.2.2.2⟩
theorem Ug{W:Nat}{x:GCell}{z:ByteArray}(h:oV W x)(hz:z.size≤W):oV W {x with code:=z}:=⟨h.1,h.2.1,h.2.2.1,h.2.2.2.1,h.2.2.2.2.1,hz⟩
def IY :IC:=(zd_ [zz_ 2 (.mov (.k (.slice none 0 0)))] (zd_ [zw_ 5 0,zn_ 6 88 5 8,zz_ 3 (.alloc [(.slice none 0 0)]),⟨none,none,.store 1 (.t 3) (.t 6)⟩] (.seq (zd_ [zk_ 4 0] (.block 0 (.loop (.seq (zd_ [zw_ 7 4,zt_ 8 0 3,zs_ 9 1 8,zf_ 10 false 9,zl_ 11 .lss 7 10] (.cond (.t 11) .skip (.exit 0))) (.seq (.block 1 (zd_ [zt_ 14 0 3,zs_ 15 1 14,zw_ 16 4,ze_ 17 6 15 16,zt_ 18 2 17,zs_ 19 1 18,zm_ 20 .neq 19 1,zw_ 21 20,zv_ 22 21 0,zy_ 23 21 (.call 83 [(.t 22),(.k (.int .i64 8))]),zh_ 24 21 23 false] (.cond (.t 24) (.regN true [] [zt_ 25 0 3,zs_ 26 1 25,zw_ 27 4,zw_ 28 0,zz_ 29 (.brow false 9 1 2 false [(.k (.string ⟨#[97]⟩)),(.k (.string ⟨#[98]⟩))]),zp_ 30 89 28 29,ze_ 31 6 26 27,zt_ 32 3 31,⟨none,none,.store 1 (.t 32) (.t 30)⟩]) .skip))) (.reg false [zw_ 12 4,zm_ 13 .add 12 1,zw_ 4 13])))))) (zd_ [zr_ 33 1 3,zq_ 34 90 33,zw_ 2 34] .ret))))
theorem KH :ak Tryz.prog (Tryz.f65.body.getD .skip)=some IY:=by kernel_rfl
theorem Lr(l:List UInt8)(i h:Int)(h0:0≤i)(h1:i≤l.length)(hl:l.length≤1048576):aZ Tryz.prog 65 [] (bK l i h) (fun r os' c'=>(EC r)∧os'= []∧qx l c'):=by
 refine fG (fn:=Tryz.f65) (r:= .tmp 2) (hc:=KH) (h:= ?_);unfold IY bK;refine zb_ ?_;change dH _ _ _ _ (stS 35 _ _ _);refine sS tdX ?_
 repeat' (first|(refine hq_ ?_;clear hK K)|refine ca_ ?_ ?_|refine gq_ ?_|(refine c2_ ?_ ?_<;>(intro hb hb';try(exfalso;omega)))|(refine cg_ ?_;first|(refine ay true (h:=(WW l _ _ 8 ‹_› ‹_› hl (by decide))) (hK:= ?_);rintro _ _ _ ⟨⟨cs,hcs,hall,rfl,rfl⟩,i,h,hi0,hi1,rfl⟩))|refine sz_ tdE ?_|refine nv ?_|(refine rD ?_;intro K hK)|(exact GCell.el _)|exact bq_|fail)
 have hcs9:cs.length≤9:=by omega
 refine gW (X:=Nat×Bool×List GCell×Int×Int) (fun z=> [.k,.d,.d,.k,.v (.c false [.raw (.int .i64 ((z.1:Nat)))])]) (fun z=> [⟨z.2.2.1.map GCell.toD,85,6,0,⟨true,z.2.1⟩⟩]) (fun z _=> [bK l z.2.2.2.1 z.2.2.2.2,[.own 0 0]])
  (fun z=>z.1≤z.2.2.1.length∧z.2.2.1.length≤9∧(∀x∈z.2.2.1,oV 5000 x)∧0≤z.2.2.2.1∧z.2.2.2.1≤l.length) (fun z=>z.2.2.1.length - z.1) (0,true,cs,i,h) ⟨b_ _,by omega,fun x hx=>(hall x hx).mono (by decide),hi0,hi1⟩ (fun z=>⟨b_ _,by simp⟩) ?_ ?_
 ·simp[aG,aU,aC,aF,AV.fits,AC.fits,FB,aB,bK]
 clear hcs hall hcs9;rintro⟨k,m,cs,i,h⟩ ⟨hk0,hcs,hall,hi0,hi1⟩;simp only at hk0 hcs hall hi0 hi1;simp only[FB,aB];by_cases hk:k<cs.length
 ·have hT:decide ((k:Int)<(cs.length:Int))=true:=decide_eq_true (by omega);have hw1:(k:Int)+1=((k+1:Nat):Int):=by omega
  have hg:idx (cs.map GCell.toD) (some (k:Int))=some (cs[k]).toD:=bU GCell.toD cs hk;have hg2:=ads hk;have hck:=hall _ (d_ hk)
  repeat' (first|(refine rg_ ?_;intro K hK)|((first|(with_reducible refine aA 0 false bg ?_)|(refine aA 0 false (by simp[dU,St.ev]) ?_));intro K hK)|refine nN ?_|(refine hq_ ?_;clear hK K)|refine ca_ ?_ ?_|refine gq_ ?_|(refine c2_ ?_ ?_<;>(intro hb hb';try(exfalso;omega)))|((with_reducible refine iY ?_);first|(refine dW ?_ ?_;rfl)|(refine dX ?_ ?_;(rfl;refine gnF ?_)))|(refine cg_ ?_;first|(refine ay true (h:=(lV l _ _ (8) ‹_› ‹_› hl (by decide))) (hK:= ?_);rintro _ _ _ ⟨⟨_|_,rfl⟩,rfl,i,h,hi0,hi1,rfl⟩)|(refine ay true (h:=(mG l _ _ 8 [(⟨#[97]⟩:ByteArray),(⟨#[98]⟩:ByteArray)] ‹_› ‹_› hl (by simp) (by simp) (by decide))) (hK:= ?_);rintro _ _ _ ⟨⟨y,hy,rfl⟩,rfl,i,h,hi0,hi1,rfl⟩))|((with_reducible refine fB ?_);first|(refine iq true (h:=(mG l _ _ 8 [(⟨#[97]⟩:ByteArray),(⟨#[98]⟩:ByteArray)] ‹_› ‹_› hl (by simp) (by simp) (by decide))) (hne:=⟨_,[],bK l 0 0,⟨⟨⟨#[]⟩,b_ _,rfl⟩,rfl,0,0,by omega,by omega,rfl⟩,rfl⟩) (hr:= ?_);rintro _ _ _ ⟨⟨y,hy,rfl⟩,rfl,i,h,hi0,hi1,rfl⟩))|refine sz_ (a6_ tdE hT hw1 hg hg2 @jV) ?_|refine nv ?_|(exact GCell.el _)|exact bq_|fail)
  all_goals first
   |omega
   |(simp only[e_];omega)
   | (refine aP (k+1,_,cs.set k {cs[k]with name:=y},i,h) ⟨?_,⟨⟨abB _,rfl,rfl,rfl,rfl⟩,trivial⟩,⟨rfl,rfl,trivial⟩,rfl⟩ ⟨by simp only[a_];omega,by simp only[a_];omega,Uu hall (Uf hck (by omega)),by assumption,by assumption⟩ (show(cs.set k _).length - (k+1)<cs.length - k by rw[a_];omega)
      simp[aU,AV.fits,AC.fits,FB,aB]
      done)
   | (refine aP (k+1,_,cs,i,h) ⟨?_,⟨⟨rfl,rfl,rfl,rfl,rfl⟩,trivial⟩,⟨rfl,rfl,trivial⟩,rfl⟩ ⟨by simp only;omega,hcs,hall,by assumption,by assumption⟩ (show cs.length - (k+1)<cs.length - k by omega)
      simp[aU,AV.fits,AC.fits,FB,aB]
      done)
 ·have hT:decide ((k:Int)<(cs.length:Int))=false:=decide_eq_false (by omega)
  repeat' (first|(refine hq_ ?_;clear hK K)|refine ca_ ?_ ?_|refine gq_ ?_|(refine c2_ ?_ ?_<;>(intro hb hb';try(exfalso;omega)))|(refine cg_ ?_;first|(refine bn (h:=(Nj cs (by omega) hall)) (hK:= ?_);rintro _ _ ⟨⟨ps,hp1,hp2,rfl⟩,rfl⟩))|refine sz_ (aiX tdE hT) ?_|refine nv ?_|(refine rD ?_;intro K hK)|(exact GCell.el _)|exact bq_|fail)
  all_goals exact ag6 rfl rfl ⟨⟨ps,hp1,hp2,rfl⟩,rfl,_,_, ‹_›, ‹_›,rfl⟩
def IX :IC:=(zd_ [zz_ 2 (.mov (.k (.slice none 0 0)))] (zd_ [zw_ 6 0,zn_ 7 88 6 7,zz_ 3 (.alloc [(.slice none 0 0)]),⟨none,none,.store 1 (.t 3) (.t 7)⟩] (.seq (zd_ [zk_ 4 0] (.block 0 (.loop (.seq (zd_ [zw_ 8 4,zt_ 9 0 3,zs_ 10 1 9,zf_ 11 false 10,zl_ 12 .lss 8 11] (.cond (.t 12) .skip (.exit 0))) (.seq (.block 1 (zd_ [zt_ 15 0 3,zs_ 16 1 15,zw_ 17 4,ze_ 18 6 16 17,zr_ 19 6 18,zz_ 5 (.alloc [(.int .i64 0),(.int .i64 0),(.int .i64 0),(.string ⟨#[]⟩),(.string ⟨#[]⟩),(.int .i64 0)]),⟨none,none,.store 6 (.t 5) (.t 19)⟩] (zd_ [zt_ 20 2 5,zs_ 21 1 20,zm_ 22 .eql 21 2,zw_ 23 22,zv_ 24 23 0,zy_ 25 23 (.call 83 [(.t 24),(.k (.int .i64 3))]),zy_ 26 23 (.not (.t 25)),zh_ 27 23 26 false] (.cond (.t 27) (.regN true [] [zt_ 28 0 3,zs_ 29 1 28,zw_ 30 4,zw_ 31 0,zz_ 32 (.brow false 9 1 10 false [(.k (.string ⟨#[97]⟩)),(.k (.string ⟨#[98]⟩)),(.k (.string ⟨#[99]⟩)),(.k (.string ⟨#[100]⟩)),(.k (.string ⟨#[97,32,43,32,98]⟩)),(.k (.string ⟨#[98,32,43,32,99]⟩)),(.k (.string ⟨#[99,32,43,32,100]⟩)),(.k (.string ⟨#[100,32,43,32,97]⟩)),(.k (.string ⟨#[97,32,43,32,101]⟩)),(.k (.string ⟨#[91,97,44,32,99,93]⟩))]),zp_ 33 89 31 32,ze_ 34 6 29 30,zt_ 35 4 34,⟨none,none,.store 1 (.t 35) (.t 33)⟩]) .skip)))) (.reg false [zw_ 13 4,zm_ 14 .add 13 1,zw_ 4 14])))))) (zd_ [zr_ 36 1 3,zq_ 37 90 36,zw_ 2 37] .ret))))
theorem KG :ak Tryz.prog (Tryz.f55.body.getD .skip)=some IX:=by kernel_rfl
theorem ZW(l:List UInt8)(i h:Int)(h0:0≤i)(h1:i≤l.length)(hl:l.length≤1048576):aZ Tryz.prog 55 [] (bK l i h) (fun r os' c'=>(EC r)∧os'= []∧qx l c'):=by
 refine fG (fn:=Tryz.f55) (r:= .tmp 2) (hc:=KG) (h:= ?_);unfold IX bK;refine zb_ ?_;change dH _ _ _ _ (stS 38 _ _ _);refine sS tdX ?_
 repeat' (first|(refine hq_ ?_;clear hK K)|refine ca_ ?_ ?_|refine gq_ ?_|(refine c2_ ?_ ?_<;>(intro hb hb';try(exfalso;omega)))|(refine cg_ ?_;first|(refine ay true (h:=(WW l _ _ 7 ‹_› ‹_› hl (by decide))) (hK:= ?_);rintro _ _ _ ⟨⟨cs,hcs,hall,rfl,rfl⟩,i,h,hi0,hi1,rfl⟩))|refine sz_ tdE ?_|refine nv ?_|(refine rD ?_;intro K hK)|(exact GCell.el _)|exact bq_|fail)
 have hcs9:cs.length≤9:=by omega
 refine gW (X:=Nat×Bool×List GCell×Int×Int) (fun z=> [.k,.d,.d,.k,.v (.c false [.raw (.int .i64 ((z.1:Nat)))])]) (fun z=> [⟨z.2.2.1.map GCell.toD,85,6,0,⟨true,z.2.1⟩⟩]) (fun z _=> [bK l z.2.2.2.1 z.2.2.2.2,[.own 0 0]])
  (fun z=>z.1≤z.2.2.1.length∧z.2.2.1.length≤9∧(∀x∈z.2.2.1,oV 5000 x)∧0≤z.2.2.2.1∧z.2.2.2.1≤l.length) (fun z=>z.2.2.1.length - z.1) (0,true,cs,i,h) ⟨b_ _,by omega,fun x hx=>(hall x hx).mono (by decide),hi0,hi1⟩ (fun z=>⟨b_ _,by simp⟩) ?_ ?_
 ·simp[aG,aU,aC,aF,AV.fits,AC.fits,FB,aB,bK]
 clear hcs hall hcs9;rintro⟨k,m,cs,i,h⟩ ⟨hk0,hcs,hall,hi0,hi1⟩;simp only at hk0 hcs hall hi0 hi1;simp only[FB,aB];by_cases hk:k<cs.length
 ·have hT:decide ((k:Int)<(cs.length:Int))=true:=decide_eq_true (by omega);have hw1:(k:Int)+1=((k+1:Nat):Int):=by omega
  have hg:idx (cs.map GCell.toD) (some (k:Int))=some (cs[k]).toD:=bU GCell.toD cs hk;have hg2:=ads hk;have hck:=hall _ (d_ hk)
  repeat' (first|(refine rg_ ?_;intro K hK)|((first|(with_reducible refine aA 0 false bg ?_)|(refine aA 0 false (by simp[dU,St.ev]) ?_));intro K hK)|refine nN ?_|(refine hq_ ?_;clear hK K)|refine ca_ ?_ ?_|refine gq_ ?_|(refine c2_ ?_ ?_<;>(intro hb hb';try(exfalso;omega)))|((with_reducible refine iY ?_);first|(refine dW ?_ ?_;rfl)|(refine dX ?_ ?_;(rfl;refine gnF ?_)))|(refine cg_ ?_;first|(refine ay true (h:=(lV l _ _ (3) ‹_› ‹_› hl (by decide))) (hK:= ?_);rintro _ _ _ ⟨⟨_|_,rfl⟩,rfl,i,h,hi0,hi1,rfl⟩)|(refine ay true (h:=(mG l _ _ 8 [(⟨#[97]⟩:ByteArray),(⟨#[98]⟩:ByteArray),(⟨#[99]⟩:ByteArray),(⟨#[100]⟩:ByteArray),(⟨#[97,32,43,32,98]⟩:ByteArray),(⟨#[98,32,43,32,99]⟩:ByteArray),(⟨#[99,32,43,32,100]⟩:ByteArray),(⟨#[100,32,43,32,97]⟩:ByteArray),(⟨#[97,32,43,32,101]⟩:ByteArray),(⟨#[91,97,44,32,99,93]⟩:ByteArray)] ‹_› ‹_› hl (by simp) (by simp) (by decide))) (hK:= ?_);rintro _ _ _ ⟨⟨y,hy,rfl⟩,rfl,i,h,hi0,hi1,rfl⟩))|((with_reducible refine fB ?_);first|(refine iq true (h:=(mG l _ _ 8 [(⟨#[97]⟩:ByteArray),(⟨#[98]⟩:ByteArray),(⟨#[99]⟩:ByteArray),(⟨#[100]⟩:ByteArray),(⟨#[97,32,43,32,98]⟩:ByteArray),(⟨#[98,32,43,32,99]⟩:ByteArray),(⟨#[99,32,43,32,100]⟩:ByteArray),(⟨#[100,32,43,32,97]⟩:ByteArray),(⟨#[97,32,43,32,101]⟩:ByteArray),(⟨#[91,97,44,32,99,93]⟩:ByteArray)] ‹_› ‹_› hl (by simp) (by simp) (by decide))) (hne:=⟨_,[],bK l 0 0,⟨⟨⟨#[]⟩,b_ _,rfl⟩,rfl,0,0,by omega,by omega,rfl⟩,rfl⟩) (hr:= ?_);rintro _ _ _ ⟨⟨y,hy,rfl⟩,rfl,i,h,hi0,hi1,rfl⟩))|refine sz_ (a6_ tdE hT hw1 hg hg2 @jV) ?_|refine nv ?_|(exact GCell.el _)|exact bq_|fail)
  all_goals first
   |omega
   |(simp only[e_];omega)
   | (refine aP (k+1,_,cs.set k {cs[k]with code:=y},i,h) ⟨?_,⟨⟨abC _,rfl,rfl,rfl,rfl⟩,trivial⟩,⟨rfl,rfl,trivial⟩,rfl⟩ ⟨by simp only[a_];omega,by simp only[a_];omega,Uu hall (Ug hck (by omega)),by assumption,by assumption⟩ (show(cs.set k _).length - (k+1)<cs.length - k by rw[a_];omega)
      simp[aU,AV.fits,AC.fits,FB,aB]
      done)
   | (refine aP (k+1,_,cs,i,h) ⟨?_,⟨⟨rfl,rfl,rfl,rfl,rfl⟩,trivial⟩,⟨rfl,rfl,trivial⟩,rfl⟩ ⟨by simp only;omega,hcs,hall,by assumption,by assumption⟩ (show cs.length - (k+1)<cs.length - k by omega)
      simp[aU,AV.fits,AC.fits,FB,aB]
      done)
 ·have hT:decide ((k:Int)<(cs.length:Int))=false:=decide_eq_false (by omega)
  repeat' (first|(refine hq_ ?_;clear hK K)|refine ca_ ?_ ?_|refine gq_ ?_|(refine c2_ ?_ ?_<;>(intro hb hb';try(exfalso;omega)))|(refine cg_ ?_;first|(refine bn (h:=(Nj cs (by omega) hall)) (hK:= ?_);rintro _ _ ⟨⟨ps,hp1,hp2,rfl⟩,rfl⟩))|refine sz_ (aiX tdE hT) ?_|refine nv ?_|(refine rD ?_;intro K hK)|(exact GCell.el _)|exact bq_|fail)
  all_goals exact ag6 rfl rfl ⟨⟨ps,hp1,hp2,rfl⟩,rfl,_,_, ‹_›, ‹_›,rfl⟩
def adn :IC:=(zd_ [zz_ 2 (.mov (.k (.pointer none)))] (zd_ [zw_ 5 0,zf_ 6 false 5,zz_ 7 (.bin .add (.k (.int .i64 26583)) (.t 6)),zw_ 3 7] (.seq (zd_ [zk_ 4 0] (.block 0 (.loop (.seq (zd_ [zw_ 8 4,zw_ 9 0,zf_ 10 false 9,zl_ 11 .lss 8 10,zw_ 12 11,zv_ 13 12 4,zy_ 14 12 (.bin .lss (.t 13) (.k (.int .i64 4000))),zh_ 15 12 14 false] (.cond (.t 15) .skip (.exit 0))) (.seq (.block 1 (.reg false [zw_ 18 3,zm_ 19 .mul 18 131,zw_ 20 0,zw_ 21 4,ze_ 22 1 20 21,zs_ 23 1 22,zz_ 24 (.cvi .i64 (.t 23)),zl_ 25 .add 19 24,zm_ 26 .add 25 7,zm_ 27 .and 26 1073741823,zw_ 3 27])) (.reg false [zw_ 16 4,zm_ 17 .add 16 1,zw_ 4 17])))))) (zd_ [zw_ 28 0,zw_ 29 3,zz_ 30 (.bld [(.slice none 0 0),(.int .i64 0),(.int .i64 0)] [(0,1,(.t 28)),(2,1,(.t 29))]),zz_ 31 (.box (.t 30)),zw_ 2 31] .ret))))
theorem aat :ak Tryz.prog (Tryz.f56.body.getD .skip)=some adn:=by kernel_rfl
theorem ag0(l:List UInt8)(n:Bool)(os:List Own)(bs:List (List AC))(hl:l.length≤1048576)(hb0:(bs.all fun xs=>xs.all (AC.fits os.length bs.length))=true)(hb:(bs.all fun xs=>xs.all (AC.fits os.length (bs.length+1)))=true):
 jv Tryz.prog 56 [.c false [.sl n (l.map lu8)]] os bs (fun r os' bs'=>r= .bptr bs.length 0∧os'=os∧∃h:Int,bs'=bs++ [[.sl n (l.map lu8),.raw (.int .i64 0),.raw (.int .i64 h)]]):=by
 refine Ze (fn:=Tryz.f56) (rs:= [.tmp 2]) (hc:=aat) (h:= ?_);unfold adn;refine zb_ ?_;change dH _ _ _ _ (stS 32 _ _ _);refine sS tdX ?_;have hw0:IntKind.i64.wrap (26583+(l.length:Int))=26583+(l.length:Int):=jf (by omega) (by omega)
 repeat' (first|(refine rg_ ?_;intro K hK)|(refine hq_ ?_;clear hK K)|refine ca_ ?_ ?_|refine gq_ ?_|(refine c2_ ?_ ?_<;>(intro hb hb';try(exfalso;omega)))|refine sz_ (a3_ tdC @jV hw0) ?_|refine nv ?_|(exact GCell.el _)|(exact GCell.el [⟨_,_,_,_,_,_⟩])|exact bq_|fail)
 refine gW (X:=Nat×Int) (fun z=> [.k,.d,.d,.v (.c false [.raw (.int .i64 z.2)]),.v (.c false [.raw (.int .i64 ((z.1:Nat)))])]) (fun _=>os) (fun _ _=>bs) (fun z=>z.1≤l.length) (fun z=>l.length - z.1) (0,26583+(l.length:Int)) (b_ _) (fun _=>⟨c_ _,c_ _⟩) ?_ ?_
 ·simp[aG,aU,fV,mY,AV.fits,AC.fits,FB,aB,hb0]
 rintro⟨k,h⟩ hk;simp only at hk;simp only[FB,aB];have fin:∀{fr:List AV} {b:Nat},b=bs.length→fr.getD 2 .any= .bptr b 0→(∃r os' bs',(r= .bptr bs.length 0∧os'=os∧∃h:Int,bs'=bs++ [[.sl n (l.map lu8),.raw (.int .i64 0),.raw (.int .i64 h)]])∧os.length≤os'.length∧bs.length≤bs'.length∧aeR [.tmp 2] r os' bs' ⟨fr,os,bs++ [[.sl n (l.map lu8),.raw (.int .i64 0),.raw (.int .i64 h)]]⟩):=by
  intro fr b hb1 h2;subst hb1;exact⟨_,_,_,⟨rfl,rfl,h,rfl⟩,c_ _,by simp,fV _,mY _,by simpa[AC.fits]using hb,h2,by simp[AV.fits]⟩
 by_cases hlt:k<l.length
 ·have hT:decide ((k:Int)<(l.length:Int))=true:=decide_eq_true (by omega);have hw1:IntKind.i64.wrap ((k:Int)+1)=((k+1:Nat):Int):=dJ (by omega);have hg:idx (l.map lu8) (some (k:Int))=some (.leaf (.int .u8 ((l[k]).toNat:Int))):=bU lu8 l hlt;cases hT2:decide ((k:Int)<4000)
  ·repeat' (first|(refine rg_ ?_;intro K hK)|(refine hq_ ?_;clear hK K)|refine ca_ ?_ ?_|refine gq_ ?_|(refine c2_ ?_ ?_<;>(intro hb hb';try(exfalso;omega)))|refine sz_ (a6_ tdC @jV hT hT2 hw1 hg) ?_|refine nv ?_|(exact GCell.el _)|(exact GCell.el [⟨_,_,_,_,_,_⟩])|exact bq_|fail)
   exact fin rfl rfl
  ·repeat' (first|(refine rg_ ?_;intro K hK)|(refine hq_ ?_;clear hK K)|refine ca_ ?_ ?_|refine gq_ ?_|(refine c2_ ?_ ?_<;>(intro hb hb';try(exfalso;omega)))|refine sz_ (a6_ tdC @jV hT hT2 hw1 hg) ?_|refine nv ?_|(exact GCell.el _)|(exact GCell.el [⟨_,_,_,_,_,_⟩])|exact bq_|fail)
   all_goals first
    |exact adT l
    | (refine aP (k+1,Ul .i64 (IntKind.i64.wrap (IntKind.i64.wrap (IntKind.i64.wrap (h*131)+IntKind.i64.wrap ((l[k]).toNat:Int))+7)) 1073741823) ?_ (show k+1≤l.length by omega) (show l.length - (k+1)<l.length - k by omega)
       simp[aG,aU,fV,mY,AV.fits,AC.fits,FB,aB,hb0])
 ·have hT:decide ((k:Int)<(l.length:Int))=false:=decide_eq_false (by omega)
  repeat' (first|(refine rg_ ?_;intro K hK)|(refine hq_ ?_;clear hK K)|refine ca_ ?_ ?_|refine gq_ ?_|(refine c2_ ?_ ?_<;>(intro hb hb';try(exfalso;omega)))|refine sz_ (a3_ tdC @jV hT) ?_|refine nv ?_|(exact GCell.el _)|(exact GCell.el [⟨_,_,_,_,_,_⟩])|exact bq_|fail)
  exact fin rfl rfl
theorem Uh{P:Program}{f:Nat}{fn:Func}{code:Code}{ic:IC}{avs:List AV}{os:List Own}{bs:List (List AC)}{post:AV→List Own→List (List AC)→Prop}{t u:Nat}(hf:P.funcs[f]? =some fn:=by kernel_rfl)(hb:fn.body=some code:=by kernel_rfl)(hr:fn.results= #[.tmp t,.tmp u]:=by kernel_rfl)(hc:ak P code=some ic)
 (h:dH (os.length,bs.length) P ic (iG (fun st=>∃xs ys,st.fr.getD t .any= .c false xs∧st.fr.getD u .any= .c false ys∧os.length≤st.owns.length∧bs.length≤st.boxes.length∧post (.tup [(false,xs),(false,ys)]) st.owns st.boxes)) (stS fn.ntmps avs os bs)):jv P f avs os bs post:=by
 intro B Xs G w0 fr E a w vs hR hv;have hol:=hR.olen;have hbl:=hR.blen;simp only at hol hbl;refine calls_of_wp hf hb ?_;have:=h code hc B Xs ⟨E,os,w⟩ w0 ⟨Nat.le_refl _,by simp only;omega⟩ E _ w (rG hR hv fn.ntmps);refine wp_mono this ?_;rintro e a' w' ⟨st',E',g1,g2⟩;have fin:(∃xs ys,st'.fr.getD t .any= .c false xs∧st'.fr.getD u .any= .c false ys∧os.length≤st'.owns.length∧bs.length≤st'.boxes.length∧post (.tup [(false,xs),(false,ys)]) st'.owns st'.boxes)→∃v,(results fn a'.tmps).run P w'= .ok v w'∧∃v' E' r os' bs',post r os' bs'∧Ending.returned v= .returned v'∧Rel B Xs ⟨E,os,w⟩ w0 ⟨[],os',bs'⟩ E' {tmps:= #[],defers:= []} w'∧r.ok E' os' w' v':=by
  rintro⟨xs,ys,q1,q2,_,_,hp⟩;have k1:=pW g1 q1;have k2:=pW g1 q2;exact⟨_,EL hr a'.tmps (w:=w') rfl rfl,_,E',_,_,_,hp,rfl,
   {eb:=g1.eb,ex:=g1.ex,sim:=g1.sim,defers:=rfl,size:=rfl,fr:=fun t y hy=>by simp at hy,olen:=g1.olen,own:=g1.own,blen:=g1.blen,box:=g1.box,nodup:=g1.nodup,lin:=g1.lin,unf:=g1.unf,below:=g1.below,base:=g1.base},
   ⟨_,rfl,k1,k2,trivial⟩⟩
 cases e with
 | normal=>
   obtain⟨v,h3,h4⟩:=fin g2;exact⟨g1.defers,v,h3,h4⟩
 | ret=>
   obtain⟨v,h3,h4⟩:=fin g2;exact⟨g1.defers,v,h3,h4⟩
 |_=>exact g2.elim
end Go.Proofs.YtfjmoicellpnhaaGreat
