/-
  Texts joined: Draw1.
-/
import Derived.Test.YtfengkmaphbofaaGreatDoorJE
set_option maxHeartbeats 4000000
set_option linter.unusedSimpArgs false
set_option linter.unusedVariables false
namespace Go.Proofs.YtfengkmaphbofaaGreatDoor
open Go.RowKit
open BitVec renaming ofInt→a_
open Int renaming eq_ofNat_of_zero_le→b_
attribute [local irreducible] sw sd sn
theorem Xx(a:Int){n:Nat}(h:n≤1073741823):0≤LZ .i64 a (n:Int)∧LZ .i64 a (n:Int)≤(n:Int):=by
 unfold LZ;have h1:(a_ IntKind.i64.bits a &&& a_ IntKind.i64.bits (n:Int)).toNat≤n:=by
  rw[BitVec.toNat_and];refine Nat.le_trans Nat.and_le_right ?_;show(a_ 64 (n:Int)).toNat≤n;rw[BitVec.toNat_ofInt];omega
 have h2:IntKind.i64.wrap (((a_ IntKind.i64.bits a &&& a_ IntKind.i64.bits (n:Int)).toNat:Nat):Int)=(((a_ IntKind.i64.bits a &&& a_ IntKind.i64.bits (n:Int)).toNat:Nat):Int):=by
  generalize(a_ IntKind.i64.bits a &&& a_ IntKind.i64.bits (n:Int)).toNat=k at h1;exact iY (by omega) (by omega)
 rw[h2];omega
theorem BK(a:Int):0≤LZ .i64 a 255∧LZ .i64 a 255≤255:=Xx a (n:=255) (by decide)
def fC(l:List UInt8)(i h:Int):List AC:= [.sl true (l.map lu8),.raw (.int .i64 i),.raw (.int .i64 h)]
def pz(l:List UInt8)(c:List AC):Prop:=∃i h:Int,0≤i∧i≤l.length∧c=fC l i h
def Po :IC:=(zd_ [zk_ 2 0] (zd_ [zw_ 4 0,zw_ 5 0,zi_ 6 5,zt_ 7 2 6,zs_ 8 1 7,zm_ 9 .mul 8 6364136223846793005,zm_ 10 .add 9 1442695040888963407,zi_ 11 4,zt_ 12 2 11,⟨none,none,.store 1 (.t 12) (.t 10)⟩] (.seq (.reg true [zw_ 13 0,zi_ 14 13,zt_ 15 2 14,zs_ 16 1 15,zz_ 17 (.bin .shr (.t 16) (.k (.int .u64 33))),zw_ 18 0,zi_ 19 18,zt_ 20 2 19,zs_ 21 1 20,zz_ 22 (.bin .shr (.t 21) (.k (.int .u64 45))),zl_ 23 .xor 17 22,zm_ 24 .and 23 255,zw_ 3 24]) (.seq (.seq (.reg true [zw_ 25 0,zi_ 26 25,zt_ 27 1 26,zs_ 28 1 27,zw_ 29 0,zi_ 30 29,zt_ 31 0 30,zs_ 32 1 31,zf_ 33 false 32,zl_ 34 .lss 28 33]) (.cond (.t 34) (.seq (.reg true [zw_ 35 3,zw_ 36 0,zi_ 37 36,zt_ 38 0 37,zs_ 39 1 38,zw_ 40 0,zi_ 41 40,zt_ 42 1 41,zs_ 43 1 42,ze_ 44 1 39 43,zs_ 45 1 44,zz_ 46 (.cvi .i64 (.t 45)),zl_ 47 .add 35 46,zm_ 48 .and 47 255,zw_ 3 48]) (.reg false [zw_ 49 0,zw_ 50 0,zi_ 51 50,zt_ 52 1 51,zs_ 53 1 52,zm_ 54 .add 53 1,zi_ 55 49,zt_ 56 1 55,⟨none,none,.store 1 (.t 56) (.t 54)⟩])) .skip)) (zd_ [zw_ 57 3,zw_ 2 57] .ret)))))
theorem Nu :bg Tryz.prog (Tryz.f97.body.getD .skip)=some Po:=by kernel_rfl
theorem UZ(l:List UInt8):El 1 (l.map lu8):=fun d hd=>by obtain⟨x,_,rfl⟩:=List.mem_map.1 hd;exact⟨rfl,rfl⟩
theorem VA(l:List UInt8)(i h:Int)(h0:0≤i)(h1:i≤l.length)(hl:l.length≤1048576):iq Tryz.prog 97 [] (fC l i h) (fun r os' c'=>(∃x:Int,0≤x∧x≤255∧r= .c false [.raw (.int .i64 x)])∧os'= []∧pz l c'):=by
 refine jK (fn:=Tryz.f97) (r:= .tmp 2) (hc:=Nu) (h:= ?_);unfold Po fC;refine zb_ ?_;change iK _ _ _ _ (stS 58 _ _ _);refine sS trivial ?_;by_cases hlt:i<(l.length:Int)
 ·have hT:decide (i<(l.length:Int))=true:=decide_eq_true hlt;obtain⟨k,rfl⟩:=b_ h0;have hk:k<l.length:=by omega
  have hg:idx (l.map lu8) (some (k:Int))=some (.leaf (.int .u8 ((l[k]).toNat:Int))):=gK lu8 l hk
  repeat' (first|(refine hq_ ?_;clear hK K)|refine ca_ ?_ ?_|refine sz_ (Zm hT hg) ?_|refine nv ?_|(refine rD ?_;intro K hK)|(refine c2_ ?_ ?_<;>(intro hb hb';try(exfalso;omega)))|exact bq_|fail)
  all_goals first
   |exact UZ l
   |exact⟨false,_,[],_,[],⟨⟨_,(BK _).1,(BK _).2,rfl⟩,rfl,_,_,by omega,by omega,rfl⟩,rfl,rfl,rfl,by simp,trivial,rfl,_,rfl,⟨rfl,trivial⟩⟩
 ·have hT:decide (i<(l.length:Int))=false:=decide_eq_false hlt
  repeat' (first|(refine hq_ ?_;clear hK K)|refine ca_ ?_ ?_|refine sz_ hT ?_|refine nv ?_|(refine rD ?_;intro K hK)|(refine c2_ ?_ ?_<;>(intro hb hb';try(exfalso;omega)))|exact bq_|fail)
  exact⟨false,_,[],_,[],⟨⟨_,(BK _).1,(BK _).2,rfl⟩,rfl,_,_,h0,h1,rfl⟩,rfl,rfl,rfl,by simp,trivial,rfl,_,rfl,⟨rfl,trivial⟩⟩
def KO :IC:=(zd_ [zk_ 4 0] (.seq (zd_ [zw_ 9 1,zm_ 10 .leq 9 0] (.cond (.t 10) (zd_ [zk_ 4 0] .ret) .skip)) (.seq (zd_ [zw_ 11 1,zm_ 12 .leq 11 256] (.cond (.t 12) (zd_ [zw_ 13 0,zq_ 14 97 13,zw_ 15 1,zl_ 16 .rem 14 15,zw_ 4 16] .ret) .skip)) (zd_ [zw_ 17 0,zq_ 18 97 17,zw_ 5 18] (zd_ [zw_ 19 0,zq_ 20 97 19,zw_ 6 20] (zd_ [zw_ 21 0,zq_ 22 97 21,zw_ 7 22] (zd_ [zw_ 23 0,zq_ 24 97 23,zw_ 8 24] (zd_ [zw_ 25 5,zm_ 26 .mul 25 16777216,zw_ 27 6,zm_ 28 .mul 27 65536,zl_ 29 .add 26 28,zw_ 30 7,zm_ 31 .mul 30 256,zl_ 32 .add 29 31,zw_ 33 8,zl_ 34 .add 32 33,zw_ 35 1,zl_ 36 .rem 34 35,zw_ 4 36] .ret))))))))
theorem KN :bg Tryz.prog (Tryz.f57.body.getD .skip)=some KO:=by kernel_rfl
theorem Ba{a n:Int}(h:0≤a)(hn:0<n):0≤a.tmod n∧a.tmod n<n:=⟨Int.tmod_nonneg _ h,Int.tmod_lt_of_pos _ hn⟩
theorem dU(l:List UInt8)(i h:Int)(n:Int)(h0:0≤i)(h1:i≤l.length)(hl:l.length≤1048576)(hn:n≤1099511627776):iq Tryz.prog 57 [li n] (fC l i h) (fun r os' c'=>(∃x:Int,0≤x∧(0<n→x<n)∧(n≤0→x=0)∧r= .c false [.raw (.int .i64 x)])∧os'= []∧pz l c'):=by
 refine jK (fn:=Tryz.f57) (r:= .tmp 4) (hc:=KN) (h:= ?_);unfold KO fC;refine zb_ ?_;change iK _ _ _ _ (stS 37 _ _ _);refine sS trivial ?_;by_cases hn0:n≤0
 ·have hT:decide (n≤0)=true:=decide_eq_true hn0
  repeat' (first|(refine rg_ ?_;intro K hK)|(refine hq_ ?_;clear hK K)|refine ca_ ?_ ?_|refine sz_ (Zm hT @fC.eq_1) ?_|refine nv ?_|(refine c2_ ?_ ?_<;>(intro hb hb';try(exfalso;omega)))|exact bq_|fail)
  exact⟨false,_,[],_,[],⟨⟨0,Int.le_refl _,fun hp=>absurd hn0 (by omega),fun _=>rfl,rfl⟩,rfl,_,_, ‹_›, ‹_›,rfl⟩,rfl,rfl,rfl,by simp,trivial,rfl,_,rfl,⟨rfl,trivial⟩⟩
 ·have hT:decide (n≤0)=false:=decide_eq_false hn0;have hz:(n=0)=False:=eq_false (by omega);by_cases hs:n≤256
  ·have hT2:decide (n≤256)=true:=decide_eq_true hs
   repeat' (first|(refine rg_ ?_;intro K hK)|(refine hq_ ?_;clear hK K)|refine ca_ ?_ ?_|(refine cg_ ?_;first|(refine dJ true (h:=(VA l _ _ ‹_› ‹_› hl)) (hK:= ?_);rintro _ _ _ ⟨⟨x,hx0,hx1,rfl⟩,rfl,i,h,hi0,hi1,rfl⟩))|refine sz_ (a4_ hT hT2 hz @fC.eq_1) ?_|refine nv ?_|(refine c2_ ?_ ?_<;>(intro hb hb';try(exfalso;omega)))|exact bq_|fail)
   exact⟨false,_,[],_,[],⟨⟨_,(Ba hx0 (by omega)).1,fun hp=>(Ba hx0 hp).2,fun hp=>absurd hp hn0,rfl⟩,rfl,_,_, ‹_›, ‹_›,rfl⟩,rfl,rfl,rfl,by simp,trivial,rfl,_,rfl,⟨rfl,trivial⟩⟩
  ·have hT2:decide (n≤256)=false:=decide_eq_false hs
   repeat' (first|(refine rg_ ?_;intro K hK)|(refine hq_ ?_;clear hK K)|refine ca_ ?_ ?_|(refine cg_ ?_;first|(refine dJ true (h:=(VA l _ _ ‹_› ‹_› hl)) (hK:= ?_);rintro _ _ _ ⟨⟨x,hx0,hx1,rfl⟩,rfl,i,h,hi0,hi1,rfl⟩))|refine sz_ (a4_ hT hT2 hz @fC.eq_1) ?_|refine nv ?_|(refine c2_ ?_ ?_<;>(intro hb hb';try(exfalso;omega)))|exact bq_|fail)
   exact⟨false,_,[],_,[],⟨⟨_,(Ba (by omega) (by omega)).1,fun hp=>(Ba (by omega) hp).2,fun hp=>absurd hp hn0,rfl⟩,rfl,_,_, ‹_›, ‹_›,rfl⟩,rfl,rfl,rfl,by simp,trivial,rfl,_,rfl,⟨rfl,trivial⟩⟩
def Pj :IC:=(zd_ [zj_ 4 false] (zd_ [zw_ 5 0,zw_ 6 1,zp_ 7 57 5 6,zm_ 8 .eql 7 0,zw_ 4 8] .ret))
theorem Np :bg Tryz.prog (Tryz.f93.body.getD .skip)=some Pj:=by kernel_rfl
theorem uq(l:List UInt8)(i h:Int)(n:Int)(h0:0≤i)(h1:i≤l.length)(hl:l.length≤1048576)(hn:n≤1099511627776):iq Tryz.prog 93 [li n] (fC l i h) (fun r os' c'=>(∃b:Bool,r= .c false [.raw (.bool b)])∧os'= []∧pz l c'):=by
 refine jK (fn:=Tryz.f93) (r:= .tmp 4) (hc:=Np) (h:= ?_);unfold Pj fC;refine zb_ ?_;change iK _ _ _ _ (stS 9 _ _ _);refine sS trivial ?_
 repeat' (first|(refine rg_ ?_;intro K hK)|(refine hq_ ?_;clear hK K)|refine ca_ ?_ ?_|(refine cg_ ?_;first|(refine dJ true (h:=(dU l _ _ _ ‹_› ‹_› hl hn)) (hK:= ?_);rintro _ _ _ ⟨⟨x,hx0,hx1,hx2,rfl⟩,rfl,i,h,hi0,hi1,rfl⟩))|refine sz_ @fC.eq_1 ?_|refine nv ?_|(refine c2_ ?_ ?_<;>(intro hb hb';try(exfalso;omega)))|exact bq_|fail)
 exact⟨false,_,[],_,[],⟨⟨_,rfl⟩,rfl,_,_, ‹_›, ‹_›,rfl⟩,rfl,rfl,rfl,by simp,trivial,rfl,_,rfl,⟨rfl,trivial⟩⟩
def Ph :IC:=(zd_ [zz_ 4 (.mov (.k (.string ⟨#[]⟩)))] (zd_ [zw_ 5 1,zw_ 6 0,zw_ 7 1,zf_ 8 false 7,zp_ 9 57 6 8,ze_ 10 1 5 9,zs_ 11 1 10,zw_ 4 11] .ret))
theorem Nl :bg Tryz.prog (Tryz.f91.body.getD .skip)=some Ph:=by kernel_rfl
theorem CQ(l:List UInt8)(i h:Int)(q:List ByteArray)(h0:0≤i)(h1:i≤l.length)(hl:l.length≤1048576)(hq:0<q.length)(hq2:q.length≤1048576):iq Tryz.prog 91 [.sl (q.map ls)] (fC l i h) (fun r os' c'=>(∃s∈q,r= .c false [.raw (.string s)])∧os'= []∧pz l c'):=by
 refine jK (fn:=Tryz.f91) (r:= .tmp 4) (hc:=Nl) (h:= ?_);unfold Ph fC;refine zb_ ?_;change iK _ _ _ _ (stS 12 _ _ _);refine sS trivial ?_
 repeat' (first|(refine rg_ ?_;intro K hK)|(refine hq_ ?_;clear hK K)|refine ca_ ?_ ?_|(refine cg_ ?_;first|(refine dJ true (h:=(dU l _ _ (q.length:Int) ‹_› ‹_› hl (by omega))) (hK:= ?_);rintro _ _ _ ⟨⟨x,hx0,hx1,hx2,rfl⟩,rfl,i,h,hi0,hi1,rfl⟩))|refine sz_ @fC.eq_1 ?_|refine nv ?_|(refine c2_ ?_ ?_<;>(intro hb hb';try(exfalso;omega)))|exact bq_|fail)
 all_goals first
  |exact aC _
  |skip
 obtain⟨k,rfl⟩:=b_ hx0;have hk:k<q.length:=by have:=hx1 (by omega);omega
 have hg:idx (q.map ls) (some (k:Int))=some (ls q[k]):=gK ls q hk
 repeat' (first|(refine rg_ ?_;intro K hK)|(refine hq_ ?_;clear hK K)|refine ca_ ?_ ?_|refine sz_ (Zm hg @fC.eq_1) ?_|refine nv ?_|(refine c2_ ?_ ?_<;>(intro hb hb';try(exfalso;omega)))|exact bq_|fail)
 exact⟨false,_,[],_,[],⟨⟨_,List.getElem_mem hk,rfl⟩,rfl,_,_, ‹_›, ‹_›,rfl⟩,rfl,rfl,rfl,by simp,trivial,rfl,_,rfl,⟨rfl,trivial⟩⟩
def Dy :IC:=(zd_ [zk_ 4 0] (zd_ [zw_ 5 1,zw_ 6 0,zw_ 7 1,zf_ 8 false 7,zp_ 9 57 6 8,ze_ 10 1 5 9,zs_ 11 1 10,zw_ 4 11] .ret))
theorem Fe :bg Tryz.prog (Tryz.f90.body.getD .skip)=some Dy:=by kernel_rfl
theorem rF(l:List UInt8)(i h:Int)(q:List Int)(h0:0≤i)(h1:i≤l.length)(hl:l.length≤1048576)(hq:0<q.length)(hq2:q.length≤1048576):iq Tryz.prog 90 [.sl (q.map li)] (fC l i h) (fun r os' c'=>(∃s∈q,r= .c false [.raw (.int .i64 s)])∧os'= []∧pz l c'):=by
 refine jK (fn:=Tryz.f90) (r:= .tmp 4) (hc:=Fe) (h:= ?_);unfold Dy fC;refine zb_ ?_;change iK _ _ _ _ (stS 12 _ _ _);refine sS trivial ?_
 repeat' (first|(refine rg_ ?_;intro K hK)|(refine hq_ ?_;clear hK K)|refine ca_ ?_ ?_|(refine cg_ ?_;first|(refine dJ true (h:=(dU l _ _ (q.length:Int) ‹_› ‹_› hl (by omega))) (hK:= ?_);rintro _ _ _ ⟨⟨x,hx0,hx1,hx2,rfl⟩,rfl,i,h,hi0,hi1,rfl⟩))|refine sz_ @fC.eq_1 ?_|refine nv ?_|(refine c2_ ?_ ?_<;>(intro hb hb';try(exfalso;omega)))|exact bq_|fail)
 all_goals first
  |exact aF _
  |skip
 obtain⟨k,rfl⟩:=b_ hx0;have hk:k<q.length:=by have:=hx1 (by omega);omega
 have hg:idx (q.map li) (some (k:Int))=some (li q[k]):=gK li q hk
 repeat' (first|(refine rg_ ?_;intro K hK)|(refine hq_ ?_;clear hK K)|refine ca_ ?_ ?_|refine sz_ (Zm hg @fC.eq_1) ?_|refine nv ?_|(refine c2_ ?_ ?_<;>(intro hb hb';try(exfalso;omega)))|exact bq_|fail)
 exact⟨false,_,[],_,[],⟨⟨_,List.getElem_mem hk,rfl⟩,rfl,_,_, ‹_›, ‹_›,rfl⟩,rfl,rfl,rfl,by simp,trivial,rfl,_,rfl,⟨rfl,trivial⟩⟩
end Go.Proofs.YtfengkmaphbofaaGreatDoor
