/-
  Texts joined: Draw3.
-/
import Derived.Test.YtfengkmaphbofaaGreatDoorJP
import Derived.Test.YtfengkmaphbofaaGreatDoorJN
set_option maxHeartbeats 16000000
set_option maxRecDepth 8000
set_option linter.unusedSimpArgs false
set_option linter.unusedVariables false
namespace Go.Proofs.YtfengkmaphbofaaGreatDoor
open Go.RowKit
open Nat renaming zero_le→a_,le_refl→e_
open List renaming size_toArray→b_,length_cons→c_,length_nil→d_
attribute [local irreducible] sw sd sn
theorem Ee{P:Program}{t:Nat}{v:Value}{st:St}{l:List UInt8}{i h:Int}{post:AV→List Own→List AC→Prop}(h1:st.fr.getD t .any= .c false [.raw v])(h0:st.boxes[0]? =some (fC l i h))(hi0:0≤i)(hi1:i≤l.length)(hq:post (.c false [.raw v]) [] (fC l i h)):
 qX (ES P (.tmp t) post) .ret st:=
 ⟨false,_,[],_,[],hq,rfl,h0,rfl,by simp,trivial,rfl,_,h1,⟨rfl,trivial⟩⟩
theorem nR(l:List UInt8)(i h:Int)(m:Nat)(h0:0≤i)(h1:i≤l.length)(hl:l.length≤1048576)(hm:0<m)(hm2:m≤1099511627776):iq Tryz.prog 57 [li (m:Int)] (fC l i h) (fun r os' c'=>(∃k:Nat,k<m∧r= .c false [.raw (.int .i64 (k:Int))])∧os'= []∧pz l c'):=
 (dU l i h m h0 h1 hl (by omega)).mono fun r os' c' ⟨⟨x,x0,x1,_,hr⟩,h4⟩=>⟨⟨x.toNat,by have:=x1 (by omega);omega,by rw[hr,Int.toNat_of_nonneg x0]⟩,h4⟩
theorem oC(l:List UInt8)(i h:Int)(B:Nat)(q:List ByteArray)(h0:0≤i)(h1:i≤l.length)(hl:l.length≤1048576)(hq:0<q.length)(hq2:q.length≤1048576)(h8:∀s∈q,s.size≤B):iq Tryz.prog 91 [.sl (q.map ls)] (fC l i h) (fun r os' c'=>(∃s:ByteArray,s.size≤B∧r= .c false [.raw (.string s)])∧os'= []∧pz l c'):=
 (CQ l i h q h0 h1 hl hq hq2).mono fun r os' c' ⟨⟨s,h2,h3⟩,h4⟩=>⟨⟨s,h8 s h2,h3⟩,h4⟩
theorem UL(n:Int)(h0: -1000000≤n)(h1:n≤1000000):iD Tryz.prog 68 [li n] (fun r os'=>(∃s:ByteArray,s.size≤21∧r= .c false [.raw (.string s)])∧os'= []):=fun w vs hr ht=>
 (iy (n:=n) (by omega) (by omega) w vs hr ht).mono fun e w' ⟨v,he,hv,hb⟩=>⟨_,[],⟨⟨dM n,jJ (by omega) (by omega),rfl⟩,rfl⟩,rfl,by
  obtain rfl:v= .string (dM n):=hv.1;exact⟨_,[],he,⟨rfl,fun k o p hk=>by simp at hk,by simp,Lin.nil,Unf.nil⟩,⟨rfl,trivial⟩,hb⟩⟩
theorem Xe(k n:Int)(t:ByteArray)(q:List D)(h:IsE 20000 (dE k n t q)):iD Tryz.prog 123 [dE k n t q] (fun r os'=>(∃s:ByteArray,s.size≤1000000∧r= .c false [.raw (.string s)])∧os'= []):=by
 obtain⟨e,h1,h2⟩:=h;rw[h1];refine(Xd e (by omega)).mono ?_;rintro r os' ⟨⟨s,hs,hr⟩,ho⟩;exact⟨⟨s,by unfold jD at hs;omega,hr⟩,ho⟩
def xK :IC:=(zd_ [zz_ 4 (.mov (.k (.slice none 0 0)))] (zd_ [zz_ 8 (.brow true 9 1 0 false []),zw_ 5 8] (zd_ [zk_ 6 0] (.seq (zd_ [zk_ 7 0] (.block 0 (.loop (.seq (zd_ [zw_ 9 7,zw_ 10 0,zf_ 11 true 10,zl_ 12 .leq 9 11] (.cond (.t 12) .skip (.exit 0))) (.seq (.block 1 (zd_ [zw_ 15 7,zw_ 16 0,zf_ 17 true 16,zl_ 18 .eql 15 17,zw_ 19 18,zu_ 20 19 0,zu_ 21 19 7,zx_ 22 19 (.sidx (.t 20) (.t 21)),zu_ 23 19 1,zx_ 24 19 (.bin .eql (.t 22) (.t 23)),zg_ 25 19 true 24] (.cond (.t 25) (zd_ [zw_ 26 5,zw_ 27 0,zw_ 28 6,zw_ 29 7,zz_ 30 (.ssl (.t 27) (some (.t 28)) (some (.t 29))),zz_ 31 (.brow false 9 1 1 false [(.t 30)]),zz_ 32 (.app 9 1 (.t 26) (.t 31)),zw_ 5 32] (.reg false [zw_ 33 7,zm_ 34 .add 33 1,zw_ 6 34])) .skip))) (.reg false [zw_ 13 7,zm_ 14 .add 13 1,zw_ 7 14])))))) (zd_ [zw_ 35 5,zw_ 4 35] .ret)))))
theorem AB :bg Tryz.prog (Tryz.f32.body.getD .skip)=some xK:=by kernel_rfl
theorem kW(k:Nat):((0:Int)≤((k:Nat):Int))=True:=by simp
theorem Sj{s:ByteArray}{k:Nat}(h:k<s.size):s.data[k]? =some s[k]:=by
 rw[Array.getElem?_eq_getElem (by simpa using h)];rfl
theorem Jm(s:ByteArray)(c:UInt8)(hs:s.size≤1048576):iD Tryz.prog 32 [ls s,lu8 c] (fun r os'=>(∃q:List ByteArray,q.length≤s.size+1∧(∀x∈q,x.size≤s.size)∧r= .c false [.sl true (q.map ls)])∧os'= []):=by
 refine lU (fn:=Tryz.f32) (r:= .tmp 4) (hc:=AB) (h:= ?_);unfold xK;refine zb_ ?_;change AWP _ _ _ (st0 36 _);unfold lu8;refine sS tdX ?_
 repeat' (first|(refine rg_ ?_;intro K hK)|(refine hq_ ?_;clear hK K)|refine ca_ ?_ ?_|refine gq_ ?_|(refine c2_ ?_ ?_<;>(intro hb hb';try(exfalso;omega)))|refine sz_ tdE ?_|refine nv ?_|exact bq_|fail)
 refine iU (X:=Nat×Nat×List ByteArray×Nat) (fun q=> [.k,.k,.d,.d,.d,.v (.c false [.own 0 q.2.2.2]),.v (.c false [.raw (.int .i64 ((q.2.1:Nat)))]),.v (.c false [.raw (.int .i64 ((q.1:Nat)))])]) (fun q=> [⟨q.2.2.1.map ls,9,1,q.2.2.2,true⟩]) (fun q bs=> []) (fun q=>q.2.1≤q.1∧q.1≤s.size+1∧q.2.2.1.length≤q.1∧∀x∈q.2.2.1,x.size≤s.size) (fun q=>s.size+1 - q.1) (0,0,[],0) ⟨e_ _,a_ _,e_ _,fun x hx=>by simp at hx⟩ ?_ ?_
 ·simp[gI,iM,gq,gJ,AV.fits,AC.fits,FB,fP]
 rintro⟨i,k,l,v⟩ ⟨hk,hil,hll,hsz⟩;simp only at hk hil hll hsz;have hsx2:∀x∈l++ [s.extract k i],x.size≤s.size:=fun x hx=>by
  rcases List.mem_append.1 hx with hx|hx
  ·exact hsz x hx
  ·simp only[List.mem_singleton]at hx;rw[hx,ByteArray.size_extract];omega
 simp only[FB,fP];by_cases hi:i≤s.size
 case neg=>
  obtain rfl:i=s.size+1:=by omega
  have e0:decide ((((s.size+1:Nat)):Int)≤(s.size:Int))=false:=decide_eq_false (by omega)
  repeat' (first|(refine rg_ ?_;intro K hK)|(refine hq_ ?_;clear hK K)|refine ca_ ?_ ?_|refine gq_ ?_|(refine c2_ ?_ ?_<;>(intro hb hb';try(exfalso;omega)))|refine sz_ (Zm tdE e0) ?_|refine nv ?_|exact bq_|fail)
  exact⟨false,[.sl true (l.map ls)],[],[],⟨⟨l,hll,hsz,rfl⟩,rfl⟩,by simp[AC.out],by simp,trivial,rfl,_,rfl,⟨rfl,by simp,_,rfl,rfl,rfl,Or.inl rfl⟩,trivial⟩
 have e1:decide ((i:Int)≤(s.size:Int))=true:=decide_eq_true (by omega);by_cases he:i=s.size
 ·have e2:((i:Int)==(s.size:Int))=true:=by simp[he]
  have hse:(l++ [s.extract k i]).map ls=l.map ls++ [ls (s.extract k i)]:=by simp
  repeat' (first|(refine rg_ ?_;intro K hK)|(refine hq_ ?_;clear hK K)|refine ca_ ?_ ?_|refine gq_ ?_|(refine c2_ ?_ ?_<;>(intro hb hb';try(exfalso;omega)))|refine sz_ (a4_ tdE e1 e2 hse) ?_|refine nv ?_|exact bq_|fail)
  refine gY (i+1,i+1,l++ [s.extract k i],v+1) ?_ ⟨e_ _,by simp only;omega,by simp;omega,hsx2⟩ (show s.size+1 - (i+1)<s.size+1 - i by omega);simp[gI,iM,gq,gJ,AV.fits,AC.fits,FB,fP,ls]
 have hlt:i<s.size:=by omega
 have e2:((i:Int)==(s.size:Int))=false:=LY (by omega);have hsx:=Sj hlt;cases hu:(((s[i].toNat:Nat):Int)==((c.toNat:Nat):Int))
 ·repeat' (first|(refine rg_ ?_;intro K hK)|(refine hq_ ?_;clear hK K)|refine ca_ ?_ ?_|refine gq_ ?_|(refine c2_ ?_ ?_<;>(intro hb hb';try(exfalso;omega)))|refine sz_ (a6_ tdE e1 e2 hsx hu @kW) ?_|refine nv ?_|exact bq_|fail)
  refine gY (i+1,k,l,v) ?_ ⟨by simp only;omega,by simp only;omega,by simp only;omega,hsz⟩ (show s.size+1 - (i+1)<s.size+1 - i by omega);simp[gI,iM,gq,gJ,AV.fits,AC.fits,FB,fP]
 ·have hse:(l++ [s.extract k i]).map ls=l.map ls++ [ls (s.extract k i)]:=by simp
  repeat' (first|(refine rg_ ?_;intro K hK)|(refine hq_ ?_;clear hK K)|refine ca_ ?_ ?_|refine gq_ ?_|(refine c2_ ?_ ?_<;>(intro hb hb';try(exfalso;omega)))|refine sz_ (a7_ tdE e1 e2 hsx hu @kW hse) ?_|refine nv ?_|exact bq_|fail)
  refine gY (i+1,i+1,l++ [s.extract k i],v+1) ?_ ⟨e_ _,by simp only;omega,by simp;omega,hsx2⟩ (show s.size+1 - (i+1)<s.size+1 - i by omega);simp[gI,iM,gq,gJ,AV.fits,AC.fits,FB,fP,ls]
def Gg :IC:=(zd_ [zz_ 6 (.mov (.k (.string ⟨#[]⟩)))] (zd_ [zw_ 8 0,zw_ 9 1,zf_ 10 true 9,zm_ 11 .add 10 1,zp_ 12 57 8 11,zw_ 7 12] (.seq (zd_ [zw_ 13 0,zn_ 14 57 13 6] (.block 0 (zd_ [zm_ 16 .eql 14 0,zw_ 15 16] (.cond (.t 15) (.seq (.regN true false [] [zw_ 17 1,zw_ 18 7,zz_ 19 (.ssl (.t 17) none (some (.t 18))),zw_ 20 0,zw_ 21 2,zp_ 22 91 20 21,zl_ 23 .add 19 22,zw_ 24 1,zw_ 25 7,zz_ 26 (.ssl (.t 24) (some (.t 25)) none),zl_ 27 .add 23 26,zw_ 6 27]) .ret) (zd_ [zm_ 29 .eql 14 1,zw_ 28 29] (.cond (.t 28) (zd_ [zw_ 30 1,zw_ 31 7,zz_ 32 (.ssl (.t 30) none (some (.t 31))),zw_ 6 32] .ret) .skip)))))) (zd_ [zw_ 33 1,zw_ 6 33] .ret))))
theorem Ip :bg Tryz.prog (Tryz.f53.body.getD .skip)=some Gg:=by kernel_rfl
theorem Cb(l:List UInt8)(i h:Int)(s:ByteArray)(q:List ByteArray)(h0:0≤i)(h1:i≤l.length)(hl:l.length≤1048576)(hs:s.size≤100000)(hq:0<q.length)(hq2:q.length≤1048576)(hq8:∀x∈q,x.size≤8):iq Tryz.prog 53 [ls s,.sl (q.map ls)] (fC l i h) (fun r os' c'=>(∃z:ByteArray,z.size≤s.size+8∧r= .c false [.raw (.string z)])∧os'= []∧pz l c'):=by
 refine jK (fn:=Tryz.f53) (r:= .tmp 6) (hc:=Ip) (h:= ?_);unfold Gg fC;refine zb_ ?_;change iK _ _ _ _ (stS 34 _ _ _);refine sS tdX ?_;have hw1:IntKind.i64.wrap ((s.size:Int)+1)=((s.size+1:Nat):Int):=iP (by omega)
 repeat' (first|(refine rg_ ?_;intro K hK)|((first|(with_reducible refine fD 0 false iR ?_)|(refine fD 0 false (by simp[kU,St.ev]) ?_));intro K hK)|refine nN ?_|(refine hq_ ?_;clear hK K)|refine ca_ ?_ ?_|(refine cg_ ?_;first|(refine dJ true (h:=(nR l _ _ (s.size+1) ‹_› ‹_› hl (by omega) (by omega))) (hK:= ?_);rintro _ _ _ ⟨⟨k,hk,rfl⟩,rfl,i,h,hi0,hi1,rfl⟩)|(refine dJ true (h:=(dU l _ _ (6) ‹_› ‹_› hl (by decide))) (hK:= ?_);rintro _ _ _ ⟨⟨x,hx0,hx1,hx2,rfl⟩,rfl,i,h,hi0,hi1,rfl⟩)|(refine dJ true (h:=(oC l _ _ 8 q ‹_› ‹_› hl hq hq2 hq8)) (hK:= ?_);rintro _ _ _ ⟨⟨y,hy,rfl⟩,rfl,i,h,hi0,hi1,rfl⟩))|((with_reducible refine kL ?_);first|(refine kF true (h:=(oC l _ _ 8 q ‹_› ‹_› hl hq hq2 hq8)) (hne:=⟨_,[],fC l 0 0,⟨⟨⟨#[]⟩,a_ _,rfl⟩,rfl,0,0,by omega,by omega,rfl⟩,rfl⟩) (hr:= ?_);rintro _ _ _ ⟨⟨y,hy,rfl⟩,rfl,i,h,hi0,hi1,rfl⟩))|refine sz_ (a6_ tdE hw1 @kW @ByteArray.size_extract @oN @pG) ?_|refine nv ?_|(refine c2_ ?_ ?_<;>(intro hb hb';try(exfalso;omega)))|exact bq_|fail)
 all_goals first
  |omega
  |(simp only[ByteArray.size_append,ByteArray.size_extract];omega)
  |(exact Ee rfl rfl ‹_› ‹_› ⟨⟨_,by first|omega|(simp only[ByteArray.size_append,ByteArray.size_extract];omega),rfl⟩,rfl,_,_, ‹_›, ‹_›,rfl⟩)
def J6 :IC:=(zd_ [zz_ 2 (.mov (.k (.string ⟨#[]⟩)))] (zd_ [zz_ 6 (.brow true 9 1 5 false [(.k (.string ⟨#[97]⟩)),(.k (.string ⟨#[98]⟩)),(.k (.string ⟨#[99]⟩)),(.k (.string ⟨#[100]⟩)),(.k (.string ⟨#[101]⟩))]),zw_ 3 6] (.seq (zd_ [zw_ 7 0,zn_ 8 57 7 9] (.block 0 (.seq (zd_ [zm_ 10 .eql 8 0,zw_ 9 10] (.cond (.t 9) .skip (.reg false [zm_ 11 .eql 8 1,zw_ 9 11]))) (.cond (.t 9) (zd_ [zw_ 12 0,zw_ 13 3,zp_ 14 91 12 13,zz_ 15 (.bin .add (.t 14) (.k (.string ⟨#[32,43,32]⟩))),zw_ 16 0,zw_ 17 3,zp_ 18 91 16 17,zl_ 19 .add 15 18,zw_ 2 19] .ret) (zd_ [zm_ 21 .eql 8 2,zw_ 20 21] (.cond (.t 20) (zd_ [zw_ 22 0,zw_ 23 3,zp_ 24 91 22 23,zz_ 25 (.bin .add (.k (.string ⟨#[108,101,110,40,34,97,98,34,41,32,42,32]⟩)) (.t 24)),zw_ 2 25] .ret) (zd_ [zm_ 27 .eql 8 3,zw_ 26 27] (.cond (.t 26) (zd_ [zw_ 28 0,zn_ 29 57 28 3,zq_ 30 68 29,zz_ 31 (.bin .add (.k (.string ⟨#[119,104,101,114,101,40,34,97,34,44,32]⟩)) (.t 30)),zz_ 32 (.bin .add (.t 31) (.k (.string ⟨#[44,32]⟩))),zw_ 33 0,zw_ 34 3,zp_ 35 91 33 34,zl_ 36 .add 32 35,zz_ 37 (.bin .add (.t 36) (.k (.string ⟨#[41]⟩))),zw_ 2 37] .ret) (zd_ [zm_ 39 .eql 8 4,zw_ 38 39] (.cond (.t 38) (zd_ [zw_ 40 0,zw_ 41 3,zp_ 42 91 40 41,zz_ 43 (.bin .add (.k (.string ⟨#[103,114,111,117,112,40,34,97,34,44,32,34,98,34,44,32]⟩)) (.t 42)),zz_ 44 (.bin .add (.t 43) (.k (.string ⟨#[41]⟩))),zw_ 2 44] .ret) (zd_ [zm_ 46 .eql 8 5,zw_ 45 46] (.cond (.t 45) (zd_ [zw_ 47 0,zz_ 48 (.brow false 9 1 5 false [(.k (.string ⟨#[99,108,111,99,107,40,41]⟩)),(.k (.string ⟨#[99,104,97,110,99,101,40,54,41]⟩)),(.k (.string ⟨#[102,105,108,101,40,34,102,34,41]⟩)),(.k (.string ⟨#[99,104,97,110,99,101,40,51,41,32,43,32,99,104,97,110,99,101,40,51,41]⟩)),(.k (.string ⟨#[99,108,111,99,107,40,41,32,43,32,97]⟩))]),zp_ 49 91 47 48,zw_ 2 49] .ret) (zd_ [zm_ 51 .eql 8 6,zw_ 50 51] (.cond (.t 50) (zd_ [zw_ 52 0,zz_ 53 (.brow false 9 1 9 false [(.k (.string ⟨#[49,32,43]⟩)),(.k (.string ⟨#[108,101,116,32,120,32,61,32,105,110,32,50]⟩)),(.k (.string ⟨#[115,117,109,40,91,49,44,32,50,93]⟩)),(.k (.string ⟨#[55]⟩)),(.k (.string ⟨#[105,102,32,97,32,60,32,51,32,116,104,101,110,32,98,32,101,108,115,101,32,99]⟩)),(.k (.string ⟨#[102,111,114,32,117,32,105,110,32,91,49,44,32,50,44,32,51,93,32,100,111,32,117,32,42,32,97]⟩)),(.k (.string ⟨#[106,111,105,110,40,34,97,34,44,32,100,44,32,101,41]⟩)),(.k (.string ⟨#[115,117,109,40,99,111,108,117,109,110,40,34,98,34,44,32,100,41,41]⟩)),(.k (.string ⟨#[108,101,116,32,97,32,61,32,52,32,105,110,32,97,32,43,32,98]⟩))]),zp_ 54 91 52 53,zw_ 2 54] .ret) .skip)))))))))))))) (zd_ [zw_ 55 0,zw_ 56 3,zz_ 57 (.call 122 [(.t 55),(.t 56),(.k (.int .i64 2))]),zz_ 4 (.alloc [(.int .i64 0),(.int .i64 0),(.string ⟨#[]⟩),(.slice none 0 0)]),⟨none,none,.store 4 (.t 4) (.t 57)⟩] (zd_ [zr_ 58 4 4,zq_ 59 123 58,zw_ 5 59] (.seq (zd_ [zw_ 60 5,zf_ 61 true 60,zm_ 62 .gtr 61 120] (.cond (.t 62) (zd_ [zz_ 2 (.mov (.k (.string ⟨#[49]⟩)))] .ret) .skip)) (zd_ [zw_ 63 5,zw_ 2 63] .ret)))))))
theorem J5 :bg Tryz.prog (Tryz.f95.body.getD .skip)=some J6:=by kernel_rfl
theorem VZ(l:List UInt8)(i h:Int)(h0:0≤i)(h1:i≤l.length)(hl:l.length≤1048576):iq Tryz.prog 95 [] (fC l i h) (fun r os' c'=>(∃z:ByteArray,z.size≤200∧r= .c false [.raw (.string z)])∧os'= []∧pz l c'):=by
 refine jK (fn:=Tryz.f95) (r:= .tmp 2) (hc:=J5) (h:= ?_);unfold J6 fC;refine zb_ ?_;change iK _ _ _ _ (stS 64 _ _ _);refine sS tdX ?_
 repeat' (first|(refine rg_ ?_;intro K hK)|(refine hq_ ?_;clear hK K)|refine ca_ ?_ ?_|(refine cg_ ?_;first|(refine dJ true (h:=(dU l _ _ (9) ‹_› ‹_› hl (by decide))) (hK:= ?_);rintro _ _ _ ⟨⟨x,hx0,hx1,hx2,rfl⟩,rfl,i,h,hi0,hi1,rfl⟩)|(refine dJ true (h:=(dU l _ _ (3) ‹_› ‹_› hl (by decide))) (hK:= ?_);rintro _ _ _ ⟨⟨x,hx0,hx1,hx2,rfl⟩,rfl,i,h,hi0,hi1,rfl⟩)|(refine dJ true (h:=(oC l _ _ 8 [(⟨#[97]⟩:ByteArray),(⟨#[98]⟩:ByteArray),(⟨#[99]⟩:ByteArray),(⟨#[100]⟩:ByteArray),(⟨#[101]⟩:ByteArray)] ‹_› ‹_› hl (by simp) (by simp) (by decide))) (hK:= ?_);rintro _ _ _ ⟨⟨s,hs,rfl⟩,rfl,i,h,hi0,hi1,rfl⟩)|(refine dJ true (h:=(oC l _ _ 64 [(⟨#[99,108,111,99,107,40,41]⟩:ByteArray),(⟨#[99,104,97,110,99,101,40,54,41]⟩:ByteArray),(⟨#[102,105,108,101,40,34,102,34,41]⟩:ByteArray),(⟨#[99,104,97,110,99,101,40,51,41,32,43,32,99,104,97,110,99,101,40,51,41]⟩:ByteArray),(⟨#[99,108,111,99,107,40,41,32,43,32,97]⟩:ByteArray)] ‹_› ‹_› hl (by simp) (by simp) (by decide))) (hK:= ?_);rintro _ _ _ ⟨⟨s,hs,rfl⟩,rfl,i,h,hi0,hi1,rfl⟩)|(refine dJ true (h:=(oC l _ _ 64 [(⟨#[49,32,43]⟩:ByteArray),(⟨#[108,101,116,32,120,32,61,32,105,110,32,50]⟩:ByteArray),(⟨#[115,117,109,40,91,49,44,32,50,93]⟩:ByteArray),(⟨#[55]⟩:ByteArray),(⟨#[105,102,32,97,32,60,32,51,32,116,104,101,110,32,98,32,101,108,115,101,32,99]⟩:ByteArray),(⟨#[102,111,114,32,117,32,105,110,32,91,49,44,32,50,44,32,51,93,32,100,111,32,117,32,42,32,97]⟩:ByteArray),(⟨#[106,111,105,110,40,34,97,34,44,32,100,44,32,101,41]⟩:ByteArray),(⟨#[115,117,109,40,99,111,108,117,109,110,40,34,98,34,44,32,100,41,41]⟩:ByteArray),(⟨#[108,101,116,32,97,32,61,32,52,32,105,110,32,97,32,43,32,98]⟩:ByteArray)] ‹_› ‹_› hl (by simp) (by simp) (by decide))) (hK:= ?_);rintro _ _ _ ⟨⟨s,hs,rfl⟩,rfl,i,h,hi0,hi1,rfl⟩)|(refine iW (h:=(UL _ (by omega) (by omega))) (hK:= ?_);rintro _ _ ⟨⟨s,hs,rfl⟩,rfl⟩)|(refine dJ true (h:=(WQ l _ _ [(⟨#[97]⟩:ByteArray),(⟨#[98]⟩:ByteArray),(⟨#[99]⟩:ByteArray),(⟨#[100]⟩:ByteArray),(⟨#[101]⟩:ByteArray)] ‹_› ‹_› hl (by simp) (by simp) (by decide))) (hK:= ?_);rintro _ _ _ ⟨⟨ek,en,et,eq,hE,rfl⟩,rfl,i,h,hi0,hi1,rfl⟩)|(refine iW (h:=(Xe _ _ _ _ hE)) (hK:= ?_);rintro _ _ ⟨⟨s,hs,rfl⟩,rfl⟩))|refine sz_ (a3_ tdE @oN @pG) ?_|refine nv ?_|(refine c2_ ?_ ?_<;>(intro hb hb';try(exfalso;omega)))|exact bq_|fail)
 all_goals first
  |omega
  |exact aC [(⟨#[97]⟩:ByteArray),(⟨#[98]⟩:ByteArray),(⟨#[99]⟩:ByteArray),(⟨#[100]⟩:ByteArray),(⟨#[101]⟩:ByteArray)]
  |(simp only[ByteArray.size_append,szD,b_,c_,d_];omega)
  |(exact Ee rfl rfl ‹_› ‹_› ⟨⟨_,by first|omega|decide|(simp only[ByteArray.size_append,szD,b_,c_,d_];omega),rfl⟩,rfl,_,_, ‹_›, ‹_›,rfl⟩)
def Ko :IC:=(zd_ [zz_ 2 (.mov (.k (.string ⟨#[]⟩)))] (zd_ [zw_ 9 0,zz_ 10 (.brow false 9 1 6 false [(.k (.string ⟨#[97,32,98]⟩)),(.k (.string ⟨#[97,32,98]⟩)),(.k (.string ⟨#[97,32,98]⟩)),(.k (.string ⟨#[97,32,99]⟩)),(.k (.string ⟨#[98]⟩)),(.k (.string ⟨#[97,32,98,32,99]⟩))]),zp_ 11 91 9 10,zw_ 3 11] (zd_ [zw_ 12 0,zn_ 13 57 12 4,zw_ 4 13] (zd_ [zw_ 14 3,zz_ 15 (.call 32 [(.t 14),(.k (.int .u8 32))]),zf_ 16 false 15,zw_ 5 16] (.seq (zd_ [zk_ 6 0] (.block 0 (.loop (.seq (zd_ [zw_ 17 6,zw_ 18 4,zl_ 19 .lss 17 18] (.cond (.t 19) .skip (.exit 0))) (.seq (.block 1 (zd_ [zz_ 22 (.brow true 9 1 0 false []),zw_ 7 22] (.seq (zd_ [zk_ 8 0] (.block 2 (.loop (.seq (zd_ [zw_ 23 8,zw_ 24 5,zl_ 25 .lss 23 24] (.cond (.t 25) .skip (.exit 2))) (.seq (.block 3 (.reg false [zw_ 28 7,zw_ 29 0,zn_ 30 57 29 4,zq_ 31 68 30,zz_ 32 (.brow false 9 1 1 false [(.t 31)]),zz_ 33 (.app 9 1 (.t 28) (.t 32)),zw_ 7 33])) (.reg false [zw_ 26 8,zm_ 27 .add 26 1,zw_ 8 27])))))) (.reg false [zw_ 34 3,zz_ 35 (.bin .add (.t 34) (.k (.string ⟨#[59,32]⟩))),zw_ 36 7,zz_ 37 (.call 67 [(.t 36),(.k (.string ⟨#[32]⟩))]),zl_ 38 .add 35 37,zw_ 3 38])))) (.reg false [zw_ 20 6,zm_ 21 .add 20 1,zw_ 6 21])))))) (.seq (zd_ [zw_ 39 0,zn_ 40 93 39 12] (.cond (.t 40) (zd_ [zw_ 41 0,zw_ 42 3,zz_ 43 (.brow false 9 1 5 false [(.k (.string ⟨#[59]⟩)),(.k (.string ⟨#[32]⟩)),(.k (.string ⟨#[120]⟩)),(.k (.string ⟨#[59,32,49]⟩)),(.k (.string ⟨#[45]⟩))]),zo_ 44 53 41 42 43,zw_ 2 44] .ret) .skip)) (zd_ [zw_ 45 3,zw_ 2 45] .ret)))))))
theorem J9 :bg Tryz.prog (Tryz.f96.body.getD .skip)=some Ko:=by kernel_rfl
theorem V3(l:List UInt8)(i h:Int)(h0:0≤i)(h1:i≤l.length)(hl:l.length≤1048576):iq Tryz.prog 96 [] (fC l i h) (fun r os' c'=>(∃z:ByteArray,z.size≤1000∧r= .c false [.raw (.string z)])∧os'= []∧pz l c'):=by
 refine jK (fn:=Tryz.f96) (r:= .tmp 2) (hc:=J9) (h:= ?_);unfold Ko fC;refine zb_ ?_;change iK _ _ _ _ (stS 46 _ _ _);refine sS tdX ?_
 repeat' (first|(refine rg_ ?_;intro K hK)|(refine hq_ ?_;clear hK K)|refine ca_ ?_ ?_|(refine cg_ ?_;first|(refine dJ true (h:=(oC l _ _ 5 [(⟨#[97,32,98]⟩:ByteArray),(⟨#[97,32,98]⟩:ByteArray),(⟨#[97,32,98]⟩:ByteArray),(⟨#[97,32,99]⟩:ByteArray),(⟨#[98]⟩:ByteArray),(⟨#[97,32,98,32,99]⟩:ByteArray)] ‹_› ‹_› hl (by simp) (by simp) (by decide))) (hK:= ?_);rintro _ _ _ ⟨⟨s,hs,rfl⟩,rfl,i,h,hi0,hi1,rfl⟩)|(refine dJ true (h:=(nR l _ _ 4 ‹_› ‹_› hl (by decide) (by decide))) (hK:= ?_);rintro _ _ _ ⟨⟨n,hn,rfl⟩,rfl,i,h,hi0,hi1,rfl⟩)|(refine iW (h:=(Jm _ 32 (by omega))) (hK:= ?_);rintro _ _ ⟨⟨q,hq,hqs,rfl⟩,rfl⟩))|refine sz_ (a3_ tdE @oN @pG) ?_|refine nv ?_|(refine c2_ ?_ ?_<;>(intro hb hb';try(exfalso;omega)))|exact bq_|fail)
 all_goals try omega
 refine og (X:=Nat×ByteArray×Int×Int) (fun z=> [.k,.d,.d,.v (.c false [.raw (.string z.2.1)]),.k,.k,.v (.c false [.raw (.int .i64 ((z.1:Nat)))])]) (fun z=> []) (fun z _=> [fC l z.2.2.1 z.2.2.2])
  (fun z=>z.1≤n∧z.2.1.size≤5+z.1*160∧0≤z.2.2.1∧z.2.2.1≤l.length) (fun z=>n - z.1) (0,s,i,h) ⟨a_ _,by simpa using hs,hi0,hi1⟩ (fun z=>⟨a_ _,by simp⟩) ?_ ?_
 ·simp[gI,iM,gq,gJ,AV.fits,AC.fits,FB,fP,fC]
 ·rintro ⟨k,s1,i,h⟩ ⟨hk,hs1,hi0,hi1⟩;simp only at hk hs1 hi0 hi1;simp only[FB,fP];by_cases hlt:k<n
  ·have hT:decide ((k:Int)<(n:Int))=true:=decide_eq_true (by omega);have hw1:IntKind.i64.wrap ((k:Int)+1)=((k+1:Nat):Int):=iP (by omega)
   repeat' (first|(refine rg_ ?_;intro K hK)|(refine hq_ ?_;clear hK K)|refine ca_ ?_ ?_|refine sz_ (a3_ tdE hT hw1) ?_|refine nv ?_|(refine c2_ ?_ ?_<;>(intro hb hb';try(exfalso;omega)))|exact bq_|fail)
   refine og (X:=Nat×Nat×List ByteArray×Int×Int) (fun y=> [.k,.d,.d,.k,.k,.k,.k,.v (.c false [.own 0 y.2.1]),.v (.c false [.raw (.int .i64 ((y.1:Nat)))])]) (fun y=> [⟨y.2.2.1.map ls,9,1,y.2.1,true⟩]) (fun y _=> [fC l y.2.2.2.1 y.2.2.2.2])
    (fun y=>y.1≤q.length∧y.2.2.1.length=y.1∧bsz y.2.2.1≤21*y.1∧0≤y.2.2.2.1∧y.2.2.2.1≤l.length) (fun y=>q.length - y.1) (0,0,[],i,h) ⟨a_ _,rfl,a_ _,hi0,hi1⟩ (fun y=>⟨a_ _,by simp⟩) ?_ ?_
   ·simp[gI,iM,gq,gJ,AV.fits,AC.fits,FB,fP,fC]
   ·rintro⟨j,v,ws,i,h⟩ ⟨hj,hws,hbz,hi0,hi1⟩;simp only at hj hws hbz hi0 hi1;simp only[FB,fP];by_cases hlt2:j<q.length
    ·have hT2:decide ((j:Int)<(q.length:Int))=true:=decide_eq_true (by omega);have hw2:IntKind.i64.wrap ((j:Int)+1)=((j+1:Nat):Int):=iP (by omega)
     repeat' (first|(refine rg_ ?_;intro K hK)|(refine hq_ ?_;clear hK K)|refine ca_ ?_ ?_|(refine cg_ ?_;first|(refine dJ true (h:=(nR l _ _ 4 ‹_› ‹_› hl (by decide) (by decide))) (hK:= ?_);rintro _ _ _ ⟨⟨k,hk,rfl⟩,rfl,i,h,hi0,hi1,rfl⟩)|(refine iW (h:=(UL _ (by omega) (by omega))) (hK:= ?_);rintro _ _ ⟨⟨w,hw,rfl⟩,rfl⟩))|refine sz_ (a3_ tdE hT2 hw2) ?_|refine nv ?_|(refine c2_ ?_ ?_<;>(intro hb hb';try(exfalso;omega)))|exact bq_|fail)
     all_goals first
      |omega
      |(simp only[List.length_map];omega)
      | (refine gY (j+1,v+1,ws++ [w],_,_) ⟨?fr,⟨⟨?l1,rfl,rfl,rfl,rfl⟩,trivial⟩,⟨rfl,trivial⟩,rfl⟩ ⟨by simp only;omega,by simp[hws],by simp only;rw[BJ];simp only[bsz];omega,by assumption,by assumption⟩ (show q.length - (j+1)<q.length - j by omega)
         case fr=>simp[iM,AV.fits,AC.fits,FB,fP]
         case l1=>simp[ls])
    ·have hT2:decide ((j:Int)<(q.length:Int))=false:=decide_eq_false (by omega);have hb3:(⟨#[32]⟩:ByteArray).size=1:=rfl;have hb2:=Gf ws ⟨#[32]⟩;rw[hb3]at hb2;have hJ:=pO ws ⟨#[32]⟩ (by have:=vI ws ⟨#[32]⟩ ws.length (e_ _);rw[List.take_length,hb3]at this;omega) (by omega);have hk3:k*160≤480:=by omega
     repeat' (first|(refine rg_ ?_;intro K hK)|(refine hq_ ?_;clear hK K)|refine ca_ ?_ ?_|(refine cg_ ?_;first|refine cT_ hJ ?_)|refine sz_ (a5_ tdE hT2 hw1 @oN @pG) ?_|refine nv ?_|(refine c2_ ?_ ?_<;>(intro hb hb';try(exfalso;omega)))|exact bq_|fail)
     all_goals first
      |omega
      | (refine gY (k+1,s1++⟨#[59,32]⟩++jA ws ⟨#[32]⟩,_,_) ⟨?fr,trivial,⟨rfl,trivial⟩,rfl⟩ ⟨by simp only;omega, ?sz,by assumption,by assumption⟩ (show n - (k+1)<n - k by omega)
         case fr=>simp[iM,AV.fits,AC.fits,FB,fP]
         case sz=>simp only[ByteArray.size_append,szD,b_,c_,d_];omega)
  ·have hT:decide ((k:Int)<(n:Int))=false:=decide_eq_false (by omega);have hk3:k*160≤480:=by omega
   repeat' (first|(refine rg_ ?_;intro K hK)|(refine hq_ ?_;clear hK K)|refine ca_ ?_ ?_|(refine cg_ ?_;first|(refine dJ true (h:=(uq l _ _ (12) ‹_› ‹_› hl (by decide))) (hK:= ?_);rintro _ _ _ ⟨⟨b,rfl⟩,rfl,i,h,hi0,hi1,rfl⟩)|(refine dJ true (h:=(Cb l _ _ s1 [(⟨#[59]⟩:ByteArray),(⟨#[32]⟩:ByteArray),(⟨#[120]⟩:ByteArray),(⟨#[59,32,49]⟩:ByteArray),(⟨#[45]⟩:ByteArray)] ‹_› ‹_› hl (by omega) (by simp) (by simp) (by decide))) (hK:= ?_);rintro _ _ _ ⟨⟨y,hy,rfl⟩,rfl,i,h,hi0,hi1,rfl⟩))|refine sz_ (a4_ tdE hT @oN @pG) ?_|refine nv ?_|(refine c2_ ?_ ?_<;>(intro hb hb';try(exfalso;omega)))|exact bq_|fail)
   all_goals first
    |omega
    |(exact Ee rfl rfl ‹_› ‹_› ⟨⟨_,by first|omega|decide|(simp only[ByteArray.size_append,szD,b_,c_,d_];omega),rfl⟩,rfl,_,_, ‹_›, ‹_›,rfl⟩)
end Go.Proofs.YtfengkmaphbofaaGreatDoor
