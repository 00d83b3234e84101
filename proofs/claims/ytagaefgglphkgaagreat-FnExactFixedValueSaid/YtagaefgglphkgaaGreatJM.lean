/-
  Texts joined: FixV.
-/
import Derived.Test.YtagaefgglphkgaaGreatJI
import Derived.Test.YtagaefgglphkgaaGreatJL
set_option maxHeartbeats 8000000
set_option linter.unusedSimpArgs false
set_option linter.unusedVariables false
namespace Go.Proofs.YtagaefgglphkgaaGreat
open Go.RowKit
open List renaming length_map→a_
open Or renaming inr→b_,inl→c_
attribute [local irreducible] sw sd sn
theorem pJ(l:List GPart)(z:Int)(hn:l.length≤1048576):aB Tryz.prog 43 [.sl (l.map GPart.toD),li z] (.c false [.raw (.bool (oO l z))]):=vV fun w vs hr=>by
 obtain⟨v,u,rfl,h1,h2⟩:=Ll hr;obtain⟨fp,hS⟩:=uQ h1;obtain rfl:=qg h2;exact Au l z fp v w hS hn
theorem pI(l:List GPart)(z:Int)(hn:l.length≤1048576):aB Tryz.prog 66 [.sl (l.map GPart.toD),li z] (.c false [.raw (.bool (oO l z))]):=vV fun w vs hr=>by
 obtain⟨v,u,rfl,h1,h2⟩:=Ll hr;obtain⟨fp,hS⟩:=uQ h1;obtain rfl:=qg h2;exact Ar l z fp v w hS hn
def yK :GVal:= .mk 0 0 0 ⟨#[]⟩ [] [] []
noncomputable def pV(l:List GPart)(z:Int):GVal×Bool:=if inB z 0 ((l.length:Int) - 1)then
 (match l[z.toNat]? with
  |none=>(yK,false)
  |some p=>if p.kind==1 then(yK,true)else if oO l z then(rM 2,true)else if p.kind==4 then(rM 8,true)else if p.kind==3 then(p.value,true)else if onC l z then(rM 3,true)else(yK,false))
 else(yK,false)
theorem Eb{l:List GPart}(hw:l.length+D.wts (l.map GPart.toD)≤1048576){k:Nat}(h:k<l.length):(l[k]).value.toD.wt≤1048576:=by
 have h1:=D.l9 (List.mem_map_of_mem (f:=GPart.toD) (List.getElem_mem h));have h2:=GPart.iW l[k];have h3:=GVal.iW l[k].value;omega
theorem aau(E:Env)(w:World){a b c d:Value}{us:List Value}(h:Oks E [] w [.raw a,.raw b,.raw c,.raw d,.raw (.slice none 0 0),.raw (.slice none 0 0),.raw (.slice none 0 0)] us):us= [a,b,c,d,.slice none 0 0,.slice none 0 0,.slice none 0 0]:=by
 match us,h with
 | [u0,u1,u2,u3,u4,u5,u6],⟨k0,k1,k2,k3,k4,k5,k6,_⟩=>
   obtain rfl:u0=a:=k0;obtain rfl:u1=b:=k1;obtain rfl:u2=c:=k2;obtain rfl:u3=d:=k3;obtain rfl:u4= .slice none 0 0:=k4;obtain rfl:u5= .slice none 0 0:=k5;obtain rfl:u6= .slice none 0 0:=k6;rfl
theorem jf{P:Program}{f:Nat}{ds:List D}{a b:Int}{u:Value}(h:aB P f ds (.tup [(true,[.raw (.int .i64 a),.raw (.int .i64 b),.raw (.int .i64 0),.raw (.string ⟨#[]⟩),.raw (.slice none 0 0),.raw (.slice none 0 0),.raw (.slice none 0 0)]),(false,[.raw u])])){w:World}{vs:List Value}(hr:Rds w ds vs)(ht:nJ w):Calls P f vs.toArray w (vP (GVal.mk a b 0 ⟨#[]⟩ [] [] []).toD u w):=(h w vs hr ht).mono fun e w' ⟨v,h1,h2,h3⟩=>by
 obtain⟨us,rfl,h5⟩:=h2
 match us,h5 with
 | [x,y],⟨h6,h7,_⟩=>
   obtain⟨xs,rfl,h8⟩:=h6;obtain rfl:=h7.1;obtain rfl:=aau _ _ h8;have hnil:Sl w' [] [] (.slice none 0 0):=by unfold Sl;rw[R];exact⟨none,0,rfl,Nat.le_refl _,Nat.zero_le _,c_ ⟨rfl,rfl⟩⟩
   exact⟨[],_,h1,GVal.opened.2 ⟨_,_,_,_,_,_,rfl,rfl,hnil,hnil,hnil⟩,aV.nil,h3⟩
theorem rE{d:D}{u:Value}{w:World}{e:Ending}{w':World}(h:vP d u w e w'):Bd d u w e w':=by
 obtain⟨fp,cs,h1,h2,h3,h4⟩:=h;exact⟨fp,cs,h1,h2,⟨trivial,fun x hx=>⟨(h3.2 x hx).1,trivial⟩⟩,h4⟩
def gB :IC:=(zd_ [zz_ 4 (.alloc [(.int .i64 0),(.int .i64 0),(.int .i64 0),(.string ⟨#[]⟩),(.slice none 0 0),(.slice none 0 0),(.slice none 0 0)]),zj_ 5 false] (.seq (zd_ [zw_ 7 1,zm_ 8 .lss 7 0,zw_ 9 8,zu_ 10 9 1,zu_ 11 9 0,zx_ 12 9 (.len false (.t 11)),zx_ 13 9 (.bin .geq (.t 10) (.t 12)),zg_ 14 9 true 13] (.cond (.t 14) (zd_ [zz_ 15 (.bld [(.int .i64 0),(.int .i64 0),(.int .i64 0),(.string ⟨#[]⟩),(.slice none 0 0),(.slice none 0 0),(.slice none 0 0)] []),⟨none,none,.store 7 (.t 4) (.t 15)⟩,zj_ 5 false] .ret) .skip)) (zd_ [zw_ 16 0,zw_ 17 1,ze_ 18 14 16 17,zr_ 19 14 18,zz_ 6 (.alloc [(.int .i64 0),(.string ⟨#[]⟩),(.int .i64 0),(.int .i64 0),(.string ⟨#[]⟩),(.slice none 0 0),(.int .i64 0),(.int .i64 0),(.int .i64 0),(.string ⟨#[]⟩),(.slice none 0 0),(.slice none 0 0),(.slice none 0 0),(.int .i64 0)]),⟨none,none,.store 14 (.t 6) (.t 19)⟩] (.seq (.block 0 (zd_ [zt_ 21 0 6,zs_ 22 1 21,zm_ 23 .eql 22 1,zw_ 20 23] (.cond (.t 20) (zd_ [zz_ 24 (.bld [(.int .i64 0),(.int .i64 0),(.int .i64 0),(.string ⟨#[]⟩),(.slice none 0 0),(.slice none 0 0),(.slice none 0 0)] []),⟨none,none,.store 7 (.t 4) (.t 24)⟩,zj_ 5 true] .ret) (zd_ [zw_ 26 0,zw_ 27 1,zp_ 28 43 26 27,zw_ 25 28] (.cond (.t 25) (zd_ [zz_ 29 (.call 44 [(.k (.int .i64 2))]),⟨none,none,.store 7 (.t 4) (.t 29)⟩,zj_ 5 true] .ret) (zd_ [zt_ 31 0 6,zs_ 32 1 31,zm_ 33 .eql 32 4,zw_ 30 33] (.cond (.t 30) (zd_ [zz_ 34 (.call 44 [(.k (.int .i64 8))]),⟨none,none,.store 7 (.t 4) (.t 34)⟩,zj_ 5 true] .ret) (zd_ [zt_ 36 0 6,zs_ 37 1 36,zm_ 38 .eql 37 3,zw_ 35 38] (.cond (.t 35) (zd_ [zt_ 39 6 6,zr_ 40 7 39,zq_ 41 45 40,⟨none,none,.store 7 (.t 4) (.t 41)⟩,zj_ 5 true] .ret) (zd_ [zw_ 43 0,zw_ 44 1,zp_ 45 46 43 44,zw_ 42 45] (.cond (.t 42) (zd_ [zz_ 46 (.call 44 [(.k (.int .i64 3))]),⟨none,none,.store 7 (.t 4) (.t 46)⟩,zj_ 5 true] .ret) .skip))))))))))) (zd_ [zz_ 47 (.bld [(.int .i64 0),(.int .i64 0),(.int .i64 0),(.string ⟨#[]⟩),(.slice none 0 0),(.slice none 0 0),(.slice none 0 0)] []),⟨none,none,.store 7 (.t 4) (.t 47)⟩,zj_ 5 false] .ret)))))
theorem eP :ak Tryz.prog (Tryz.f19.body.getD .skip)=some gB:=by kernel_rfl
theorem GI(l:List GPart)(hw:l.length+D.wts (l.map GPart.toD)≤1048576){k:Nat}(h:k<l.length)(h1:(l[k].kind==1)=true):aB Tryz.prog 19 [.sl (l.map GPart.toD),li (k:Int)] (.tup [(true,[.raw (.int .i64 0),.raw (.int .i64 0),.raw (.int .i64 0),.raw (.string ⟨#[]⟩),.raw (.slice none 0 0),.raw (.slice none 0 0),.raw (.slice none 0 0)]),(false,[.raw (.bool true)])]):=by
 have hg:=dh GPart.toD l h;have hz0:decide ((k:Int)<0)=false:=by simp
 have hz5:decide ((k:Int)≥(l.length:Int))=false:=by simp only[decide_eq_false_iff_not];omega
 refine eH (fn:=Tryz.f19) (r:= .cell 4 42) (q:= .tmp 5) (hc:=eP) (h:= ?_);unfold gB;refine zb_ ?_;change AWP _ _ _ (st0 48 _);refine sS trivial ?_
 repeat' (first|(refine rg_ ?_;intro K hK)|(refine hq_ ?_;clear hK K)|refine ca_ ?_ ?_|refine gq_ ?_|(refine c2_ ?_ ?_<;>(intro hb hb';try(exfalso;omega)))|refine sz_ (a4_ hg h1 hz0 hz5) ?_|refine nv ?_|(exact GPart.el _)|exact bq_|fail)
 all_goals first
  |(simp only[a_];omega)
  |(exact aU ⟨⟨0,_,rfl,rfl,by simp[aS,bM]⟩,⟨_,rfl,by simp[aS,bM]⟩⟩)
theorem JW(l:List GPart)(hw:l.length+D.wts (l.map GPart.toD)≤1048576){k:Nat}(h:k<l.length)(h1:(l[k].kind==1)=false)(h2:oO l (k:Int)=true):aB Tryz.prog 19 [.sl (l.map GPart.toD),li (k:Int)] (.tup [(true,[.raw (.int .i64 6),.raw (.int .i64 2),.raw (.int .i64 0),.raw (.string ⟨#[]⟩),.raw (.slice none 0 0),.raw (.slice none 0 0),.raw (.slice none 0 0)]),(false,[.raw (.bool true)])]):=by
 have hg:=dh GPart.toD l h;have hz0:decide ((k:Int)<0)=false:=by simp
 have hz5:decide ((k:Int)≥(l.length:Int))=false:=by simp only[decide_eq_false_iff_not];omega
 have hdu:=pJ l (k:Int) (by omega);rw[h2]at hdu;have he:=jh 2;refine eH (fn:=Tryz.f19) (r:= .cell 4 42) (q:= .tmp 5) (hc:=eP) (h:= ?_);unfold gB;refine zb_ ?_;change AWP _ _ _ (st0 48 _);refine sS trivial ?_
 repeat' (first|(refine rg_ ?_;intro K hK)|(refine hq_ ?_;clear hK K)|refine ca_ ?_ ?_|refine gq_ ?_|(refine c2_ ?_ ?_<;>(intro hb hb';try(exfalso;omega)))|(refine cg_ ?_;first|refine cT_ hdu ?_|refine cT_ he ?_)|refine sz_ (a4_ hg h1 hz0 hz5) ?_|refine nv ?_|(exact GPart.el _)|exact bq_|fail)
 all_goals first
  |(simp only[a_];omega)
  |(exact aU ⟨⟨0,_,rfl,rfl,by simp[aS,bM]⟩,⟨_,rfl,by simp[aS,bM]⟩⟩)
theorem JY(l:List GPart)(hw:l.length+D.wts (l.map GPart.toD)≤1048576){k:Nat}(h:k<l.length)(h1:(l[k].kind==1)=false)(h2:oO l (k:Int)=false)(h3:(l[k].kind==4)=true):aB Tryz.prog 19 [.sl (l.map GPart.toD),li (k:Int)] (.tup [(true,[.raw (.int .i64 6),.raw (.int .i64 8),.raw (.int .i64 0),.raw (.string ⟨#[]⟩),.raw (.slice none 0 0),.raw (.slice none 0 0),.raw (.slice none 0 0)]),(false,[.raw (.bool true)])]):=by
 have hg:=dh GPart.toD l h;have hz0:decide ((k:Int)<0)=false:=by simp
 have hz5:decide ((k:Int)≥(l.length:Int))=false:=by simp only[decide_eq_false_iff_not];omega
 have hdu:=pJ l (k:Int) (by omega);rw[h2]at hdu;have he:=jh 8;refine eH (fn:=Tryz.f19) (r:= .cell 4 42) (q:= .tmp 5) (hc:=eP) (h:= ?_);unfold gB;refine zb_ ?_;change AWP _ _ _ (st0 48 _);refine sS trivial ?_
 repeat' (first|(refine rg_ ?_;intro K hK)|(refine hq_ ?_;clear hK K)|refine ca_ ?_ ?_|refine gq_ ?_|(refine c2_ ?_ ?_<;>(intro hb hb';try(exfalso;omega)))|(refine cg_ ?_;first|refine cT_ hdu ?_|refine cT_ he ?_)|refine sz_ (a5_ hg h1 h3 hz0 hz5) ?_|refine nv ?_|(exact GPart.el _)|exact bq_|fail)
 all_goals first
  |(simp only[a_];omega)
  |(exact aU ⟨⟨0,_,rfl,rfl,by simp[aS,bM]⟩,⟨_,rfl,by simp[aS,bM]⟩⟩)
theorem JQ(l:List GPart)(hw:l.length+D.wts (l.map GPart.toD)≤1048576){k:Nat}(h:k<l.length)(h1:(l[k].kind==1)=false)(h2:oO l (k:Int)=false)(h3:(l[k].kind==4)=false)(h4:(l[k].kind==3)=true):dX Tryz.prog 19 [.sl (l.map GPart.toD),li (k:Int)] (.tup [(true,[.raw (.int .i64 l[k].value.kind),.raw (.int .i64 l[k].value.n),.raw (.int .i64 l[k].value.step),.raw (.string l[k].value.text),.own 0 0,.own 1 0,.own 2 0]),(false,[.raw (.bool true)])]) [⟨l[k].value.list.map GVal.toD,42,7,0,⟨true,true⟩⟩,⟨l[k].value.cols.map ls,9,1,0,⟨true,true⟩⟩,⟨l[k].value.rows.map GRow.toD,95,2,0,⟨true,true⟩⟩]:=by
 have hg:=dh GPart.toD l h;have hz0:decide ((k:Int)<0)=false:=by simp
 have hz5:decide ((k:Int)≥(l.length:Int))=false:=by simp only[decide_eq_false_iff_not];omega
 have hdu:=pJ l (k:Int) (by omega);rw[h2]at hdu;have hc:=BP l[k].value (Eb hw h);refine NR (fn:=Tryz.f19) (r:= .cell 4 42) (q:= .tmp 5) (hc:=eP) (h:= ?_);unfold gB;refine zb_ ?_;change AWP _ _ _ (st0 48 _);refine sS trivial ?_
 repeat' (first|(refine rg_ ?_;intro K hK)|(refine hq_ ?_;clear hK K)|refine ca_ ?_ ?_|refine gq_ ?_|(refine c2_ ?_ ?_<;>(intro hb hb';try(exfalso;omega)))|(refine cg_ ?_;first|refine cT_ hdu ?_|(refine rQ hc rfl (by simp) ?_ ?_))|refine sz_ (a7_ hg h1 h3 h4 hz0 hz5 @fA.eq_1) ?_|refine nv ?_|(exact GPart.el _)|exact bq_|fail)
 all_goals first
  |(simp only[a_];omega)
  |exact aU ⟨[0,1,2],by simp,⟨⟨_,rfl,rfl,c_ ⟨rfl,rfl⟩⟩,⟨_,rfl,rfl,c_ ⟨rfl,rfl⟩⟩,⟨_,rfl,rfl,c_ ⟨rfl,rfl⟩⟩,trivial⟩,⟨0,_,rfl,rfl,by simp[kE,qJ]⟩,⟨_,rfl,by simp[kE,qJ]⟩⟩
theorem JX(l:List GPart)(hw:l.length+D.wts (l.map GPart.toD)≤1048576){k:Nat}(h:k<l.length)(h1:(l[k].kind==1)=false)(h2:oO l (k:Int)=false)(h3:(l[k].kind==4)=false)(h4:(l[k].kind==3)=false)(h5:onC l (k:Int)=true):aB Tryz.prog 19 [.sl (l.map GPart.toD),li (k:Int)] (.tup [(true,[.raw (.int .i64 6),.raw (.int .i64 3),.raw (.int .i64 0),.raw (.string ⟨#[]⟩),.raw (.slice none 0 0),.raw (.slice none 0 0),.raw (.slice none 0 0)]),(false,[.raw (.bool true)])]):=by
 have hg:=dh GPart.toD l h;have hz0:decide ((k:Int)<0)=false:=by simp
 have hz5:decide ((k:Int)≥(l.length:Int))=false:=by simp only[decide_eq_false_iff_not];omega
 have hdu:=pJ l (k:Int) (by omega);rw[h2]at hdu;have hcy:=uj l (k:Int) hw;rw[h5]at hcy;have he:=jh 3;refine eH (fn:=Tryz.f19) (r:= .cell 4 42) (q:= .tmp 5) (hc:=eP) (h:= ?_);unfold gB;refine zb_ ?_;change AWP _ _ _ (st0 48 _);refine sS trivial ?_
 repeat' (first|(refine rg_ ?_;intro K hK)|(refine hq_ ?_;clear hK K)|refine ca_ ?_ ?_|refine gq_ ?_|(refine c2_ ?_ ?_<;>(intro hb hb';try(exfalso;omega)))|(refine cg_ ?_;first|refine cT_ hdu ?_|refine cT_ hcy ?_|refine cT_ he ?_)|refine sz_ (a6_ hg h1 h3 h4 hz0 hz5) ?_|refine nv ?_|(exact GPart.el _)|exact bq_|fail)
 all_goals first
  |(simp only[a_];omega)
  |(exact aU ⟨⟨0,_,rfl,rfl,by simp[aS,bM]⟩,⟨_,rfl,by simp[aS,bM]⟩⟩)
theorem JR(l:List GPart)(hw:l.length+D.wts (l.map GPart.toD)≤1048576){k:Nat}(h:k<l.length)(h1:(l[k].kind==1)=false)(h2:oO l (k:Int)=false)(h3:(l[k].kind==4)=false)(h4:(l[k].kind==3)=false)(h5:onC l (k:Int)=false):aB Tryz.prog 19 [.sl (l.map GPart.toD),li (k:Int)] (.tup [(true,[.raw (.int .i64 0),.raw (.int .i64 0),.raw (.int .i64 0),.raw (.string ⟨#[]⟩),.raw (.slice none 0 0),.raw (.slice none 0 0),.raw (.slice none 0 0)]),(false,[.raw (.bool false)])]):=by
 have hg:=dh GPart.toD l h;have hz0:decide ((k:Int)<0)=false:=by simp
 have hz5:decide ((k:Int)≥(l.length:Int))=false:=by simp only[decide_eq_false_iff_not];omega
 have hdu:=pJ l (k:Int) (by omega);rw[h2]at hdu;have hcy:=uj l (k:Int) hw;rw[h5]at hcy;refine eH (fn:=Tryz.f19) (r:= .cell 4 42) (q:= .tmp 5) (hc:=eP) (h:= ?_);unfold gB;refine zb_ ?_;change AWP _ _ _ (st0 48 _);refine sS trivial ?_
 repeat' (first|(refine rg_ ?_;intro K hK)|(refine hq_ ?_;clear hK K)|refine ca_ ?_ ?_|refine gq_ ?_|(refine c2_ ?_ ?_<;>(intro hb hb';try(exfalso;omega)))|(refine cg_ ?_;first|refine cT_ hdu ?_|refine cT_ hcy ?_)|refine sz_ (a6_ hg h1 h3 h4 hz0 hz5) ?_|refine nv ?_|(exact GPart.el _)|exact bq_|fail)
 all_goals first
  |(simp only[a_];omega)
  |(exact aU ⟨⟨0,_,rfl,rfl,by simp[aS,bM]⟩,⟨_,rfl,by simp[aS,bM]⟩⟩)
theorem JU(l:List GPart)(hw:l.length+D.wts (l.map GPart.toD)≤1048576)(z:Int)(h0:decide (z<0)=true):aB Tryz.prog 19 [.sl (l.map GPart.toD),li z] (.tup [(true,[.raw (.int .i64 0),.raw (.int .i64 0),.raw (.int .i64 0),.raw (.string ⟨#[]⟩),.raw (.slice none 0 0),.raw (.slice none 0 0),.raw (.slice none 0 0)]),(false,[.raw (.bool false)])]):=by
 skip
 refine eH (fn:=Tryz.f19) (r:= .cell 4 42) (q:= .tmp 5) (hc:=eP) (h:= ?_);unfold gB;refine zb_ ?_;change AWP _ _ _ (st0 48 _);refine sS trivial ?_
 repeat' (first|(refine rg_ ?_;intro K hK)|(refine hq_ ?_;clear hK K)|refine ca_ ?_ ?_|refine gq_ ?_|(refine c2_ ?_ ?_<;>(intro hb hb';try(exfalso;omega)))|refine sz_ h0 ?_|refine nv ?_|exact bq_|fail)
 all_goals first
  |(simp only[a_];omega)
  |(exact aU ⟨⟨0,_,rfl,rfl,by simp[aS,bM]⟩,⟨_,rfl,by simp[aS,bM]⟩⟩)
theorem JV(l:List GPart)(hw:l.length+D.wts (l.map GPart.toD)≤1048576)(z:Int)(h0:decide (z<0)=false)(h5:decide (z≥(l.length:Int))=true):aB Tryz.prog 19 [.sl (l.map GPart.toD),li z] (.tup [(true,[.raw (.int .i64 0),.raw (.int .i64 0),.raw (.int .i64 0),.raw (.string ⟨#[]⟩),.raw (.slice none 0 0),.raw (.slice none 0 0),.raw (.slice none 0 0)]),(false,[.raw (.bool false)])]):=by
 skip
 refine eH (fn:=Tryz.f19) (r:= .cell 4 42) (q:= .tmp 5) (hc:=eP) (h:= ?_);unfold gB;refine zb_ ?_;change AWP _ _ _ (st0 48 _);refine sS trivial ?_
 repeat' (first|(refine rg_ ?_;intro K hK)|(refine hq_ ?_;clear hK K)|refine ca_ ?_ ?_|refine gq_ ?_|(refine c2_ ?_ ?_<;>(intro hb hb';try(exfalso;omega)))|refine sz_ (aaA h0 h5) ?_|refine nv ?_|exact bq_|fail)
 all_goals first
  |(simp only[a_];omega)
  |(exact aU ⟨⟨0,_,rfl,rfl,by simp[aS,bM]⟩,⟨_,rfl,by simp[aS,bM]⟩⟩)
def jC :IC:=(zd_ [zz_ 6 (.alloc [(.int .i64 0),(.int .i64 0),(.int .i64 0),(.string ⟨#[]⟩),(.slice none 0 0),(.slice none 0 0),(.slice none 0 0)]),zj_ 7 false] (.seq (.block 0 (zd_ [zw_ 9 0,zw_ 10 1,ze_ 11 14 9 10,zt_ 12 0 11,zs_ 13 1 12,zm_ 14 .eql 13 1,zw_ 8 14] (.cond (.t 8) (zd_ [zz_ 15 (.bld [(.int .i64 0),(.int .i64 0),(.int .i64 0),(.string ⟨#[]⟩),(.slice none 0 0),(.slice none 0 0),(.slice none 0 0)] []),⟨none,none,.store 7 (.t 6) (.t 15)⟩,zj_ 7 true] .ret) (zd_ [zw_ 17 0,zw_ 18 1,zp_ 19 66 17 18,zw_ 16 19] (.cond (.t 16) (zd_ [zz_ 20 (.call 54 [(.k (.int .i64 2))]),⟨none,none,.store 7 (.t 6) (.t 20)⟩,zj_ 7 true] .ret) (zd_ [zw_ 22 0,zw_ 23 1,ze_ 24 14 22 23,zt_ 25 0 24,zs_ 26 1 25,zm_ 27 .eql 26 4,zw_ 21 27] (.cond (.t 21) (zd_ [zz_ 28 (.call 54 [(.k (.int .i64 8))]),⟨none,none,.store 7 (.t 6) (.t 28)⟩,zj_ 7 true] .ret) (zd_ [zw_ 30 0,zw_ 31 1,ze_ 32 14 30 31,zt_ 33 0 32,zs_ 34 1 33,zm_ 35 .eql 34 3,zw_ 29 35] (.cond (.t 29) (zd_ [zw_ 36 0,zw_ 37 1,ze_ 38 14 36 37,zt_ 39 6 38,zr_ 40 7 39,zq_ 41 55 40,⟨none,none,.store 7 (.t 6) (.t 41)⟩,zj_ 7 true] .ret) (zd_ [zw_ 43 2,zw_ 42 43] (.cond (.t 42) (zd_ [zz_ 44 (.call 54 [(.k (.int .i64 3))]),⟨none,none,.store 7 (.t 6) (.t 44)⟩,zj_ 7 true] .ret) .skip))))))))))) (zd_ [zz_ 45 (.bld [(.int .i64 0),(.int .i64 0),(.int .i64 0),(.string ⟨#[]⟩),(.slice none 0 0),(.slice none 0 0),(.slice none 0 0)] []),⟨none,none,.store 7 (.t 6) (.t 45)⟩,zj_ 7 false] .ret)))
theorem iw :ak Tryz.prog (Tryz.f41.body.getD .skip)=some jC:=by kernel_rfl
theorem GH(l:List GPart)(hw:l.length+D.wts (l.map GPart.toD)≤1048576){k:Nat}(h:k<l.length)(h1:(l[k].kind==1)=true):aB Tryz.prog 41 [.sl (l.map GPart.toD),li (k:Int),(.leaf (.bool (onC l (k:Int))))] (.tup [(true,[.raw (.int .i64 0),.raw (.int .i64 0),.raw (.int .i64 0),.raw (.string ⟨#[]⟩),.raw (.slice none 0 0),.raw (.slice none 0 0),.raw (.slice none 0 0)]),(false,[.raw (.bool true)])]):=by
 have hg:=dh GPart.toD l h;have hz0:decide ((k:Int)<0)=false:=by simp
 have hz5:decide ((k:Int)≥(l.length:Int))=false:=by simp only[decide_eq_false_iff_not];omega
 refine eH (fn:=Tryz.f41) (r:= .cell 6 42) (q:= .tmp 7) (hc:=iw) (h:= ?_);unfold jC;refine zb_ ?_;change AWP _ _ _ (st0 46 _);refine sS trivial ?_
 repeat' (first|(refine rg_ ?_;intro K hK)|(refine hq_ ?_;clear hK K)|refine ca_ ?_ ?_|refine sz_ (aaA hg h1) ?_|refine nv ?_|(refine c2_ ?_ ?_<;>(intro hb hb';try(exfalso;omega)))|(exact GPart.el _)|exact bq_|fail)
 all_goals first
  |(simp only[a_];omega)
  |(exact aU ⟨⟨0,_,rfl,rfl,by simp[aS,bM]⟩,⟨_,rfl,by simp[aS,bM]⟩⟩)
theorem JL(l:List GPart)(hw:l.length+D.wts (l.map GPart.toD)≤1048576){k:Nat}(h:k<l.length)(h1:(l[k].kind==1)=false)(h2:oO l (k:Int)=true):aB Tryz.prog 41 [.sl (l.map GPart.toD),li (k:Int),(.leaf (.bool (onC l (k:Int))))] (.tup [(true,[.raw (.int .i64 6),.raw (.int .i64 2),.raw (.int .i64 0),.raw (.string ⟨#[]⟩),.raw (.slice none 0 0),.raw (.slice none 0 0),.raw (.slice none 0 0)]),(false,[.raw (.bool true)])]):=by
 have hg:=dh GPart.toD l h;have hz0:decide ((k:Int)<0)=false:=by simp
 have hz5:decide ((k:Int)≥(l.length:Int))=false:=by simp only[decide_eq_false_iff_not];omega
 have hdu:=pI l (k:Int) (by omega);rw[h2]at hdu;have he:=jg 2;refine eH (fn:=Tryz.f41) (r:= .cell 6 42) (q:= .tmp 7) (hc:=iw) (h:= ?_);unfold jC;refine zb_ ?_;change AWP _ _ _ (st0 46 _);refine sS trivial ?_
 repeat' (first|(refine rg_ ?_;intro K hK)|(refine hq_ ?_;clear hK K)|refine ca_ ?_ ?_|(refine cg_ ?_;first|refine cT_ hdu ?_|refine cT_ he ?_)|refine sz_ (aaA hg h1) ?_|refine nv ?_|(refine c2_ ?_ ?_<;>(intro hb hb';try(exfalso;omega)))|(exact GPart.el _)|exact bq_|fail)
 all_goals first
  |(simp only[a_];omega)
  |(exact aU ⟨⟨0,_,rfl,rfl,by simp[aS,bM]⟩,⟨_,rfl,by simp[aS,bM]⟩⟩)
theorem JO(l:List GPart)(hw:l.length+D.wts (l.map GPart.toD)≤1048576){k:Nat}(h:k<l.length)(h1:(l[k].kind==1)=false)(h2:oO l (k:Int)=false)(h3:(l[k].kind==4)=true):aB Tryz.prog 41 [.sl (l.map GPart.toD),li (k:Int),(.leaf (.bool (onC l (k:Int))))] (.tup [(true,[.raw (.int .i64 6),.raw (.int .i64 8),.raw (.int .i64 0),.raw (.string ⟨#[]⟩),.raw (.slice none 0 0),.raw (.slice none 0 0),.raw (.slice none 0 0)]),(false,[.raw (.bool true)])]):=by
 have hg:=dh GPart.toD l h;have hz0:decide ((k:Int)<0)=false:=by simp
 have hz5:decide ((k:Int)≥(l.length:Int))=false:=by simp only[decide_eq_false_iff_not];omega
 have hdu:=pI l (k:Int) (by omega);rw[h2]at hdu;have he:=jg 8;refine eH (fn:=Tryz.f41) (r:= .cell 6 42) (q:= .tmp 7) (hc:=iw) (h:= ?_);unfold jC;refine zb_ ?_;change AWP _ _ _ (st0 46 _);refine sS trivial ?_
 repeat' (first|(refine rg_ ?_;intro K hK)|(refine hq_ ?_;clear hK K)|refine ca_ ?_ ?_|(refine cg_ ?_;first|refine cT_ hdu ?_|refine cT_ he ?_)|refine sz_ (a3_ hg h1 h3) ?_|refine nv ?_|(refine c2_ ?_ ?_<;>(intro hb hb';try(exfalso;omega)))|(exact GPart.el _)|exact bq_|fail)
 all_goals first
  |(simp only[a_];omega)
  |(exact aU ⟨⟨0,_,rfl,rfl,by simp[aS,bM]⟩,⟨_,rfl,by simp[aS,bM]⟩⟩)
theorem JJ(l:List GPart)(hw:l.length+D.wts (l.map GPart.toD)≤1048576){k:Nat}(h:k<l.length)(h1:(l[k].kind==1)=false)(h2:oO l (k:Int)=false)(h3:(l[k].kind==4)=false)(h4:(l[k].kind==3)=true):aB Tryz.prog 41 [.sl (l.map GPart.toD),li (k:Int),(.leaf (.bool (onC l (k:Int))))] (.tup [(true,(l[k].value.toD.acs true)),(false,[.raw (.bool true)])]):=by
 have hg:=dh GPart.toD l h;have hz0:decide ((k:Int)<0)=false:=by simp
 have hz5:decide ((k:Int)≥(l.length:Int))=false:=by simp only[decide_eq_false_iff_not];omega
 have hdu:=pI l (k:Int) (by omega);rw[h2]at hdu;have hc:=qA l[k].value (Eb hw h);rw[GVal.aF]at hc;rw[GVal.aF];refine eH (fn:=Tryz.f41) (r:= .cell 6 42) (q:= .tmp 7) (hc:=iw) (h:= ?_);unfold jC;refine zb_ ?_;change AWP _ _ _ (st0 46 _);refine sS trivial ?_
 repeat' (first|(refine rg_ ?_;intro K hK)|(refine hq_ ?_;clear hK K)|refine ca_ ?_ ?_|(refine cg_ ?_;first|refine cT_ hdu ?_|refine cT_ hc ?_)|refine sz_ (a4_ hg h1 h3 h4) ?_|refine nv ?_|(refine c2_ ?_ ?_<;>(intro hb hb';try(exfalso;omega)))|(exact GPart.el _)|exact bq_|fail)
 all_goals first
  |(simp only[a_];omega)
  |(exact aU ⟨⟨0,_,rfl,rfl,by simp[aS,bM]⟩,⟨_,rfl,by simp[aS,bM]⟩⟩)
theorem JM(l:List GPart)(hw:l.length+D.wts (l.map GPart.toD)≤1048576){k:Nat}(h:k<l.length)(h1:(l[k].kind==1)=false)(h2:oO l (k:Int)=false)(h3:(l[k].kind==4)=false)(h4:(l[k].kind==3)=false)(h5:onC l (k:Int)=true):aB Tryz.prog 41 [.sl (l.map GPart.toD),li (k:Int),(.leaf (.bool (onC l (k:Int))))] (.tup [(true,[.raw (.int .i64 6),.raw (.int .i64 3),.raw (.int .i64 0),.raw (.string ⟨#[]⟩),.raw (.slice none 0 0),.raw (.slice none 0 0),.raw (.slice none 0 0)]),(false,[.raw (.bool true)])]):=by
 have hg:=dh GPart.toD l h;have hz0:decide ((k:Int)<0)=false:=by simp
 have hz5:decide ((k:Int)≥(l.length:Int))=false:=by simp only[decide_eq_false_iff_not];omega
 have hdu:=pI l (k:Int) (by omega);rw[h2]at hdu;rw[h5];have he:=jg 3;refine eH (fn:=Tryz.f41) (r:= .cell 6 42) (q:= .tmp 7) (hc:=iw) (h:= ?_);unfold jC;refine zb_ ?_;change AWP _ _ _ (st0 46 _);refine sS trivial ?_
 repeat' (first|(refine rg_ ?_;intro K hK)|(refine hq_ ?_;clear hK K)|refine ca_ ?_ ?_|(refine cg_ ?_;first|refine cT_ hdu ?_|refine cT_ he ?_)|refine sz_ (a4_ hg h1 h3 h4) ?_|refine nv ?_|(refine c2_ ?_ ?_<;>(intro hb hb';try(exfalso;omega)))|(exact GPart.el _)|exact bq_|fail)
 all_goals first
  |(simp only[a_];omega)
  |(exact aU ⟨⟨0,_,rfl,rfl,by simp[aS,bM]⟩,⟨_,rfl,by simp[aS,bM]⟩⟩)
theorem JK(l:List GPart)(hw:l.length+D.wts (l.map GPart.toD)≤1048576){k:Nat}(h:k<l.length)(h1:(l[k].kind==1)=false)(h2:oO l (k:Int)=false)(h3:(l[k].kind==4)=false)(h4:(l[k].kind==3)=false)(h5:onC l (k:Int)=false):aB Tryz.prog 41 [.sl (l.map GPart.toD),li (k:Int),(.leaf (.bool (onC l (k:Int))))] (.tup [(true,[.raw (.int .i64 0),.raw (.int .i64 0),.raw (.int .i64 0),.raw (.string ⟨#[]⟩),.raw (.slice none 0 0),.raw (.slice none 0 0),.raw (.slice none 0 0)]),(false,[.raw (.bool false)])]):=by
 have hg:=dh GPart.toD l h;have hz0:decide ((k:Int)<0)=false:=by simp
 have hz5:decide ((k:Int)≥(l.length:Int))=false:=by simp only[decide_eq_false_iff_not];omega
 have hdu:=pI l (k:Int) (by omega);rw[h2]at hdu;rw[h5];refine eH (fn:=Tryz.f41) (r:= .cell 6 42) (q:= .tmp 7) (hc:=iw) (h:= ?_);unfold jC;refine zb_ ?_;change AWP _ _ _ (st0 46 _);refine sS trivial ?_
 repeat' (first|(refine rg_ ?_;intro K hK)|(refine hq_ ?_;clear hK K)|refine ca_ ?_ ?_|(refine cg_ ?_;first|refine cT_ hdu ?_)|refine sz_ (a4_ hg h1 h3 h4) ?_|refine nv ?_|(refine c2_ ?_ ?_<;>(intro hb hb';try(exfalso;omega)))|(exact GPart.el _)|exact bq_|fail)
 all_goals first
  |(simp only[a_];omega)
  |(exact aU ⟨⟨0,_,rfl,rfl,by simp[aS,bM]⟩,⟨_,rfl,by simp[aS,bM]⟩⟩)
def Du :IC:=(zd_ [zz_ 4 (.alloc [(.int .i64 0),(.int .i64 0),(.int .i64 0),(.string ⟨#[]⟩),(.slice none 0 0),(.slice none 0 0),(.slice none 0 0)]),zj_ 5 false] (.seq (zd_ [zw_ 6 1,zw_ 7 0,zf_ 8 false 7,zm_ 9 .sub 8 1,zz_ 10 (.call 25 [(.t 6),(.k (.int .i64 0)),(.t 9)]),zz_ 11 (.not (.t 10))] (.cond (.t 11) (zd_ [zz_ 12 (.bld [(.int .i64 0),(.int .i64 0),(.int .i64 0),(.string ⟨#[]⟩),(.slice none 0 0),(.slice none 0 0),(.slice none 0 0)] []),⟨none,none,.store 7 (.t 4) (.t 12)⟩,zj_ 5 false] .ret) .skip)) (zd_ [zw_ 13 0,zw_ 14 1,zw_ 15 0,zw_ 16 1,zp_ 17 42 15 16,zo_ 18 41 13 14 17,zz_ 19 (.ext 0 (.t 18)),zz_ 20 (.ext 1 (.t 18)),⟨none,none,.store 7 (.t 4) (.t 19)⟩,zw_ 5 20] .ret)))
theorem yc :ak Tryz.prog (Tryz.f18.body.getD .skip)=some Du:=by kernel_rfl
theorem WR(l:List GPart)(hw:l.length+D.wts (l.map GPart.toD)≤1048576)(z:Int)(hi:inB z 0 ((l.length:Int) - 1)=false):aB Tryz.prog 18 [.sl (l.map GPart.toD),li z] (.tup [(true,[.raw (.int .i64 0),.raw (.int .i64 0),.raw (.int .i64 0),.raw (.string ⟨#[]⟩),.raw (.slice none 0 0),.raw (.slice none 0 0),.raw (.slice none 0 0)]),(false,[.raw (.bool false)])]):=by
 have hin:=sW z 0 ((l.length:Int) - 1);rw[hi]at hin;refine eH (fn:=Tryz.f18) (r:= .cell 4 42) (q:= .tmp 5) (hc:=yc) (h:= ?_);unfold Du;refine zb_ ?_;change AWP _ _ _ (st0 21 _);refine sS trivial ?_
 repeat' (first|(refine rg_ ?_;intro K hK)|(refine hq_ ?_;clear hK K)|refine ca_ ?_ ?_|(refine cg_ ?_;first|refine cT_ hin ?_)|refine sz_ trivial ?_|refine nv ?_|(refine c2_ ?_ ?_<;>(intro hb hb';try(exfalso;omega)))|exact bq_|fail)
 all_goals first
  |(simp only[a_];omega)
  |(exact aU ⟨⟨0,_,rfl,rfl,by simp[aS,bM]⟩,⟨_,rfl,by simp[aS,bM]⟩⟩)
theorem vG(l:List GPart)(hw:l.length+D.wts (l.map GPart.toD)≤1048576)(z:Int)(hi:inB z 0 ((l.length:Int) - 1)=true)(a b:Int)(u:Bool)(hf:aB Tryz.prog 41 [.sl (l.map GPart.toD),li z,.leaf (.bool (onC l z))] (.tup [(true,[.raw (.int .i64 a),.raw (.int .i64 b),.raw (.int .i64 0),.raw (.string ⟨#[]⟩),.raw (.slice none 0 0),.raw (.slice none 0 0),.raw (.slice none 0 0)]),(false,[.raw (.bool u)])])):aB Tryz.prog 18 [.sl (l.map GPart.toD),li z] (.tup [(true,[.raw (.int .i64 a),.raw (.int .i64 b),.raw (.int .i64 0),.raw (.string ⟨#[]⟩),.raw (.slice none 0 0),.raw (.slice none 0 0),.raw (.slice none 0 0)]),(false,[.raw (.bool u)])]):=by
 have hin:=sW z 0 ((l.length:Int) - 1);rw[hi]at hin;have hcy:=uh l z hw
 skip
 refine eH (fn:=Tryz.f18) (r:= .cell 4 42) (q:= .tmp 5) (hc:=yc) (h:= ?_);unfold Du;refine zb_ ?_;change AWP _ _ _ (st0 21 _);refine sS trivial ?_
 repeat' (first|(refine rg_ ?_;intro K hK)|(refine hq_ ?_;clear hK K)|refine ca_ ?_ ?_|(refine cg_ ?_;first|refine cT_ hin ?_|refine cT_ hcy ?_|refine cT_ hf ?_)|refine sz_ trivial ?_|refine nv ?_|(refine c2_ ?_ ?_<;>(intro hb hb';try(exfalso;omega)))|exact bq_|fail)
 exact aU ⟨⟨0,_,rfl,rfl,by simp[aS,bM]⟩,⟨_,rfl,by simp[aS,bM]⟩⟩
theorem WQ(l:List GPart)(hw:l.length+D.wts (l.map GPart.toD)≤1048576)(z:Int)(hi:inB z 0 ((l.length:Int) - 1)=true)(x:GVal)(u:Bool)(hf:aB Tryz.prog 41 [.sl (l.map GPart.toD),li z,.leaf (.bool (onC l z))] (.tup [(true,(x.toD.acs true)),(false,[.raw (.bool u)])])):aB Tryz.prog 18 [.sl (l.map GPart.toD),li z] (.tup [(true,(x.toD.acs true)),(false,[.raw (.bool u)])]):=by
 have hin:=sW z 0 ((l.length:Int) - 1);rw[hi]at hin;have hcy:=uh l z hw;rw[GVal.aF]at hf⊢;refine eH (fn:=Tryz.f18) (r:= .cell 4 42) (q:= .tmp 5) (hc:=yc) (h:= ?_);unfold Du;refine zb_ ?_;change AWP _ _ _ (st0 21 _);refine sS trivial ?_
 repeat' (first|(refine rg_ ?_;intro K hK)|(refine hq_ ?_;clear hK K)|refine ca_ ?_ ?_|(refine cg_ ?_;first|refine cT_ hin ?_|refine cT_ hcy ?_|refine cT_ hf ?_)|refine sz_ trivial ?_|refine nv ?_|(refine c2_ ?_ ?_<;>(intro hb hb';try(exfalso;omega)))|exact bq_|fail)
 exact aU ⟨⟨0,_,rfl,rfl,by simp[aS,bM]⟩,⟨_,rfl,by simp[aS,bM]⟩⟩
theorem wG{l:List GPart}{z:Int}(h:inB z 0 ((l.length:Int) - 1)=true):∃k:Nat,z=(k:Int)∧k<l.length:=by
 unfold inB at h;simp only[Bool.and_eq_true,decide_eq_true_eq]at h;exact⟨z.toNat,by omega,by omega⟩
theorem QO{l:List GPart}{z:Int}(h:inB z 0 ((l.length:Int) - 1)=false):decide (z<0)=true∨(decide (z<0)=false∧decide (z≥(l.length:Int))=true):=by
 unfold inB at h;simp only[Bool.and_eq_false_iff,decide_eq_false_iff_not]at h;by_cases hz:z<0
 ·exact c_ (decide_eq_true hz)
 ·exact b_ ⟨decide_eq_false hz,decide_eq_true (by omega)⟩
theorem yw(l:List GPart){k:Nat}(h:k<l.length)(hi:inB (k:Int) 0 ((l.length:Int) - 1)=true):
 ((l[k].kind==1)=true∧pV l k=(yK,true))∨((l[k].kind==1)=false∧oO l (k:Int)=true∧pV l k=(rM 2,true))∨
 ((l[k].kind==1)=false∧oO l (k:Int)=false∧(l[k].kind==4)=true∧pV l k=(rM 8,true))∨((l[k].kind==1)=false∧oO l (k:Int)=false∧(l[k].kind==4)=false∧(l[k].kind==3)=true∧pV l k=(l[k].value,true))∨
 ((l[k].kind==1)=false∧oO l (k:Int)=false∧(l[k].kind==4)=false∧(l[k].kind==3)=false∧onC l (k:Int)=true∧pV l k=(rM 3,true))∨
 ((l[k].kind==1)=false∧oO l (k:Int)=false∧(l[k].kind==4)=false∧(l[k].kind==3)=false∧onC l (k:Int)=false∧pV l k=(yK,false)):=by
 have hf:pV l k=(if l[k].kind==1 then(yK,true)else if oO l (k:Int)then(rM 2,true)else if l[k].kind==4 then(rM 8,true)else if l[k].kind==3 then(l[k].value,true)else if onC l (k:Int)then(rM 3,true)else(yK,false)):=by
  unfold pV;rw[if_pos hi];simp only[Int.toNat_natCast,List.getElem?_eq_getElem h]
 rw[hf];cases h1:(l[k].kind==1)with
 |true=>exact c_ ⟨rfl,rfl⟩
 | false =>
   cases h2:oO l (k:Int)with
   |true=>exact b_ (c_ ⟨rfl,rfl,rfl⟩)
   | false=>
     cases h3:(l[k].kind==4)with
     |true=>exact b_ (b_ (c_ ⟨rfl,rfl,rfl,rfl⟩))
     | false=>
       cases h4:(l[k].kind==3)with
       |true=>exact b_ (b_ (b_ (c_ ⟨rfl,rfl,rfl,rfl,rfl⟩)))
       | false=>
         cases h5:onC l (k:Int)with
         |true=>exact b_ (b_ (b_ (b_ (c_ ⟨rfl,rfl,rfl,rfl,rfl,rfl⟩))))
         |false=>exact b_ (b_ (b_ (b_ (b_ ⟨rfl,rfl,rfl,rfl,rfl,rfl⟩))))
theorem Fa{l:List GPart}{z:Int}(hi:inB z 0 ((l.length:Int) - 1)=false):pV l z=(yK,false):=by
 unfold pV;rw[hi];rfl
theorem xB(l:List GPart)(z:Int)(fp:List Nat)(u:Value)(w:World)(hS:Sl w (l.map GPart.toD) fp u)(hw:l.length+D.wts (l.map GPart.toD)≤1048576)(ht:nJ w:=by exact trivial):Calls Tryz.prog 19 #[u,.int .i64 z] w (vP (pV l z).1.toD (.bool (pV l z).2) w):=by
 have hr:Rds w [.sl (l.map GPart.toD),li z] [u,.int .i64 z]:=⟨ru hS,sH _,trivial⟩
 cases hi:inB z 0 ((l.length:Int) - 1)with
 | false=>
   rw[Fa hi];rcases QO hi with h|⟨h,h'⟩
   ·exact jf (JU l hw z h) hr ht
   ·exact jf (JV l hw z h h') hr ht
 | true=>
   obtain⟨k,rfl,h⟩:=wG hi;rcases yw l h hi with⟨h1,e⟩|⟨h1,h2,e⟩|⟨h1,h2,h3,e⟩|⟨h1,h2,h3,h4,e⟩|⟨h1,h2,h3,h4,h5,e⟩|⟨h1,h2,h3,h4,h5,e⟩
   ·rw[e];exact jf (GI l hw h h1) hr ht
   ·rw[e];exact jf (JW l hw h h1 h2) hr ht
   ·rw[e];exact jf (JY l hw h h1 h2 h3) hr ht
   ·rw[e];show Calls _ _ _ _ (vP (l[k].value).toD _ _);rw[GVal.aj];exact V3 (JQ l hw h h1 h2 h3 h4) rfl (by simp[lcK]) (by simp[lcK,fA]) hr ht
   ·rw[e];exact jf (JX l hw h h1 h2 h3 h4 h5) hr ht
   ·rw[e];exact jf (JR l hw h h1 h2 h3 h4 h5) hr ht
theorem GK(l:List GPart)(z:Int)(fp:List Nat)(u:Value)(w:World)(hS:Sl w (l.map GPart.toD) fp u)(hw:l.length+D.wts (l.map GPart.toD)≤1048576)(ht:nJ w:=by exact trivial):Calls Tryz.prog 18 #[u,.int .i64 z] w (Bd (pV l z).1.toD (.bool (pV l z).2) w):=by
 have hr:Rds w [.sl (l.map GPart.toD),li z] [u,.int .i64 z]:=⟨ru hS,sH _,trivial⟩
 cases hi:inB z 0 ((l.length:Int) - 1)with
 | false=>
   rw[Fa hi];exact(jf (WR l hw z hi) hr ht).mono fun _ _=>rE
 | true=>
   obtain⟨k,rfl,h⟩:=wG hi;rcases yw l h hi with⟨h1,e⟩|⟨h1,h2,e⟩|⟨h1,h2,h3,e⟩|⟨h1,h2,h3,h4,e⟩|⟨h1,h2,h3,h4,h5,e⟩|⟨h1,h2,h3,h4,h5,e⟩
   ·rw[e];exact(jf (vG l hw k hi _ _ _ (GH l hw h h1)) hr ht).mono fun _ _=>rE
   ·rw[e];exact(jf (vG l hw k hi _ _ _ (JL l hw h h1 h2)) hr ht).mono fun _ _=>rE
   ·rw[e];exact(jf (vG l hw k hi _ _ _ (JO l hw h h1 h2 h3)) hr ht).mono fun _ _=>rE
   ·rw[e];exact ZV (WQ l hw k hi _ _ (JJ l hw h h1 h2 h3 h4)) hr ht
   ·rw[e];exact(jf (vG l hw k hi _ _ _ (JM l hw h h1 h2 h3 h4 h5)) hr ht).mono fun _ _=>rE
   ·rw[e];exact(jf (vG l hw k hi _ _ _ (JK l hw h h1 h2 h3 h4 h5)) hr ht).mono fun _ _=>rE
theorem oW(a b:Int):(GVal.mk a b 0 ⟨#[]⟩ [] [] []).toD.acnt≤14680080:=by
 refine I8 _ ?_;have:=GVal.iW (GVal.mk a b 0 ⟨#[]⟩ [] [] []);simp[GVal.text,GVal.list,GVal.cols,GVal.rows,D.wts,show(⟨#[]⟩:ByteArray).size=0 from rfl]at this;omega
theorem TM(l:List GPart)(z:Int)(hw:l.length+D.wts (l.map GPart.toD)≤1048576):(pV l z).1.toD.acnt≤14680080:=by
 cases hi:inB z 0 ((l.length:Int) - 1)with
 |false=>rw[Fa hi];exact oW 0 0
 | true=>
   obtain⟨k,rfl,h⟩:=wG hi;rcases yw l h hi with⟨h1,e⟩|⟨h1,h2,e⟩|⟨h1,h2,h3,e⟩|⟨h1,h2,h3,h4,e⟩|⟨h1,h2,h3,h4,h5,e⟩|⟨h1,h2,h3,h4,h5,e⟩
   ·rw[e];exact oW 0 0
   ·rw[e];exact oW 6 2
   ·rw[e];exact oW 6 8
   ·rw[e];exact I8 _ (Eb hw h)
   ·rw[e];exact oW 6 3
   ·rw[e];exact oW 0 0
end Go.Proofs.YtagaefgglphkgaaGreat
