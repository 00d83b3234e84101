/-
  Texts joined: Scp ScpM.
-/
import Derived.Test.YtagaefgglphkgaaGreatJM
import Derived.Test.YtagaefgglphkgaaGreatJK
import Derived.Test.YtagaefgglphkgaaGreatJG
set_option maxHeartbeats 8000000
set_option linter.unusedSimpArgs false
set_option linter.unusedVariables false
namespace Go.Proofs.YtagaefgglphkgaaGreat
open Go.RowKit
section
open List renaming length_take→a_,length_map→b_,length_cons→c_,take_append_getElem→d_,mem_map→e_,length_append→f_,take_length→g_,length_nil→h_
attribute [local irreducible] sw sd sn
def bdF(x:GBind):D:=x.toD.ff
theorem Po(x:GBind):bdF x= .agg [.leaf (.string x.name),.leaf (.int .i64 x.value.kind),.leaf (.int .i64 x.value.n),.leaf (.int .i64 x.value.step),.leaf (.string x.value.text),.sl (x.value.list.map GVal.toD),.sl (x.value.cols.map ls),.sl (x.value.rows.map GRow.toD)]:=by
 unfold bdF D.ff;rw[GBind.aA]
theorem Ku(l:List GBind):El 8 (l.map bdF):=fun d hd=>by
 obtain⟨x,_,rfl⟩:=e_.1 hd;rw[Po];exact⟨by simp[D.one,D.ones,Value.oneCell'],by simp[D.sz,D.szs]⟩
noncomputable def gY(l:List GPart)(vs:List GVal)(ns:List ByteArray):List GBind:=ns.map fun s=>⟨s,lX l vs s⟩
theorem DY(l:List GPart)(vs:List GVal)(ns:List ByteArray){j:Nat}(h:j<ns.length):gY l vs (ns.take (j+1))=gY l vs (ns.take j)++ [⟨ns[j],lX l vs ns[j]⟩]:=by
 unfold gY;rw[kH ns h,List.map_append];rfl
theorem DJ(x:GPart)(hw:x.expr.toD.wt≤1048576):(bf x).length≤1048576:=Ac x hw
def qm :IC:=(zd_ [zz_ 6 (.mov (.k (.slice none 0 0)))] (.seq (zd_ [zw_ 10 2,zm_ 11 .lss 10 0,zw_ 12 11,zu_ 13 12 2,zu_ 14 12 0,zx_ 15 12 (.len false (.t 14)),zx_ 16 12 (.bin .geq (.t 13) (.t 15)),zg_ 17 12 true 16] (.cond (.t 17) (zd_ [zz_ 6 (.mov (.k (.slice none 0 0)))] .ret) .skip)) (zd_ [zz_ 18 (.brow true 67 8 0 false []),zw_ 7 18] (.seq (zd_ [zw_ 19 0,zw_ 20 2,ze_ 21 14 19 20,zr_ 22 14 21,zq_ 23 30 22,zf_ 24 false 23,zk_ 25 0] (.block 0 (.loop (zd_ [zl_ 26 .lss 25 24] (.seq (.cond (.t 26) .skip (.exit 0)) (.seq (.block 1 (zd_ [ze_ 27 1 23 25,zs_ 28 1 27,zw_ 9 28] (.reg false [zw_ 29 7,zw_ 30 9,zw_ 31 0,zw_ 32 1,zw_ 33 9,zo_ 34 31 31 32 33,zz_ 35 (.bld [(.string ⟨#[]⟩),(.int .i64 0),(.int .i64 0),(.int .i64 0),(.string ⟨#[]⟩),(.slice none 0 0),(.slice none 0 0),(.slice none 0 0)] [(0,1,(.t 30)),(1,7,(.t 34))]),zz_ 36 (.brow false 67 8 1 false [(.t 35)]),zz_ 37 (.app 67 8 (.t 29) (.t 36)),zw_ 7 37]))) (.reg false [zm_ 38 .add 25 1,zw_ 25 38]))))))) (zd_ [zw_ 39 7,zw_ 6 39] .ret)))))
theorem pz :ak Tryz.prog (Tryz.f10.body.getD .skip)=some qm:=by kernel_rfl
theorem Oy(l:List GPart)(vs:List GVal)(hw:l.length+D.wts (l.map GPart.toD)≤1048576)(hnv:vs.length≤1048576)(hv:D.wts (vs.map GVal.toD)≤1048576){k:Nat}(h:k<l.length):dX Tryz.prog 10 [.sl (l.map GPart.toD),.sl (vs.map GVal.toD),li (k:Int)] (.c false [.own 0 0]) [⟨(gY l vs (bf l[k])).map GBind.toD,67,8,0,⟨true,true⟩⟩]:=by
 refine dX.Zi (GBind.el _) (show dX _ _ _ _ [⟨(gY l vs (bf l[k])).map bdF,_,_,_,_⟩] from ?_);have hg:=dh GPart.toD l h;have hz0:decide ((k:Int)<0)=false:=by simp
 have hz5:decide ((k:Int)≥(l.length:Int))=false:=by simp only[decide_eq_false_iff_not];omega
 have hpw:=sJ hw h;have hul:=DJ l[k] hpw;have hus:=uH l[k] hpw;refine qE (fn:=Tryz.f10) (r:= .tmp 6) (hc:=pz) (h:= ?_);unfold qm;refine zb_ ?_;change AWP _ _ _ (st0 40 _);refine sS trivial ?_;generalize hq:bf l[k]=ns at*
 repeat' (first|(refine rg_ ?_;intro K hK)|(refine hq_ ?_;clear hK K)|refine ca_ ?_ ?_|refine gq_ ?_|(refine c2_ ?_ ?_<;>(intro hb hb';try(exfalso;omega)))|(refine cg_ ?_;first|(refine bP hus (bC _) ?_ ?_))|refine sz_ (a3_ hg hz0 hz5) ?_|refine nv ?_|(exact GPart.el _)|exact bq_|fail)
 refine FH 0 (Wj rfl H8) rfl ?_;simp only[Td,List.getElem?_cons_zero,List.set_cons_zero];refine dZ (X:=Nat×Nat) (fun q=> [.k,.k,.d,.d,.d,.d,.d,.v (.c false [.own 0 q.2]),.d,.d,.d,.d,.d,.d,.d,.d,.d,.d,.d,.d,.d,.d,.d,.k,.k,.v (.c false [.raw (.int .i64 (q.1:Nat))])]) (fun q=> [⟨(gY l vs (ns.take q.1)).map bdF,67,8,q.2,⟨true,true⟩⟩,⟨ns.map ls,9,1,0,true⟩]) (fun q bs=> []) (fun q=>q.1≤ns.length) (fun q=>ns.length - q.1) (0,0) (Nat.zero_le _) ?_ ?_
 ·simp[bU,dW,bH,bK,AV.fits,AC.fits,FB,bQ,gY]
 rintro⟨j,v⟩ hj;have hj':j≤ns.length:=hj;clear hj;simp only[FB,bQ];by_cases hlj:j<ns.length
 ·have hc:=Jz l vs ns[j] (by omega) hnv hv;have hgs:=dh ls ns hlj;have hs:=DY l vs ns hlj;have hsl:(gY l vs (ns.take j)).length≤1048576:=by unfold gY;rw[b_,a_];omega
  repeat' (first|(refine rg_ ?_;intro K hK)|(refine hq_ ?_;clear hK K)|refine ca_ ?_ ?_|refine gq_ ?_|(refine c2_ ?_ ?_<;>(intro hb hb';try(exfalso;omega)))|(refine cg_ ?_;first|(refine rQ hc rfl (by simp) ?_ ?_))|refine sz_ (aaA hgs @fA.eq_1) ?_|refine nv ?_|(exact bC _)|exact bq_|fail)
  all_goals first
   |exact Ku _
   |exact Ku [⟨ns[j],lX l vs ns[j]⟩]
   |(simp only[b_,f_,c_,h_,a_];omega)
   | (refine dB (j+1,v+1) ?_ (show j+1≤ns.length by omega) (show ns.length - (j+1)<ns.length - j by omega)
      simp[bU,dW,bH,bK,AV.fits,AC.fits,FB,bQ,hs,Po, -d_])
 ·obtain rfl:j=ns.length:=by omega
  rw[g_]
  repeat' (first|(refine rg_ ?_;intro K hK)|(refine hq_ ?_;clear hK K)|refine ca_ ?_ ?_|refine gq_ ?_|(refine c2_ ?_ ?_<;>(intro hb hb';try(exfalso;omega)))|(refine cg_ ?_;first|(refine bP hus (bC _) ?_ ?_))|refine sz_ (a3_ hg hz0 hz5) ?_|refine nv ?_|(exact GPart.el _)|exact bq_|fail)
  exact aU ⟨[0],by simp,⟨⟨_,rfl,rfl,Or.inl ⟨rfl,rfl⟩⟩,trivial⟩,⟨_,rfl,by simp[kE,qJ]⟩⟩
theorem Jm(l:List GPart)(vs:List GVal)(hw:l.length+D.wts (l.map GPart.toD)≤1048576)(hnv:vs.length≤1048576)(hv:D.wts (vs.map GVal.toD)≤1048576)(z:Int)(h0:decide (z<0)=true):aB Tryz.prog 10 [.sl (l.map GPart.toD),.sl (vs.map GVal.toD),li z] (.c false [.raw (.slice none 0 0)]):=by
 refine kQ (fn:=Tryz.f10) (t:=6) (hc:=pz) (h:= ?_);unfold qm;refine zb_ ?_;change AWP _ _ _ (st0 40 _);refine sS trivial ?_
 repeat' (first|(refine rg_ ?_;intro K hK)|(refine hq_ ?_;clear hK K)|refine ca_ ?_ ?_|refine gq_ ?_|(refine c2_ ?_ ?_<;>(intro hb hb';try(exfalso;omega)))|refine sz_ h0 ?_|refine nv ?_|exact bq_|fail)
 exact aU ⟨_,rfl,rfl,trivial⟩
theorem Jo(l:List GPart)(vs:List GVal)(hw:l.length+D.wts (l.map GPart.toD)≤1048576)(hnv:vs.length≤1048576)(hv:D.wts (vs.map GVal.toD)≤1048576)(z:Int)(h0:decide (z<0)=false)(h5:decide (z≥(l.length:Int))=true):aB Tryz.prog 10 [.sl (l.map GPart.toD),.sl (vs.map GVal.toD),li z] (.c false [.raw (.slice none 0 0)]):=by
 refine kQ (fn:=Tryz.f10) (t:=6) (hc:=pz) (h:= ?_);unfold qm;refine zb_ ?_;change AWP _ _ _ (st0 40 _);refine sS trivial ?_
 repeat' (first|(refine rg_ ?_;intro K hK)|(refine hq_ ?_;clear hK K)|refine ca_ ?_ ?_|refine gq_ ?_|(refine c2_ ?_ ?_<;>(intro hb hb';try(exfalso;omega)))|refine sz_ (aaA h0 h5) ?_|refine nv ?_|exact bq_|fail)
 exact aU ⟨_,rfl,rfl,trivial⟩
def vk :IC:=(zd_ [zz_ 6 (.mov (.k (.slice none 0 0)))] (zd_ [zz_ 10 (.brow true 67 8 0 false []),zw_ 7 10] (.seq (zd_ [zw_ 11 2,zw_ 12 0,zf_ 13 false 12,zm_ 14 .sub 13 1,zz_ 15 (.call 25 [(.t 11),(.k (.int .i64 0)),(.t 14)]),zz_ 16 (.not (.t 15))] (.cond (.t 16) (zd_ [zw_ 17 7,zw_ 6 17] .ret) .skip)) (zd_ [zw_ 18 0,zw_ 19 2,ze_ 20 14 18 19,zr_ 21 14 20,zq_ 22 26 21,zw_ 8 22] (.seq (zd_ [zk_ 9 0] (.block 0 (.loop (.seq (zd_ [zw_ 23 9,zw_ 24 8,zf_ 25 false 24,zl_ 26 .lss 23 25] (.cond (.t 26) .skip (.exit 0))) (.seq (.block 1 (.regN true true [] [zw_ 29 7,zw_ 30 8,zw_ 31 9,ze_ 32 1 30 31,zs_ 33 1 32,zw_ 34 0,zw_ 35 1,zw_ 36 8,zw_ 37 9,ze_ 38 1 36 37,zs_ 39 1 38,zo_ 40 27 34 35 39,zz_ 41 (.bld [(.string ⟨#[]⟩),(.int .i64 0),(.int .i64 0),(.int .i64 0),(.string ⟨#[]⟩),(.slice none 0 0),(.slice none 0 0),(.slice none 0 0)] [(0,1,(.t 33)),(1,7,(.t 40))]),zz_ 42 (.brow false 67 8 1 false [(.t 41)]),zz_ 43 (.app 67 8 (.t 29) (.t 42)),zw_ 7 43])) (.reg false [zw_ 27 9,zm_ 28 .add 27 1,zw_ 9 28])))))) (zd_ [zw_ 44 7,zw_ 6 44] .ret))))))
theorem vg :ak Tryz.prog (Tryz.f7.body.getD .skip)=some vk:=by kernel_rfl
theorem Lc(l:List GPart)(vs:List GVal)(hw:l.length+D.wts (l.map GPart.toD)≤1048576)(hnv:vs.length≤1048576)(hv:D.wts (vs.map GVal.toD)≤1048576){k:Nat}(h:k<l.length)(hi:inB (k:Int) 0 ((l.length:Int) - 1)=true):aB Tryz.prog 7 [.sl (l.map GPart.toD),.sl (vs.map GVal.toD),li (k:Int)] (.c false [.sl true ((gY l vs (bf l[k])).map GBind.toD)]):=by
 refine aB.Zi (g:=GBind.toD) (show aB _ _ _ (.c false [.sl true ((gY l vs (bf l[k])).map bdF)]) from ?_);have hg:=dh GPart.toD l h;have hpw:=sJ hw h;have hul:=DJ l[k] hpw;have hus:=uG l[k] hpw;have hin:=sW (k:Int) 0 ((l.length:Int) - 1);rw[hi]at hin;refine kQ (fn:=Tryz.f7) (t:=6) (hc:=vg) (h:= ?_);unfold vk;refine zb_ ?_;change AWP _ _ _ (st0 45 _);refine sS trivial ?_;generalize hq:bf l[k]=ns at*
 repeat' (first|(refine hq_ ?_;clear hK K)|refine ca_ ?_ ?_|(refine cg_ ?_;first|refine cT_ hin ?_|(refine bP hus (bC _) ?_ ?_))|refine sz_ hg ?_|refine nv ?_|(refine rD ?_;intro K hK)|(refine c2_ ?_ ?_<;>(intro hb hb';try(exfalso;omega)))|(exact GPart.el _)|exact bq_|fail)
 refine dZ (X:=Nat×Nat) (fun q=> [.k,.k,.d,.d,.d,.d,.d,.v (.c false [.own 0 q.2]),.k,.v (.c false [.raw (.int .i64 (q.1:Nat))])]) (fun q=> [⟨(gY l vs (ns.take q.1)).map bdF,67,8,q.2,true⟩,⟨ns.map ls,9,1,0,true⟩]) (fun q bs=> []) (fun q=>q.1≤ns.length) (fun q=>ns.length - q.1) (0,0) (Nat.zero_le _) ?_ ?_
 ·simp[bU,dW,bH,bK,AV.fits,AC.fits,FB,bQ,gY]
 rintro⟨j,v⟩ hj;have hj':j≤ns.length:=hj;clear hj;simp only[FB,bQ];by_cases hlj:j<ns.length
 ·have hc:=Gu l vs ns[j] (by omega) hnv hv;rw[GVal.aF]at hc;have hgs:=dh ls ns hlj;have hs:=DY l vs ns hlj;have hsl:(gY l vs (ns.take j)).length≤1048576:=by unfold gY;rw[b_,a_];omega
  repeat' (first|(refine rg_ ?_;intro K hK)|((first|(with_reducible refine zy 100 false NH ?_)|(refine zy 100 false (by simp[zT,St.ev]) ?_));intro K hK)|refine nN ?_|(refine hq_ ?_;clear hK K)|refine ca_ ?_ ?_|(refine cg_ ?_;first|refine cT_ hc ?_)|((with_reducible refine UK ?_);first|refine aas (hc:=hc) (h:= ?_))|refine sz_ hgs ?_|refine nv ?_|(refine c2_ ?_ ?_<;>(intro hb hb';try(exfalso;omega)))|(exact bC _)|exact bq_|fail)
  all_goals first
   |exact Ku _
   |exact Ku [⟨ns[j],lX l vs ns[j]⟩]
   |(simp only[b_,f_,c_,h_,a_];omega)
   | (refine dB (j+1,v+1) ?_ (show j+1≤ns.length by omega) (show ns.length - (j+1)<ns.length - j by omega)
      simp[bU,dW,bH,bK,AV.fits,AC.fits,FB,bQ,hs,Po, -d_])
 ·obtain rfl:j=ns.length:=by omega
  rw[g_]
  repeat' (first|(refine hq_ ?_;clear hK K)|refine ca_ ?_ ?_|(refine cg_ ?_;first|refine cT_ hin ?_|(refine bP hus (bC _) ?_ ?_))|refine sz_ hg ?_|refine nv ?_|(refine rD ?_;intro K hK)|(refine c2_ ?_ ?_<;>(intro hb hb';try(exfalso;omega)))|(exact GPart.el _)|exact bq_|fail)
  exact aU ⟨_,rfl,⟨_,rfl,rfl,rfl,Or.inl rfl⟩,trivial⟩
theorem Jl(l:List GPart)(vs:List GVal)(hw:l.length+D.wts (l.map GPart.toD)≤1048576)(hnv:vs.length≤1048576)(hv:D.wts (vs.map GVal.toD)≤1048576)(z:Int)(hi:inB z 0 ((l.length:Int) - 1)=false):aB Tryz.prog 7 [.sl (l.map GPart.toD),.sl (vs.map GVal.toD),li z] (.c false [.sl true []]):=by
 have hin:=sW z 0 ((l.length:Int) - 1);rw[hi]at hin;refine kQ (fn:=Tryz.f7) (t:=6) (hc:=vg) (h:= ?_);unfold vk;refine zb_ ?_;change AWP _ _ _ (st0 45 _);refine sS trivial ?_
 repeat' (first|(refine hq_ ?_;clear hK K)|refine ca_ ?_ ?_|(refine cg_ ?_;first|refine cT_ hin ?_)|refine sz_ trivial ?_|refine nv ?_|(refine rD ?_;intro K hK)|(refine c2_ ?_ ?_<;>(intro hb hb';try(exfalso;omega)))|exact bq_|fail)
 exact aU ⟨_,rfl,⟨_,rfl,rfl,rfl,Or.inl rfl⟩,trivial⟩
noncomputable def mJ(l:List GPart)(vs:List GVal)(z:Int):List GBind:=if inB z 0 ((l.length:Int) - 1)then(match l[z.toNat]? with|some p=>gY l vs (bf p)|none=> [])else []
theorem xP{l:List GPart}{vs:List GVal}{z:Int}(hi:inB z 0 ((l.length:Int) - 1)=false):mJ l vs z= []:=by
 unfold mJ;rw[hi];rfl
theorem Ai{l:List GPart}{vs:List GVal}{k:Nat}(h:k<l.length)(hi:inB (k:Int) 0 ((l.length:Int) - 1)=true):mJ l vs k=gY l vs (bf l[k]):=by
 unfold mJ;rw[if_pos hi];simp only[Int.toNat_natCast,List.getElem?_eq_getElem h]
theorem ug(l:List GPart)(vs:List GVal)(z:Int)(fp gp:List Nat)(u v:Value)(w:World)(hS:Sl w (l.map GPart.toD) fp u)(hV:Sl w (vs.map GVal.toD) gp v)(hw:l.length+D.wts (l.map GPart.toD)≤1048576)(hnv:vs.length≤1048576)(hv:D.wts (vs.map GVal.toD)≤1048576)(ht:nJ w:=by exact trivial):Calls Tryz.prog 10 #[u,v,.int .i64 z] w (PG ((mJ l vs z).map GBind.toD) w):=by
 have hr:Rds w [.sl (l.map GPart.toD),.sl (vs.map GVal.toD),li z] [u,v,.int .i64 z]:=⟨ru hS,ru hV,sH _,trivial⟩
 cases hi:inB z 0 ((l.length:Int) - 1)with
 | false=>
   rw[xP hi];rcases QO hi with h|⟨h,h'⟩
   ·exact LK (Jm l vs hw hnv hv z h) hr ht
   ·exact LK (Jo l vs hw hnv hv z h h') hr ht
 | true=>
   obtain⟨k,rfl,h⟩:=wG hi;rw[Ai h hi];exact VZ (Oy l vs hw hnv hv h) hr ht
theorem Cm(l:List GPart)(vs:List GVal)(z:Int)(fp gp:List Nat)(u v:Value)(w:World)(hS:Sl w (l.map GPart.toD) fp u)(hV:Sl w (vs.map GVal.toD) gp v)(hw:l.length+D.wts (l.map GPart.toD)≤1048576)(hnv:vs.length≤1048576)(hv:D.wts (vs.map GVal.toD)≤1048576)(ht:nJ w:=by exact trivial):Calls Tryz.prog 7 #[u,v,.int .i64 z] w (RJ ((mJ l vs z).map GBind.toD) w):=by
 have hr:Rds w [.sl (l.map GPart.toD),.sl (vs.map GVal.toD),li z] [u,v,.int .i64 z]:=⟨ru hS,ru hV,sH _,trivial⟩
 cases hi:inB z 0 ((l.length:Int) - 1)with
 | false=>
   rw[xP hi];exact VY (l:= []) (Jl l vs hw hnv hv z hi) hr ht
 | true=>
   obtain⟨k,rfl,h⟩:=wG hi;rw[Ai h hi];exact VY (Lc l vs hw hnv hv h hi) hr ht
end
section
open List renaming length_take→a_,length_map→b_,length_cons→c_,take_append_getElem→d_,mem_map→e_,length_append→f_,take_length→g_,length_nil→h_
theorem Xu{l:List D}{m:Nat}(h:∀d∈l,d.cnt≤m):D.cnts l≤l.length*m:=by
 induction l with
 |nil=>simp[D.cnts]
 | cons d l ih=>
   have h1:=h d (by simp);have h2:=ih fun x hx=>h x (by simp[hx])
   rw[D.cnts,c_,Nat.add_mul];omega
theorem Oz(l:List GPart)(vs:List GVal)(z:Int)(hw:l.length+D.wts (l.map GPart.toD)≤1048576)(hv:D.wts (vs.map GVal.toD)≤1048576):D.cnts ((mJ l vs z).map GBind.toD)≤17592186044416:=by
 have hall:∀ns:List ByteArray,ns.length≤1048576→D.cnts ((gY l vs ns).map GBind.toD)≤17592186044416:=fun ns hn=>by
  have h:=Xu (l:=(gY l vs ns).map GBind.toD) (m:=16777216) fun d hd=>by
   obtain⟨x,hx,rfl⟩:=e_.1 hd;unfold gY at hx;obtain⟨s,_,rfl⟩:=e_.1 hx;have h1:=OJ l vs s hv;have h2:=GVal.oQ (lX l vs s);have h3:=GBind.kU ⟨s,lX l vs s⟩;dsimp only at h3;omega
  have h4:((gY l vs ns).map GBind.toD).length=ns.length:=by unfold gY;simp
  rw[h4]at h;have:=Nat.mul_le_mul_right 16777216 hn;omega
 cases hi:inB z 0 ((l.length:Int) - 1)with
 |false=>rw[xP hi];exact hall [] (by simp)
 | true=>
   obtain⟨k,rfl,h⟩:=wG hi;rw[Ai h hi];exact hall _ (DJ l[k] (sJ hw h))
end
end Go.Proofs.YtagaefgglphkgaaGreat
