import Derived.Test.YtfjmoicellpnhaaGreatKE
set_option maxHeartbeats 32000000
set_option maxRecDepth 100000
set_option linter.unusedSimpArgs false
set_option linter.unusedVariables false
namespace Go.Proofs.YtfjmoicellpnhaaGreat
open Go.RowKit
open Nat renaming zero_le→a_
open List renaming getElem?_eq_getElem→b_,eq_nil_of_length_eq_zero→c_,getElem?_map→e_,map_set→f_
open Int renaming toNat_natCast→d_
attribute [local irreducible] sw sd sn
def MI :IC:=(zd_ [zz_ 2 (.mov (.k (.slice none 0 0))),zz_ 3 (.mov (.k (.slice none 0 0)))] (zd_ [zw_ 9 0,zq_ 10 56 9,zw_ 4 10] (zd_ [zw_ 11 4,zq_ 12 65 11,zw_ 5 12] (zd_ [zw_ 13 5,zq_ 14 49 13,zw_ 6 14] (.seq (zd_ [zw_ 15 6,zf_ 16 false 15,zm_ 17 .gtr 16 1,zw_ 18 17,zv_ 19 18 4,zy_ 20 18 (.call 83 [(.t 19),(.k (.int .i64 2))]),zh_ 21 18 20 false] (.cond (.t 21) (zd_ [zw_ 22 4,zw_ 23 6,zf_ 24 false 23,zm_ 25 .sub 24 1,zp_ 26 76 22 25,zw_ 7 26] (zd_ [zw_ 27 6,zw_ 28 7,ze_ 29 1 27 28,zs_ 30 1 29,zw_ 8 30] (zd_ [zw_ 31 6,zw_ 32 7,zw_ 33 6,zw_ 34 7,zm_ 35 .add 34 1,ze_ 36 1 33 35,zs_ 37 1 36,ze_ 38 1 31 32,⟨none,none,.store 1 (.t 38) (.t 37)⟩] (.reg false [zw_ 39 6,zw_ 40 7,zm_ 41 .add 40 1,zw_ 42 8,ze_ 43 1 39 41,⟨none,none,.store 1 (.t 43) (.t 42)⟩])))) .skip)) (.seq (zd_ [zw_ 44 4,zn_ 45 83 44 6] (.cond (.t 45) (.reg false [zw_ 46 6,zw_ 47 4,zn_ 48 76 47 8,zz_ 49 (.brow false 3 1 1 false [(.t 48)]),zz_ 50 (.app 3 1 (.t 46) (.t 49)),zw_ 6 50]) .skip)) (zd_ [zw_ 51 5,zw_ 52 6,zw_ 2 51,zw_ 3 52] .ret)))))))
theorem OW :ak Tryz.prog (Tryz.f53.body.getD .skip)=some MI:=by kernel_rfl
theorem aeh(l:List UInt8)(n:Bool)(hl:l.length≤1048576):jv Tryz.prog 53 [.c false [.sl n (l.map lu8)]] [] [] (fun r os' bs'=>∃(ps:List GPart) (i h:Int),ps.length≤9∧(∀p∈ps,p.toD.wt≤60000)∧∃(zs:List Int) (v:Nat),zs.length≤20∧r= .tup [(false,[.sl false (ps.map pF)]),(false,[.own 0 v])]∧os'= [⟨(zs).map li,3,1,v,true⟩]∧bs'= [[.sl false (l.map lu8),.raw (.int .i64 i),.raw (.int .i64 h)]]):=by
 refine Uh (fn:=Tryz.f53) (t:=2) (u:=3) (hc:=OW) (h:= ?_);unfold MI;refine zb_ ?_;change dH _ _ _ _ (stS 53 _ _ _);refine sS tdX ?_
 repeat' (first|(refine rg_ ?_;intro K hK)|(refine hq_ ?_;clear hK K)|refine ca_ ?_ ?_|refine gq_ ?_|(refine c2_ ?_ ?_<;>(intro a b;try(exfalso;omega)))|(refine cg_ ?_;first|((refine Dk (ag0 l _ _ _ hl (by simp[AC.fits]) (by simp[AC.fits])) ?_);rintro _ _ _ ⟨rfl,rfl,h,rfl⟩)|(refine ay false (h:=(Lr l _ _ (by omega) (by omega) hl)) (hK:= ?_);rintro _ _ _ ⟨⟨ps,hp1,hp2,rfl⟩,rfl,i,h,hi0,hi1,rfl⟩))|refine sz_ tdE ?_|refine nv ?_|exact bq_|fail)
 have hw:=H8 hp1 hp2;have ro:=ZN ps hw;have ol:=Ib ps;obtain⟨o,ho⟩:∃o,o=iK ps:=⟨_,rfl⟩
 rw[← ho]at ro ol;clear ho;cases f1:decide ((o.length:Int) > 1)
 all_goals
  repeat' (first|(refine rg_ ?_;intro K hK)|(refine hq_ ?_;clear hK K)|refine ca_ ?_ ?_|refine gq_ ?_|(refine c2_ ?_ ?_<;>(intro a b;try(exfalso;omega)))|(refine cg_ ?_;first|(refine dA ro (eP _) ?_ ?_)|(refine ay false (h:=(lV l _ _ 2 (by omega) (by omega) hl (by decide))) (hK:= ?_);rintro _ _ _ ⟨⟨_|_,rfl⟩,rfl,i,h,hi0,hi1,rfl⟩)|(refine ay false (h:=(lV l _ _ 6 (by omega) (by omega) hl (by decide))) (hK:= ?_);rintro _ _ _ ⟨⟨_|_,rfl⟩,rfl,i,h,hi0,hi1,rfl⟩)|(refine ay false (h:=(oO l _ _ 8 (by omega) (by omega) hl (by decide) (by decide))) (hK:= ?_);rintro _ _ _ ⟨⟨m,hm,rfl⟩,rfl,i,h,hi0,hi1,rfl⟩))|refine sz_ (aiX tdE f1) ?_|refine nv ?_|exact bq_|fail)
  all_goals first
   |exact eP _
   |exact⟨_,_,rfl,rfl,a_ _,a_ _,ps,_,_,hp1,hp2,o,_,by omega,rfl,rfl,rfl⟩
   | (refine⟨_,_,rfl,rfl,a_ _,a_ _,ps,_,_,hp1,hp2,o++ [(m:Int)],_, ?_,rfl, ?_,rfl⟩
      ·simp;omega
      ·simp[li];done)
   |skip
  all_goals
   refine ay false (h:=(aX l _ _ ((o.length:Int) - 1) (by omega) (by omega) hl (by omega))) (hK:= ?_);rintro _ _ _ ⟨⟨x,hx0,hx1,hx2,rfl⟩,rfl,i,h,hi0,hi1,rfl⟩;obtain⟨k,rfl⟩:=Int.eq_ofNat_of_zero_le hx0;have hk:k+1<o.length:=by have:=of_decide_eq_true f1;have:=hx1 (by omega);omega
   have w1:(k:Int)+1=((k+1:Nat):Int):=by omega
   have t1:((k:Nat):Int).toNat=k:=d_ k;have t2:((k+1:Nat):Int).toNat=k+1:=d_ (k+1);have e1:(o.map li)[k]? =some (li o[k]):=by rw[e_,b_ (by omega)];rfl
   have e2:(o.map li)[k+1]? =some (li o[k+1]):=by rw[e_,b_ hk];rfl
   repeat' (first|(refine rg_ ?_;intro K hK)|(refine hq_ ?_;clear hK K)|refine ca_ ?_ ?_|refine gq_ ?_|(refine c2_ ?_ ?_<;>(intro a b;try(exfalso;omega)))|(refine cg_ ?_;first|(refine ay false (h:=(lV l _ _ 6 (by omega) (by omega) hl (by decide))) (hK:= ?_);rintro _ _ _ ⟨⟨_|_,rfl⟩,rfl,i,h,hi0,hi1,rfl⟩)|(refine ay false (h:=(oO l _ _ 8 (by omega) (by omega) hl (by decide) (by decide))) (hK:= ?_);rintro _ _ _ ⟨⟨m,hm,rfl⟩,rfl,i,h,hi0,hi1,rfl⟩))|refine sz_ (a7_ tdE w1 t1 t2 e1 e2 @List.length_set.{0}) ?_|refine nv ?_|exact bq_|fail)
   all_goals first
    | (refine⟨_,_,rfl,rfl,a_ _,a_ _,ps,_,_,hp1,hp2,(o.set k o[k+1]).set (k+1) o[k],_, ?_,rfl, ?_,rfl⟩
       ·simp;omega
       ·simp[f_,li];done)
    | (refine⟨_,_,rfl,rfl,a_ _,a_ _,ps,_,_,hp1,hp2,(o.set k o[k+1]).set (k+1) o[k]++ [(m:Int)],_, ?_,rfl, ?_,rfl⟩
       ·simp;omega
       ·simp[f_,li];done)
def VY :IC:=(zd_ [zj_ 2 false] (.seq (zd_ [zw_ 7 0,zq_ 8 10 7] (.cond (.t 8) (zd_ [zj_ 2 true] .ret) .skip)) (zd_ [zw_ 10 0,zq_ 11 53 10,zw_ 9 11,zz_ 12 (.ext 0 (.t 9)),zz_ 13 (.ext 1 (.t 9)),zw_ 3 12,zw_ 4 13] (zd_ [zw_ 14 3,zw_ 15 4,zp_ 16 50 14 15,zw_ 5 16] (.seq (zd_ [zw_ 17 5,zw_ 18 3,zw_ 19 4,zp_ 20 54 18 19,zz_ 21 (.beq true (.t 17) (.t 20))] (.cond (.t 21) (zd_ [zj_ 2 false] .ret) .skip)) (.seq (zd_ [zw_ 22 5,zz_ 23 (.not (.t 22))] (.cond (.t 23) (zd_ [zw_ 24 4,zf_ 25 false 24,zm_ 26 .gtr 25 0,zw_ 27 26,zu_ 28 27 3,zx_ 29 27 (.call 48 [(.t 28)]),zx_ 30 27 (.len false (.t 29)),zx_ 31 27 (.bin .gtr (.t 30) (.k (.int .i64 0))),zg_ 32 27 true 31,zw_ 2 32] .ret) .skip)) (.seq (zd_ [zk_ 6 0] (.block 0 (.loop (.seq (zd_ [zw_ 33 6,zw_ 34 4,zf_ 35 false 34,zl_ 36 .lss 33 35] (.cond (.t 36) .skip (.exit 0))) (.seq (.block 1 (zd_ [zw_ 39 4,zw_ 40 4,zw_ 41 6,ze_ 42 1 40 41,zs_ 43 1 42,zp_ 44 20 39 43,zm_ 45 .neq 44 1] (.cond (.t 45) (zd_ [zj_ 2 false] .ret) .skip))) (.reg false [zw_ 37 6,zm_ 38 .add 37 1,zw_ 6 38])))))) (zd_ [zw_ 46 4,zf_ 47 false 46,zw_ 48 3,zq_ 49 48 48,zf_ 50 false 49,zl_ 51 .eql 47 50,zw_ 2 51] .ret))))))))
theorem MC :ak Tryz.prog (Tryz.f9.body.getD .skip)=some VY:=by kernel_rfl
theorem aao(l:List UInt8)(hl:l.length≤1048576):aI Tryz.prog 9 [.sl (l.map lu8)] (.c false [.raw (.bool (true))]):=by
 refine aY (fn:=Tryz.f9) (t:=2) (hc:=MC) (h:= ?_);unfold VY;refine zb_ ?_;change AWP _ _ _ (st0 52 _);refine sS tdX ?_;have hB:=Pv l;rw[decide_eq_false (by omega:¬(l.length:Int) > 1048576)]at hB
 repeat' (first|(refine rg_ ?_;intro K hK)|(refine hq_ ?_;clear hK K)|refine ca_ ?_ ?_|refine gq_ ?_|(refine c2_ ?_ ?_<;>(intro a b;try(exfalso;omega)))|(refine cg_ ?_;first|refine cT_ hB ?_|((refine Dk (aeh l _ hl) ?_);rintro _ _ _ ⟨ps,i,h,hp1,hp2,zs,v,hz,rfl,rfl,rfl⟩))|refine sz_ tdE ?_|refine nv ?_|exact bq_|fail)
 have hn:ps.length≤1048576:=by omega
 have hw:=H8 hp1 hp2;have hv:zs.length≤1048576:=by omega
 have i1:=Iz ps zs hw hv;have i2:=Vo ps zs hw hv;have r1:=Lp ps hw;have ol:=Ib ps;cases hb:qL ps zs with
 | false=>
   rw[hb]at i1 i2;have bt:(false !=false)=false:=rfl;have hq:zs.length=0→0<(iK ps).length:=fun z=>by
    rcases Nat.eq_zero_or_pos (iK ps).length with h|h
    ·rw[c_ z]at hb;exact(Z9 hb (c_ h)).elim
    ·exact h
   generalize iK ps=o at r1 ol hq;cases f1:decide ((zs.length:Int) > 0)
   have f2:decide ((o.length:Int) > 0)=true:=decide_eq_true (by have:=of_decide_eq_false f1;omega)
   rotate_left;have f2:=bt
   all_goals
    repeat' (first|(refine rg_ ?_;intro K hK)|(refine hq_ ?_;clear hK K)|refine ca_ ?_ ?_|refine gq_ ?_|(refine c2_ ?_ ?_<;>(intro a b;try(exfalso;omega)))|(refine cg_ ?_;first|refine cT_ i1 ?_|refine cT_ i2 ?_|refine cT_ r1 ?_)|refine sz_ (a4_ tdE bt f1 f2) ?_|refine nv ?_|exact bq_|fail)
    exact aS ⟨_,rfl,⟨rfl,trivial⟩⟩
 | true =>
   rw[hb]at i1 i2;have bt:(true !=true)=false:=rfl;have hsm:=acN hb
   generalize iK ps=o at r1 ol hsm;have eql:((zs.length:Int)==(o.length:Int))=true:=by rw[hsm];simp
   repeat' (first|(refine rg_ ?_;intro K hK)|(refine hq_ ?_;clear hK K)|refine ca_ ?_ ?_|refine gq_ ?_|(refine c2_ ?_ ?_<;>(intro a b;try(exfalso;omega)))|(refine cg_ ?_;first|refine cT_ i1 ?_|refine cT_ i2 ?_)|refine sz_ (aiX tdE bt) ?_|refine nv ?_|exact bq_|fail)
   refine aQ (X:=Nat) (fun y=> [.d,.d,.d,.k,.k,.d,.v (.c false [.raw (.int .i64 ((y:Nat)))])]) (fun _=> [⟨zs.map li,3,1,v,true⟩]) (fun _ bs=>bs) (fun y=>y≤zs.length) (fun y=>zs.length - y) 0 (a_ _) ?_ ?_
   ·simp[aG,aU,aC,aF,AV.fits,AC.fits,FB,aB]
   rintro y hy;simp only[FB,aB];have w1:(y:Int)+1=((y+1:Nat):Int):=by omega
   have ty:((y:Nat):Int).toNat=y:=d_ y;have e8:((((1:Nat):Int)) !=1)=false:=rfl;cases hT:decide ((y:Int)<(zs.length:Int))
   have gy:=hT;have t1:=r1
   rotate_left
   have hlt:y<zs.length:=by have:=of_decide_eq_true hT;omega
   have gy:(zs.map li)[y]? =some (li zs[y]):=by rw[e_,b_ hlt];rfl
   have t1:=abo zs zs[y] hv;rw[aft hb hlt]at t1
   all_goals
    clear hsm
    repeat' (first|(refine rg_ ?_;intro K hK)|(refine hq_ ?_;clear hK K)|refine ca_ ?_ ?_|refine gq_ ?_|(refine c2_ ?_ ?_<;>(intro a b;try(exfalso;omega)))|(refine cg_ ?_;first|refine cT_ t1 ?_|refine cT_ r1 ?_)|refine sz_ (a7_ tdE hT w1 ty gy e8 eql) ?_|refine nv ?_|exact bq_|fail)
    all_goals first
     |exact eP _
     |exact aS ⟨_,rfl,⟨rfl,trivial⟩⟩
     | (refine aP (y+1) ?_ (show y+1≤zs.length by omega) (show zs.length - (y+1)<zs.length - y by omega)
        simp[aG,aU,aC,aF,AV.fits,AC.fits,FB,aB]
        done)
theorem afL(l:List UInt8)(hl:¬l.length≤1048576):aI Tryz.prog 9 [.sl (l.map lu8)] (.c false [.raw (.bool (true))]):=by
 refine aY (fn:=Tryz.f9) (t:=2) (hc:=MC) (h:= ?_);unfold VY;refine zb_ ?_;change AWP _ _ _ (st0 52 _);refine sS tdX ?_;have hB:=Pv l;rw[decide_eq_true (by omega:(l.length:Int) > 1048576)]at hB
 repeat' (first|(refine rg_ ?_;intro K hK)|(refine hq_ ?_;clear hK K)|refine ca_ ?_ ?_|refine gq_ ?_|(refine c2_ ?_ ?_<;>(intro a b;try(exfalso;omega)))|(refine cg_ ?_;first|refine cT_ hB ?_)|refine sz_ (aiX tdC @jV) ?_|refine nv ?_|(exact GCell.el _)|exact bq_|fail)
 exact aS ⟨_,rfl,⟨rfl,trivial⟩⟩
theorem KC(l:List UInt8)(fp:List Nat)(v:Value)(w:World)(h:Sl w (l.map lu8) fp v):Calls Tryz.prog 9 #[v] w (UC w):=by
 have hC:=if hl:l.length≤1048576 then aao l hl else afL l hl
 refine(acW hC (vs:= [v]) ⟨BM h,trivial⟩).mono ?_;rintro e w' ⟨h1,h2⟩;exact⟨h1,h2⟩
open Go.ChangeShapes Go.WideShapes Go.ChangeAt
theorem D7(os:Os)(started:os.Started)(H:Type)(enc:TypeId×Value→H):
 ReturnsInHanded {} Tryz.checked os 9 .any (Rows.fnIsOrderSpec.pre6 enc Tryz.prog Tryz.f9 Rows.fnIsOrderRow.domain false) (Rows.fnIsOrderSpec.post enc Tryz.prog Tryz.f9 false true false false):=by
 refine returnsInHanded_of_change (C:=Tryz.checked) aij started (by kernel_rfl) Tryz.func9
  (ChangeSpec.witness6 (enc:=enc) (C:=Tryz.checked) false ⟨#[], #[.slice none 0 0],[]⟩ 8 (by kernel_rfl) (by kernel_rfl) (by kernel_rfl) (by kernel_rfl)) ?_
 intro W base args ds gs before hval0 hW hcnd _;have hval:∀(j:Nat) t v,Tryz.f9.params[j]? =some t→args[j]? =some v→Value.okWide Tryz.prog W .any base t v:=hval0;have hW':=hW;obtain⟨p,q,hA0,hV,rfl,hfz,hnd⟩:=hW;have hA:DataW.TrodAll enc Tryz.prog W 0 (fun _=>true) true Tryz.f9.params.toList args.toList ds p:=hA0;rw[Tryz.params9]at hA hval;obtain⟨v0,vs0,d0,ds0,p0,q0,ha0,rfl,rfl,h0,r0⟩:=trodAll_cons hA;obtain⟨rfl,rfl,rfl⟩:=trodAll_nil r0;obtain rfl:args= #[v0]:=by cases args;simp_all
 obtain⟨rfl,rfl⟩:=trodVars_none hV;obtain⟨l0,fx0,hx0,wx0⟩:=Nz Tryz.underlying22 (hval 0 22 v0 rfl rfl) (fun n=>abZ n) h0;clear hA0 hval0;have hlt:∀z∈p0++ [],z.block<W.heap.size:=fun z hz=>hW'.lt z (by simpa using hz)
 refine(KC l0 fx0 _ W hx0).mono fun e W' ⟨he,hb⟩=> ?_
 subst he;exact⟨_,rfl,zL (pa:=p0++ []) (pv:= []) hW' (fun _ _ _=>trodAll_mk1 (shut_bool Tryz.underlying4 _))
  (fun sp hsp=>⟨_,_,WideElems.Trod_stays QY (by kernel_rfl) (of_decide_eq_true (by kernel_rfl)) h0 (fun z hz=>hb.same (hlt z (List.mem_append_left _ hz))) (fun z hz=>hsp z (by simp[hz])),rfl,rfl⟩) (fun _ _=>rfl) (by simp) hb (ok_one (by kernel_rfl) rfl (okWide_bool_mk Tryz.underlying4 _))⟩
theorem proved_FnIsOrder :Rows.FnIsOrderSaid:=
 OpenClaim.holds_of_wide 9 Tryz.f9 rfl rfl rfl rfl rfl rfl rfl ⟨rfl,rfl,rfl,rfl,rfl⟩ rfl rfl rfl rfl rfl (by kernel_rfl) Tryz.func9 (by kernel_rfl)
  (of_decide_eq_true (by kernel_rfl)) (by unfold Func.isWrapper;first|(rw[if_pos (by decide+kernel)];kernel_rfl)|(rw[if_neg (by decide+kernel)];exact⟨rfl,rfl⟩))
  (fun os started H enc _=>D7 os started H enc)
end Go.Proofs.YtfjmoicellpnhaaGreat
