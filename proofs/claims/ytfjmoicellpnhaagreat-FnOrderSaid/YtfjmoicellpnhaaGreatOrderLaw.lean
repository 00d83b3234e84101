/-
  Every part is evaluated after everything it uses, and the rank of a part is greater than those of the parts it uses.
-/
import Derived.Test.YtfjmoicellpnhaaGreatKE
set_option maxHeartbeats 32000000
set_option maxRecDepth 100000
set_option linter.unusedSimpArgs false
set_option linter.unusedVariables false
namespace Go.Proofs.YtfjmoicellpnhaaGreat
open Go.RowKit
attribute [local irreducible] sw sd sn
def VJ :IC:=(zd_ [zj_ 2 false] (.seq (zd_ [zw_ 8 0,zq_ 9 10 8] (.cond (.t 9) (zd_ [zj_ 2 true] .ret) .skip)) (zd_ [zw_ 10 0,zq_ 11 47 10,zw_ 3 11] (zd_ [zw_ 12 3,zq_ 13 48 12,zw_ 4 13] (.seq (zd_ [zw_ 14 4,zw_ 15 3,zq_ 16 49 15,zp_ 17 13 14 16,zz_ 18 (.not (.t 17)),zw_ 19 18,zu_ 20 19 3,zu_ 21 19 4,zx_ 22 19 (.call 50 [(.t 20),(.t 21)]),zx_ 23 19 (.not (.t 22)),zg_ 24 19 true 23] (.cond (.t 24) (zd_ [zj_ 2 false] .ret) .skip)) (.seq (zd_ [zk_ 5 0] (.block 0 (.loop (.seq (zd_ [zw_ 25 5,zw_ 26 4,zf_ 27 false 26,zl_ 28 .lss 25 27] (.cond (.t 28) .skip (.exit 0))) (.seq (.block 1 (.seq (zd_ [zw_ 31 3,zw_ 32 4,zw_ 33 5,ze_ 34 1 32 33,zs_ 35 1 34,zp_ 36 51 31 35,zz_ 37 (.not (.t 36))] (.cond (.t 37) (zd_ [zj_ 2 false] .ret) .skip)) (zd_ [zw_ 38 3,zw_ 39 4,zw_ 40 5,ze_ 41 1 39 40,zs_ 42 1 41,zp_ 43 19 38 42,zw_ 6 43] (zd_ [zk_ 7 0] (.block 2 (.loop (.seq (zd_ [zw_ 44 7,zw_ 45 6,zf_ 46 false 45,zl_ 47 .lss 44 46] (.cond (.t 47) .skip (.exit 2))) (.seq (.block 3 (.seq (.regN true [] [zw_ 50 3,zw_ 51 6,zw_ 52 7,ze_ 53 1 51 52,zs_ 54 1 53,zp_ 55 51 50 54,zw_ 56 55,zv_ 57 56 3,zv_ 58 56 6,zv_ 59 56 7,zy_ 60 56 (.iad 1 (.t 58) (.t 59)),zy_ 61 56 (.load 1 false (.t 60)),zy_ 62 56 (.call 52 [(.t 57),(.t 61)]),zv_ 63 56 3,zv_ 64 56 4,zv_ 65 56 5,zy_ 66 56 (.iad 1 (.t 64) (.t 65)),zy_ 67 56 (.load 1 false (.t 66)),zy_ 68 56 (.call 52 [(.t 63),(.t 67)]),zy_ 69 56 (.bin .geq (.t 62) (.t 68)),zh_ 70 56 69 false]) (.cond (.t 70) (zd_ [zj_ 2 false] .ret) .skip))) (.reg false [zw_ 48 7,zm_ 49 .add 48 1,zw_ 7 49]))))))))) (.reg false [zw_ 29 5,zm_ 30 .add 29 1,zw_ 5 30])))))) (zd_ [zj_ 2 true] .ret)))))))
theorem L9 :ak Tryz.prog (Tryz.f8.body.getD .skip)=some VJ:=by kernel_rfl
theorem Z7(l:List UInt8)(hl:l.length≤1048576):aI Tryz.prog 8 [.sl (l.map lu8)] (.c false [.raw (.bool (true))]):=by
 refine aY (fn:=Tryz.f8) (t:=2) (hc:=L9) (h:= ?_);unfold VJ;refine zb_ ?_;change AWP _ _ _ (st0 71 _);refine sS tdX ?_;have hB:=Pv l;rw[decide_eq_false (by omega:¬(l.length:Int) > 1048576)]at hB
 repeat' (first|(refine hq_ ?_;clear hK K)|refine ca_ ?_ ?_|refine gq_ ?_|(refine c2_ ?_ ?_<;>(intro hb hb';try(exfalso;omega)))|(refine cg_ ?_;first|refine cT_ hB ?_|((refine Dk (aef l _ hl) ?_);rintro _ _ _ ⟨ps,i,h,hp1,hp2,rfl,rfl,rfl⟩))|refine sz_ tdE ?_|refine nv ?_|(refine rD ?_;intro K hK)|exact bq_|fail)
 have hn:ps.length≤1048576:=by omega
 have hw:=H8 hp1 hp2;have a1:=Lp ps hw;have a2:=ZO ps hw;have ol:=Ib ps;have i1:=Iz ps (iK ps) hw (by omega);rw[BQ]at i1;have hr:∀k,(h:k<(iK ps).length)→bI ps (iK ps)[k]=true:=fun k h=>acP ps h
 generalize iK ps=o at a1 a2 i1 hr ol;have s1:=Ql o o (by omega) (by omega);simp only[decide_true]at s1
 repeat' (first|(refine hq_ ?_;clear hK K)|refine ca_ ?_ ?_|refine gq_ ?_|(refine c2_ ?_ ?_<;>(intro hb hb';try(exfalso;omega)))|(refine cg_ ?_;first|refine cT_ a1 ?_|refine cT_ a2 ?_|refine cT_ i1 ?_|refine cT_ s1 ?_)|refine sz_ tdE ?_|refine nv ?_|(refine rD ?_;intro K hK)|exact bq_|fail)
 refine aQ (X:=Nat) (fun y=> [.d,.d,.d,.k,.k,.v (.c false [.raw (.int .i64 ((y:Nat)))])]) (fun _=> []) (fun _ _=> [[.sl false (l.map lu8),.raw (.int .i64 i),.raw (.int .i64 h)]]) (fun y=>y≤o.length) (fun y=>o.length - y) 0 (Nat.zero_le _) ?_ ?_
 ·simp[aG,aU,aC,aF,AV.fits,AC.fits,FB,aB]
 rintro y hy;simp only[FB,aB];by_cases hlt:y<o.length
 ·have hT:decide ((y:Int)<(o.length:Int))=true:=decide_eq_true (by omega);have hw1:(y:Int)+1=((y+1:Nat):Int):=by omega
  have gy:idx (o.map li) (some (y:Int))=some (li o[y]):=bU li o hlt;have hry:=hr y hlt;have r1:=Ht ps o[y] hw;rw[hry]at r1;have d1:=aaN ps o[y] hw;have l1:=Df ps o[y];have k0:=EM ps o[y] (abb hn hry) hw;have up:∀j∈lnz (duI ps o[y]),bI ps j=true→decide (((wR ps j:Nat):Int)≥((wR ps o[y]:Nat):Int))=false:=by
   intro j hj hjr;obtain⟨x,hx,rfl⟩:=afz.1 hj;have:=afh hry hx hjr;exact decide_eq_false (by omega)
  obtain⟨u,hu⟩:∃u,u=lnz (duI ps o[y]):=⟨_,rfl⟩
  have lu:u.length≤1048576:=by rw[hu,afC];omega
  rw[← hu]at d1 up;clear hu l1 hr hry
  repeat' (first|(refine hq_ ?_;clear hK K)|refine ca_ ?_ ?_|refine gq_ ?_|(refine c2_ ?_ ?_<;>(intro hb hb';try(exfalso;omega)))|(refine cg_ ?_;first|refine cT_ d1 ?_|refine cT_ r1 ?_)|refine sz_ (a4_ tdE hT hw1 gy) ?_|refine nv ?_|(refine rD ?_;intro K hK)|exact bq_|fail)
  refine aQ (X:=Nat) (fun x=> [.d,.d,.d,.k,.k,.k,.k,.v (.c false [.raw (.int .i64 ((x:Nat)))])]) (fun _=> []) (fun _ _=> [[.sl false (l.map lu8),.raw (.int .i64 i),.raw (.int .i64 h)]]) (fun x=>x≤u.length) (fun x=>u.length - x) 0 (Nat.zero_le _) ?_ ?_
  ·simp[aG,aU,aC,aF,AV.fits,AC.fits,FB,aB]
  rintro x hx;simp only[FB,aB];by_cases hlx:x<u.length
  ·have hTx:decide ((x:Int)<(u.length:Int))=true:=decide_eq_true (by omega);have hwx:(x:Int)+1=((x+1:Nat):Int):=by omega
   have gx:idx (u.map li) (some (x:Int))=some (li u[x]):=bU li u hlx;have r2:=Ht ps u[x] hw;have up2:=up u[x] (List.getElem_mem hlx);cases hb1:bI ps u[x]with
   | true=>
     rw[hb1]at r2;have k1:=EM ps u[x] (abb hn hb1) hw;have up3:=up2 hb1;clear up2 up
     repeat' (first|(refine hq_ ?_;clear hK K)|refine ca_ ?_ ?_|refine gq_ ?_|(refine c2_ ?_ ?_<;>(intro hb hb';try(exfalso;omega)))|(refine cg_ ?_;first|refine cT_ r2 ?_|refine cT_ k1 ?_|refine cT_ k0 ?_)|refine sz_ (a5_ tdE hTx hwx gx up3) ?_|refine nv ?_|(refine rD ?_;intro K hK)|exact bq_|fail)
     all_goals first
      |exact eP _
      | (refine aP (x+1) ?_ (show x+1≤u.length by omega) (show u.length - (x+1)<u.length - x by omega)
         simp[aG,aU,aC,aF,AV.fits,AC.fits,FB,aB]
         done)
   | false=>
     rw[hb1]at r2;clear up2 up
     repeat' (first|(refine hq_ ?_;clear hK K)|refine ca_ ?_ ?_|refine gq_ ?_|(refine c2_ ?_ ?_<;>(intro hb hb';try(exfalso;omega)))|(refine cg_ ?_;first|refine cT_ r2 ?_)|refine sz_ (a4_ tdE hTx hwx gx) ?_|refine nv ?_|(refine rD ?_;intro K hK)|exact bq_|fail)
     all_goals first
      |exact eP _
      | (refine aP (x+1) ?_ (show x+1≤u.length by omega) (show u.length - (x+1)<u.length - x by omega)
         simp[aG,aU,aC,aF,AV.fits,AC.fits,FB,aB]
         done)
  ·have hTx:decide ((x:Int)<(u.length:Int))=false:=decide_eq_false (by omega)
   repeat' (first|(refine hq_ ?_;clear hK K)|refine ca_ ?_ ?_|refine gq_ ?_|(refine c2_ ?_ ?_<;>(intro hb hb';try(exfalso;omega)))|refine sz_ (a3_ tdE hTx hw1) ?_|refine nv ?_|(refine rD ?_;intro K hK)|exact bq_|fail)
   all_goals first
    |exact eP _
    | (refine aP (y+1) ?_ (show y+1≤o.length by omega) (show o.length - (y+1)<o.length - y by omega)
       simp[aG,aU,aC,aF,AV.fits,AC.fits,FB,aB]
       done)
 ·have hT:decide ((y:Int)<(o.length:Int))=false:=decide_eq_false (by omega)
  repeat' (first|(refine hq_ ?_;clear hK K)|refine ca_ ?_ ?_|refine gq_ ?_|(refine c2_ ?_ ?_<;>(intro hb hb';try(exfalso;omega)))|refine sz_ (aiX tdE hT) ?_|refine nv ?_|(refine rD ?_;intro K hK)|exact bq_|fail)
  all_goals exact aS ⟨_,rfl,⟨rfl,trivial⟩⟩
theorem afr(l:List UInt8)(hl:¬l.length≤1048576):aI Tryz.prog 8 [.sl (l.map lu8)] (.c false [.raw (.bool (true))]):=by
 refine aY (fn:=Tryz.f8) (t:=2) (hc:=L9) (h:= ?_);unfold VJ;refine zb_ ?_;change AWP _ _ _ (st0 71 _);refine sS tdX ?_;have hB:=Pv l;rw[decide_eq_true (by omega:(l.length:Int) > 1048576)]at hB
 repeat' (first|(refine hq_ ?_;clear hK K)|refine ca_ ?_ ?_|refine gq_ ?_|(refine c2_ ?_ ?_<;>(intro hb hb';try(exfalso;omega)))|(refine cg_ ?_;first|refine cT_ hB ?_)|refine sz_ (aiX tdC @jV) ?_|refine nv ?_|(refine rD ?_;intro K hK)|(exact GCell.el _)|exact bq_|fail)
 exact aS ⟨_,rfl,⟨rfl,trivial⟩⟩
theorem QX(l:List UInt8)(fp:List Nat)(v:Value)(w:World)(h:Sl w (l.map lu8) fp v):Calls Tryz.prog 8 #[v] w (UC w):=by
 have hC:aI Tryz.prog 8 [.sl (l.map lu8)] (.c false [.raw (.bool (true))]):=by
  by_cases hl:l.length≤1048576
  ·exact Z7 l hl
  ·exact afr l hl
 refine(acW hC (vs:= [v]) ⟨BM h,trivial⟩).mono ?_;rintro e w' ⟨h1,h2⟩;exact⟨h1,h2⟩
open Go.ChangeShapes Go.WideShapes Go.ChangeAt
theorem Il(os:Os)(started:os.Started)(H:Type)(enc:TypeId×Value→H):
 ReturnsInHanded {} Tryz.checked os 8 .any (Rows.fnOrderSpec.pre6 enc Tryz.prog Tryz.f8 Rows.fnOrderRow.domain false) (Rows.fnOrderSpec.post enc Tryz.prog Tryz.f8 false true false false):=by
 refine returnsInHanded_of_change (C:=Tryz.checked) aij started (by kernel_rfl) Tryz.func8
  (ChangeSpec.witness6 (enc:=enc) (C:=Tryz.checked) false ⟨#[], #[.slice none 0 0],[]⟩ 8 (by kernel_rfl) (by kernel_rfl) (by kernel_rfl) (by kernel_rfl)) ?_
 intro W base args ds gs before hval0 hW hcnd _;have hval:∀(j:Nat) t v,Tryz.f8.params[j]? =some t→args[j]? =some v→Value.okWide Tryz.prog W .any base t v:=hval0;have hW':=hW;obtain⟨p,q,hA0,hV,rfl,hfz,hnd⟩:=hW;have hA:DataW.TrodAll enc Tryz.prog W 0 (fun _=>true) true Tryz.f8.params.toList args.toList ds p:=hA0;rw[Tryz.params8]at hA hval;obtain⟨v0,vs0,d0,ds0,p0,q0,ha0,rfl,rfl,h0,r0⟩:=trodAll_cons hA;obtain⟨rfl,rfl,rfl⟩:=trodAll_nil r0;obtain rfl:args= #[v0]:=by cases args;simp_all
 obtain⟨rfl,rfl⟩:=trodVars_none hV;obtain⟨l0,fx0,hx0,wx0⟩:=Nz Tryz.underlying22 (hval 0 22 v0 rfl rfl) (fun n=>abZ n) h0;clear hA0 hval0;have hlt:∀z∈p0++ [],z.block<W.heap.size:=fun z hz=>hW'.lt z (by simpa using hz)
 refine(QX l0 fx0 _ W hx0).mono fun e W' ⟨he,hb⟩=> ?_
 subst he;exact⟨_,rfl,zL (pa:=p0++ []) (pv:= []) hW' (fun _ _ _=>trodAll_mk1 (shut_bool Tryz.underlying4 _))
  (fun sp hsp=>⟨_,_,WideElems.Trod_stays QY (by kernel_rfl) (of_decide_eq_true (by kernel_rfl)) h0 (fun z hz=>hb.same (hlt z (List.mem_append_left _ hz))) (fun z hz=>hsp z (by simp[hz])),rfl,rfl⟩) (fun _ _=>rfl) (by simp) hb (ok_one (by kernel_rfl) rfl (okWide_bool_mk Tryz.underlying4 _))⟩
theorem proved_FnOrder :Rows.FnOrderSaid:=
 OpenClaim.holds_of_wide 8 Tryz.f8 rfl rfl rfl rfl rfl rfl rfl ⟨rfl,rfl,rfl,rfl,rfl⟩ rfl rfl rfl rfl rfl (by kernel_rfl) Tryz.func8 (by kernel_rfl)
  (of_decide_eq_true (by kernel_rfl)) (by unfold Func.isWrapper;first|(rw[if_pos (by decide+kernel)];kernel_rfl)|(rw[if_neg (by decide+kernel)];exact⟨rfl,rfl⟩))
  (fun os started H enc _=>Il os started H enc)
end Go.Proofs.YtfjmoicellpnhaaGreat
