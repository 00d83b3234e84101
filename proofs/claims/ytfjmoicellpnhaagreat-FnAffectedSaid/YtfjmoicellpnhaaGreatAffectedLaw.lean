/-
  Affected parts include the given ones and everything that uses them, and nothing else.
-/
import Derived.Test.YtfjmoicellpnhaaGreatJZ
import Derived.Test.YtfjmoicellpnhaaGreatKA
set_option maxHeartbeats 32000000
set_option maxRecDepth 100000
namespace Go.Proofs.YtfjmoicellpnhaaGreat
open Go.RowKit
attribute [local irreducible] sw sd sn
set_option linter.unusedSimpArgs false
set_option linter.unusedVariables false
theorem Ue{l:List Nat}(h:l.Pairwise (· < ·)):(lnz l).Pairwise (· < ·):=by
 unfold lnz
 rw[List.pairwise_map]
 exact h.imp fun h=>by simpa using h
def U7 :IC:=(zd_ [zj_ 2 false] (.seq (zd_ [zw_ 9 0,zq_ 10 10 9] (.cond (.t 10) (zd_ [zj_ 2 true] .ret) .skip)) (zd_ [zw_ 12 0,zq_ 13 43 12,zw_ 11 13,zz_ 14 (.ext 0 (.t 11)),zz_ 15 (.ext 1 (.t 11)),zw_ 3 14,zw_ 4 15] (zd_ [zw_ 16 3,zw_ 17 4,zp_ 18 44 16 17,zw_ 5 18] (.seq (zd_ [zw_ 19 5,zw_ 20 3,zw_ 21 4,zp_ 22 45 20 21,zp_ 23 13 19 22,zz_ 24 (.not (.t 23)),zw_ 25 24,zu_ 26 25 5,zx_ 27 25 (.call 46 [(.t 26)]),zx_ 28 25 (.not (.t 27)),zg_ 29 25 true 28,zw_ 30 29,zu_ 31 30 3,zu_ 32 30 5,zx_ 33 30 (.call 44 [(.t 31),(.t 32)]),zu_ 34 30 5,zx_ 35 30 (.call 13 [(.t 33),(.t 34)]),zx_ 36 30 (.not (.t 35)),zg_ 37 30 true 36] (.cond (.t 37) (zd_ [zj_ 2 false] .ret) .skip)) (.seq (zd_ [zk_ 6 0] (.block 0 (.loop (.seq (zd_ [zw_ 38 6,zw_ 39 3,zf_ 40 false 39,zl_ 41 .lss 38 40] (.cond (.t 41) .skip (.exit 0))) (.seq (.block 1 (zd_ [zw_ 44 3,zw_ 45 6,zp_ 46 19 44 45,zw_ 7 46] (zd_ [zk_ 8 0] (.block 2 (.loop (.seq (zd_ [zw_ 47 8,zw_ 48 7,zf_ 49 false 48,zl_ 50 .lss 47 49] (.cond (.t 50) .skip (.exit 2))) (.seq (.block 3 (zd_ [zw_ 53 5,zw_ 54 7,zw_ 55 8,ze_ 56 1 54 55,zs_ 57 1 56,zp_ 58 18 53 57,zw_ 59 58,zv_ 60 59 5,zv_ 61 59 6,zy_ 62 59 (.call 18 [(.t 60),(.t 61)]),zy_ 63 59 (.not (.t 62)),zh_ 64 59 63 false] (.cond (.t 64) (zd_ [zj_ 2 false] .ret) .skip))) (.reg false [zw_ 51 8,zm_ 52 .add 51 1,zw_ 8 52])))))))) (.reg false [zw_ 42 6,zm_ 43 .add 42 1,zw_ 6 43])))))) (zd_ [zj_ 2 true] .ret)))))))
theorem KU :ay Tryz.prog (Tryz.f7.body.getD .skip)=some U7:=by kernel_rfl
theorem ZO(l:List UInt8)(hl:l.length≤1048576):aV Tryz.prog 7 [.sl (l.map lu8)] (.c false [.raw (.bool (true))]):=by
 refine dR (fn:=Tryz.f7) (t:=2) (hc:=KU) (h:= ?_)
 unfold U7;refine zb_ ?_
 change AWP _ _ _ (st0 65 _)
 refine sS tdX ?_
 have hB:=Oi l
 rw[decide_eq_false (by omega:¬(l.length:Int) > 1048576)]at hB
 repeat' (first|(refine rg_ ?_;intro K hK)|(refine hq_ ?_;clear hK K)|refine ca_ ?_ ?_|refine gq_ ?_|(refine c2_ ?_ ?_<;>(intro hb hb';try(exfalso;omega)))|((with_reducible refine aB ?_);first|refine aI (hc:=hB) (h:= ?_)|((refine Ei (acZ l _ hl) ?_);rintro _ _ _ ⟨ps,i,h,hp1,hp2,⟨zs,ho,rfl⟩,rfl,rfl⟩))|((with_reducible refine ak ?_);refine ss tdE ?_)|refine nv ?_|exact aA|exact au)
 have hn:ps.length≤1048576:=by omega
 have hw:=PD hp1 hp2
 have a1:=LV ps zs hw (by omega)
 have a2:=ZQ ps zs hw (by omega)
 have c1:=ady ps zs
 have up:∀{k j:Nat},k<ps.length→j∈duI ps (k:Int)→decide ((j:Int)∈lnz (yO ps zs))=true→decide ((k:Int)∈lnz (yO ps zs))=true:=fun hk hj h=>agF hk hj h
 have a3:=LV ps (lnz (yO ps zs)) hw (by rw[uU];omega)
 rw[adx]at a3
 have r1:=TT (lnz (yO ps zs)) (by rw[uU];omega) (Ue (xK ps zs))
 obtain⟨av,hav⟩:∃av,av=lnz (yO ps zs):=⟨_,rfl⟩
 have c3:av.length≤1048576:=by rw[hav,uU];omega
 simp only[← hav]at a1 a2 a3 r1 up
 have s1:=DI av av c3 c3
 simp only[decide_true]at s1
 clear hav c1
 repeat' (first|(refine rg_ ?_;intro K hK)|(refine hq_ ?_;clear hK K)|refine ca_ ?_ ?_|refine gq_ ?_|(refine c2_ ?_ ?_<;>(intro hb hb';try(exfalso;omega)))|((with_reducible refine aB ?_);first|refine aI (hc:=a1) (h:= ?_)|refine aI (hc:=a2) (h:= ?_)|refine aI (hc:=a3) (h:= ?_)|refine aI (hc:=r1) (h:= ?_)|refine aI (hc:=s1) (h:= ?_))|((with_reducible refine ak ?_);refine ss tdE ?_)|refine nv ?_|exact aA|exact au)
 refine aW (X:=Nat) (fun y=> [.d,.d,.d,.k,.d,.k,.v (.c false [.raw (.int .i64 ((y:Nat)))]),.d,.d,.d,.d,.d,.d,.d,.d,.d,.d,.d,.d,.d,.d,.d,.d,.d,.d,.d,.d,.d,.d,.d,.d,.d,.d,.d,.d,.d,.d,.d,.d,.d,.d,.d,.d,.d,.d,.d,.d,.d,.d,.d,.d,.d,.d,.d,.d,.d,.d,.d,.d,.d,.d,.d,.d,.d,.d]) (fun _=> []) (fun _ _=> [[.sl false (l.map lu8),.raw (.int .i64 i),.raw (.int .i64 h)]]) (fun y=>y≤ps.length) (fun y=>ps.length - y) 0 (Nat.zero_le _) ?_ ?_
 ·simp[aO,aX,aK,aN,AV.fits,AC.fits,FB,aG]
 rintro y hy
 simp only[FB,aG]
 by_cases hlt:y<ps.length
 ·have hT:decide ((y:Int)<(ps.length:Int))=true:=decide_eq_true (by omega)
  have hw1:(y:Int)+1=((y+1:Nat):Int):=by omega
  have d1:=Lp ps (y:Int) hw
  have l1:=N8 ps (y:Int)
  have up2:∀j∈lnz (duI ps (y:Int)),decide (j∈av)=true→decide ((y:Int)∈av)=true:=by
   intro j hj
   obtain⟨x,hx,rfl⟩:=Aw.1 hj
   exact up hlt hx
  obtain⟨u,hu⟩:∃u,u=lnz (duI ps (y:Int)):=⟨_,rfl⟩
  have lu:u.length≤1048576:=by rw[hu,uU];omega
  rw[← hu]at d1 up2
  clear hu l1 up
  repeat' (first|(refine rg_ ?_;intro K hK)|(refine hq_ ?_;clear hK K)|refine ca_ ?_ ?_|refine gq_ ?_|(refine c2_ ?_ ?_<;>(intro hb hb';try(exfalso;omega)))|((with_reducible refine aB ?_);first|refine aI (hc:=d1) (h:= ?_))|((with_reducible refine ak ?_);refine ss (aho tdE (aho hT hw1)) ?_)|refine nv ?_|exact aA|exact au)
  refine aW (X:=Nat) (fun x=> [.d,.d,.d,.k,.d,.k,.k,.k,.v (.c false [.raw (.int .i64 ((x:Nat)))]),.d,.d,.d,.d,.d,.d,.d,.d,.d,.d,.d,.d,.d,.d,.d,.d,.d,.d,.d,.d,.d,.d,.d,.d,.d,.d,.d,.d,.d,.d,.d,.d,.d,.d,.d,.d,.d,.d,.d,.d,.d,.d,.d,.d,.d,.d,.d,.d,.d,.d,.d,.d,.d,.d,.d,.d]) (fun _=> []) (fun _ _=> [[.sl false (l.map lu8),.raw (.int .i64 i),.raw (.int .i64 h)]]) (fun x=>x≤u.length) (fun x=>u.length - x) 0 (Nat.zero_le _) ?_ ?_
  ·simp[aO,aX,aK,aN,AV.fits,AC.fits,FB,aG]
  rintro x hx
  simp only[FB,aG]
  by_cases hlx:x<u.length
  ·have hTx:decide ((x:Int)<(u.length:Int))=true:=decide_eq_true (by omega)
   have hwx:(x:Int)+1=((x+1:Nat):Int):=by omega
   have gx:idx (u.map li) (some (x:Int))=some (li u[x]):=dD li u hlx
   have q1:=U8 av u[x] c3
   have q2:=U8 av (y:Int) c3
   cases hb1:decide (u[x]∈av)with
   | true=>
     rw[up2 _ (List.getElem_mem hlx) hb1]at q2
     rw[hb1]at q1
     repeat' (first|(refine rg_ ?_;intro K hK)|(refine hq_ ?_;clear hK K)|refine ca_ ?_ ?_|refine gq_ ?_|(refine c2_ ?_ ?_<;>(intro hb hb';try(exfalso;omega)))|((with_reducible refine aB ?_);first|refine aI (hc:=q1) (h:= ?_)|refine aI (hc:=q2) (h:= ?_))|((with_reducible refine ak ?_);refine ss (aho tdE (aho hTx (aho hwx gx))) ?_)|refine nv ?_|exact aA|exact au)
     all_goals first
      |exact dQ _
      | (refine aS (x+1) ?_ (show x+1≤u.length by omega) (show u.length - (x+1)<u.length - x by omega)
         simp[aO,aX,aK,aN,AV.fits,AC.fits,FB,aG]
         done)
   | false=>
     rw[hb1]at q1
     repeat' (first|(refine rg_ ?_;intro K hK)|(refine hq_ ?_;clear hK K)|refine ca_ ?_ ?_|refine gq_ ?_|(refine c2_ ?_ ?_<;>(intro hb hb';try(exfalso;omega)))|((with_reducible refine aB ?_);first|refine aI (hc:=q1) (h:= ?_)|refine aI (hc:=q2) (h:= ?_))|((with_reducible refine ak ?_);refine ss (aho tdE (aho hTx (aho hwx gx))) ?_)|refine nv ?_|exact aA|exact au)
     all_goals first
      |exact dQ _
      | (refine aS (x+1) ?_ (show x+1≤u.length by omega) (show u.length - (x+1)<u.length - x by omega)
         simp[aO,aX,aK,aN,AV.fits,AC.fits,FB,aG]
         done)
  ·have hTx:decide ((x:Int)<(u.length:Int))=false:=decide_eq_false (by omega)
   repeat' (first|(refine rg_ ?_;intro K hK)|(refine hq_ ?_;clear hK K)|refine ca_ ?_ ?_|refine gq_ ?_|(refine c2_ ?_ ?_<;>(intro hb hb';try(exfalso;omega)))|((with_reducible refine ak ?_);refine ss (aho tdE (aho hTx hw1)) ?_)|refine nv ?_|exact aA|exact au)
   all_goals first
    |exact dQ _
    | (refine aS (y+1) ?_ (show y+1≤ps.length by omega) (show ps.length - (y+1)<ps.length - y by omega)
       simp[aO,aX,aK,aN,AV.fits,AC.fits,FB,aG]
       done)
 ·have hT:decide ((y:Int)<(ps.length:Int))=false:=decide_eq_false (by omega)
  repeat' (first|(refine rg_ ?_;intro K hK)|(refine hq_ ?_;clear hK K)|refine ca_ ?_ ?_|refine gq_ ?_|(refine c2_ ?_ ?_<;>(intro hb hb';try(exfalso;omega)))|((with_reducible refine ak ?_);refine ss (aho tdE hT) ?_)|refine nv ?_|exact aA|exact au)
  all_goals exact bC ⟨_,rfl,⟨rfl,trivial⟩⟩
theorem afh(l:List UInt8)(hl:¬l.length≤1048576):aV Tryz.prog 7 [.sl (l.map lu8)] (.c false [.raw (.bool (true))]):=by
 refine dR (fn:=Tryz.f7) (t:=2) (hc:=KU) (h:= ?_)
 unfold U7;refine zb_ ?_
 change AWP _ _ _ (st0 65 _)
 refine sS tdX ?_
 have hB:=Oi l
 rw[decide_eq_true (by omega:(l.length:Int) > 1048576)]at hB
 repeat' (first|(refine rg_ ?_;intro K hK)|(refine hq_ ?_;clear hK K)|refine ca_ ?_ ?_|refine gq_ ?_|(refine c2_ ?_ ?_<;>(intro hb hb';try(exfalso;omega)))|((with_reducible refine aB ?_);first|refine aI (hc:=hB) (h:= ?_))|((with_reducible refine ak ?_);refine ss (aho tdC @iW) ?_)|refine nv ?_|(exact GCell.el _)|exact aA|exact au)
 exact bC ⟨_,rfl,⟨rfl,trivial⟩⟩
theorem Gs(l:List UInt8)(fp:List Nat)(v:Value)(w:World)(h:Sl w (l.map lu8) fp v):Calls Tryz.prog 7 #[v] w (Ti w):=by
 have hC:aV Tryz.prog 7 [.sl (l.map lu8)] (.c false [.raw (.bool (true))]):=by
  by_cases hl:l.length≤1048576
  ·exact ZO l hl
  ·exact afh l hl
 refine(abz hC (vs:= [v]) ⟨Ph h,trivial⟩).mono ?_
 rintro e w' ⟨h1,h2⟩
 exact⟨h1,h2⟩
open Go.ChangeShapes Go.WideShapes Go.ChangeAt
theorem Az(os:Os)(started:os.Started)(H:Type)(enc:TypeId×Value→H):
 ReturnsInHanded {} Tryz.checked os 7 .any (Rows.fnAffectedSpec.pre6 enc Tryz.prog Tryz.f7 Rows.fnAffectedRow.domain false) (Rows.fnAffectedSpec.post enc Tryz.prog Tryz.f7 false true false false):=by
 refine returnsInHanded_of_change (C:=Tryz.checked) agQ started (by kernel_rfl) Tryz.func7
  (ChangeSpec.witness6 (enc:=enc) (C:=Tryz.checked) false ⟨#[], #[.slice none 0 0],[]⟩ 8 (by kernel_rfl) (by kernel_rfl) (by kernel_rfl) (by kernel_rfl)) ?_
 intro W base args ds gs before hval0 hW hcnd _
 have hval:∀(j:Nat) t v,Tryz.f7.params[j]? =some t→args[j]? =some v→Value.okWide Tryz.prog W .any base t v:=hval0
 have hW':=hW
 obtain⟨p,q,hA0,hV,rfl,hfz,hnd⟩:=hW
 have hA:DataW.TrodAll enc Tryz.prog W 0 (fun _=>true) true Tryz.f7.params.toList args.toList ds p:=hA0
 rw[Tryz.params7]at hA hval
 obtain⟨v0,vs0,d0,ds0,p0,q0,ha0,rfl,rfl,h0,r0⟩:=trodAll_cons hA
 obtain⟨rfl,rfl,rfl⟩:=trodAll_nil r0
 obtain rfl:args= #[v0]:=by cases args;simp_all
 obtain⟨rfl,rfl⟩:=trodVars_none hV
 obtain⟨l0,fx0,hx0,wx0⟩:=LQ Tryz.underlying22 (hval 0 22 v0 rfl rfl) (fun n=>aaP n) h0
 clear hA0 hval0
 have hlt:∀z∈p0++ [],z.block<W.heap.size:=fun z hz=>hW'.lt z (by simpa using hz)
 refine(Gs l0 fx0 _ W hx0).mono fun e W' ⟨he,hb⟩=> ?_
 subst he
 exact⟨_,rfl,yX (pa:=p0++ []) (pv:= []) hW' (fun _ _ _=>trodAll_mk1 (shut_bool Tryz.underlying4 _))
  (fun sp hsp=>⟨_,_,WideElems.Trod_stays PZ (by kernel_rfl) (of_decide_eq_true (by kernel_rfl)) h0 (fun z hz=>hb.same (hlt z (List.mem_append_left _ hz))) (fun z hz=>hsp z (by simp[hz])),rfl,rfl⟩) (fun _ _=>rfl) (by simp) hb (ok_one (by kernel_rfl) rfl (okWide_bool_mk Tryz.underlying4 _))⟩
theorem proved_FnAffected :Rows.FnAffectedSaid:=
 OpenClaim.holds_of_wide 7 Tryz.f7 rfl rfl rfl rfl rfl rfl rfl ⟨rfl,rfl,rfl,rfl,rfl⟩ rfl rfl rfl rfl rfl (by kernel_rfl) Tryz.func7 (by kernel_rfl)
  (of_decide_eq_true (by kernel_rfl)) (by unfold Func.isWrapper;first|(rw[if_pos (by decide+kernel)];kernel_rfl)|(rw[if_neg (by decide+kernel)];exact⟨rfl,rfl⟩))
  (fun os started H enc _=>Az os started H enc)
end Go.Proofs.YtfjmoicellpnhaaGreat
