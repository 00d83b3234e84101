/-
  A notebook is parsed from its file, and a parsed file is that of the notebook. No condition.
-/
import Derived.Test.YtfengkmaphbofaaGreatDoorJS
import Derived.Test.YtfengkmaphbofaaGreatDoorCards
import Derived.Test.YtfengkmaphbofaaGreatDoorTie
import Derived.Test.YtfengkmaphbofaaGreatDoorJT
import Derived.SevenTiedAt
import Derived.Stop.Joined
set_option maxHeartbeats 32000000
set_option maxRecDepth 100000
set_option linter.unusedSimpArgs false
set_option linter.unusedVariables false
namespace Go.Proofs.YtfengkmaphbofaaGreatDoor
open Go.RowKit
attribute [local irreducible] sw sd sn
def Ns :IC:=(zd_ [zj_ 2 false] (.seq (zd_ [zw_ 15 0,zq_ 16 11 15] (.cond (.t 16) (zd_ [zj_ 2 true] .ret) .skip)) (zd_ [zw_ 17 0,zq_ 18 12 17,zz_ 3 (.alloc [(.slice none 0 0)]),⟨none,none,.store 1 (.t 3) (.t 18)⟩] (zd_ [zr_ 19 1 3,zq_ 20 13 19,zw_ 4 20] (zd_ [zw_ 22 4,zq_ 23 14 22,zw_ 21 23,zz_ 24 (.ext 0 (.t 21)),zz_ 25 (.ext 1 (.t 21)),zz_ 5 (.alloc [(.slice none 0 0)]),⟨none,none,.store 1 (.t 5) (.t 24)⟩,zw_ 6 25] (.seq (zd_ [zw_ 26 4,zr_ 27 1 3,zq_ 28 15 27,zl_ 29 .neq 26 28,zw_ 30 29,zx_ 31 30 (.load 1 true (.t 3)),zx_ 32 30 (.call 16 [(.t 31)]),zu_ 33 30 32,zv_ 34 33 6,zy_ 35 33 (.not (.t 34)),zv_ 36 33 35,zx_ 37 36 (.load 1 true (.t 5)),zx_ 38 36 (.load 1 true (.t 3)),zx_ 39 36 (.call 17 [(.t 37),(.t 38)]),zx_ 40 36 (.not (.t 39)),zy_ 41 33 (.pick (.t 36) (.k (.bool true)) (.t 40)),zx_ 42 30 (.pick (.t 33) (.t 41) (.k (.bool false))),zg_ 43 30 true 42] (.cond (.t 43) (zd_ [zj_ 2 false] .ret) .skip)) (zd_ [zw_ 44 0,zq_ 45 18 44,zw_ 7 45] (zd_ [zw_ 47 7,zq_ 48 14 47,zw_ 46 48,zz_ 49 (.ext 0 (.t 46)),zz_ 50 (.ext 1 (.t 46)),zz_ 8 (.alloc [(.slice none 0 0)]),⟨none,none,.store 1 (.t 8) (.t 49)⟩,zw_ 9 50] (zd_ [zw_ 52 7,zq_ 53 19 52,zw_ 51 53,zz_ 54 (.ext 0 (.t 51)),zz_ 55 (.ext 1 (.t 51)),zz_ 10 (.alloc [(.slice none 0 0)]),⟨none,none,.store 1 (.t 10) (.t 54)⟩,zw_ 11 55] (.seq (zd_ [zw_ 56 9,zw_ 57 11,zz_ 58 (.beq true (.t 56) (.t 57)),zw_ 59 58,zu_ 60 59 9,zu_ 61 59 60,zy_ 62 61 (.load 1 true (.t 8)),zy_ 63 61 (.call 13 [(.t 62)]),zv_ 64 61 7,zy_ 65 61 (.bin .neq (.t 63) (.t 64)),zx_ 66 59 (.pick (.t 61) (.t 65) (.k (.bool false))),zg_ 67 59 true 66] (.cond (.t 67) (zd_ [zj_ 2 false] .ret) .skip)) (zd_ [zw_ 68 0,zq_ 69 20 68,zw_ 12 69] (zd_ [zw_ 71 12,zq_ 72 21 71,zw_ 70 72,zz_ 73 (.ext 0 (.t 70)),zz_ 74 (.ext 1 (.t 70)),zz_ 13 (.alloc [(.int .i64 0),(.int .i64 0),(.int .i64 0),(.string ⟨#[]⟩),(.string ⟨#[]⟩),(.int .i64 0)]),⟨none,none,.store 6 (.t 13) (.t 73)⟩,zw_ 14 74] (zd_ [zw_ 75 14,zz_ 76 (.not (.t 75)),zw_ 77 76,zx_ 78 77 (.load 6 true (.t 13)),zx_ 79 77 (.call 22 [(.t 78)]),zu_ 80 77 12,zx_ 81 77 (.bin .eql (.t 79) (.t 80)),zu_ 82 77 81,zy_ 83 82 (.load 6 true (.t 13)),zy_ 84 82 (.call 23 [(.t 83)]),zx_ 85 77 (.pick (.t 82) (.t 84) (.k (.bool false))),zg_ 86 77 true 85,zw_ 2 86] .ret)))))))))))))
theorem Gj :bg Tryz.prog (Tryz.f4.body.getD .skip)=some Ns:=by kernel_rfl
theorem Q8(l:List UInt8)(hl:l.length≤1048576):dK Tryz.prog 4 [.sl (l.map lu8)] (.c false [.raw (.bool (true))]):=by
 refine gW (fn:=Tryz.f4) (t:=2) (hc:=Gj) (h:= ?_);unfold Ns;refine zb_ ?_;change AWP _ _ _ (st0 87 _);refine sS tdX ?_;have hB:=VB l;rw[decide_eq_false (by omega:¬(l.length:Int) > 1048576)]at hB
 repeat' (first|(refine rg_ ?_;intro K hK)|(refine hq_ ?_;clear hK K)|refine ca_ ?_ ?_|refine gq_ ?_|(refine c2_ ?_ ?_<;>(intro hb hb';try(exfalso;omega)))|(refine cg_ ?_;first|refine cT_ hB ?_|(refine iW (h:=(Q9 l hl)) (hK:= ?_);rintro _ _ ⟨cs,hcs,hall,rfl,rfl⟩))|refine sz_ (Zm tdC @kW) ?_|refine nv ?_|(exact GCell.el _)|(exact GCell.el [⟨_,_,_,_,_,_⟩])|exact bq_|fail)
 have hwc:=zx (W:=5000) (by decide) hall;have hsm:∀c∈cs,qU c:=fun c hc=>Ag (by decide) (hall c hc)
 have hfz:=Eb hall (by decide) hcs;have f1:=kC ⟨cs⟩ hwc hsm;have f2:=nJ ⟨cs⟩ hwc hsm;have p1:=oQ (kP cs) (by omega);have v1:=lW ⟨cs⟩ hwc;simp only at f1 f2 v1;have hne1:((kP cs).toList !=(kP cs).toList)=false:=by simp
 cases hv:gu cs
 ·rw[hv]at v1
  repeat' (first|(refine rg_ ?_;intro K hK)|(refine hq_ ?_;clear hK K)|refine ca_ ?_ ?_|refine gq_ ?_|(refine cg_ ?_;first|refine cT_ f1 ?_|refine cT_ f2 ?_|refine cT_ p1 ?_|refine cT_ v1 ?_|(refine iW (h:=(Gw l hl)) (hK:= ?_);rintro _ _ ⟨⟨t,ht,rfl⟩,rfl⟩))|refine sz_ (Zm tdC @kW) ?_|refine nv ?_|(exact GCell.el _)|(exact GCell.el [⟨_,_,_,_,_,_⟩])|exact bq_|fail)
  have hts:t.size≤1048575:=by omega
  have q1:=oQ t (by omega);have q2:=tJ t (by omega);cases hv2:(dX t).2
  ·rw[hv2]at q1 q2
   repeat' (first|(refine rg_ ?_;intro K hK)|(refine hq_ ?_;clear hK K)|refine ca_ ?_ ?_|refine gq_ ?_|(refine cg_ ?_;first|refine cT_ q1 ?_|refine cT_ q2 ?_|(refine iW (h:=(yg l hl)) (hK:= ?_);rintro _ _ ⟨⟨g,hg,rfl⟩,rfl⟩))|refine sz_ (Zm tdC @kW) ?_|refine nv ?_|(exact GCell.el _)|(exact GCell.el [⟨_,_,_,_,_,_⟩])|exact bq_|fail)
   have c1:=iw g (by omega);cases hv3:(fB g).2
   ·rw[hv3]at c1
    repeat' (first|(refine rg_ ?_;intro K hK)|(refine hq_ ?_;clear hK K)|refine ca_ ?_ ?_|refine gq_ ?_|(refine cg_ ?_;first|refine cT_ c1 ?_)|refine sz_ (Zm tdC @kW) ?_|refine nv ?_|(exact GCell.el _)|(exact GCell.el [⟨_,_,_,_,_,_⟩])|exact bq_|fail)
    exact dS ⟨_,rfl,⟨rfl,trivial⟩⟩
   ·have hcs3:=nD (s:=g) (by omega);have hgx:=pW hv3;have c2:=jc (fB g).1 (kH (s:=g) (by omega)) hcs3.1 hcs3.2;have c3:=jG (fB g).1 (kH (s:=g) (by omega));rw[hgx]at c2;rw[pJ hv3]at c3;rw[hv3]at c1;have hgt:(g.toList==g.toList)=true:=by simp
    repeat' (first|(refine rg_ ?_;intro K hK)|(refine hq_ ?_;clear hK K)|refine ca_ ?_ ?_|refine gq_ ?_|(refine cg_ ?_;first|refine cT_ c1 ?_|refine cT_ c2 ?_|refine cT_ c3 ?_)|refine sz_ (a3_ tdC @kW hgt) ?_|refine nv ?_|(exact GCell.el _)|(exact GCell.el [⟨_,_,_,_,_,_⟩])|exact bq_|fail)
    exact dS ⟨_,rfl,⟨rfl,trivial⟩⟩
  ·have hcw:=vU hts;have htx:=xB hv2;have g1:=kC ⟨(dX t).1⟩ (yK fun d hd=>by obtain⟨c,hc,rfl⟩:=List.mem_map.1 hd;exact(hcw c hc).1) (fun c hc=>(hcw c hc).2);simp only at g1;rw[htx]at g1;rw[hv2]at q1 q2;have hne:(t.toList !=t.toList)=false:=by simp
   repeat' (first|(refine rg_ ?_;intro K hK)|(refine hq_ ?_;clear hK K)|refine ca_ ?_ ?_|refine gq_ ?_|(refine cg_ ?_;first|refine cT_ q1 ?_|refine cT_ q2 ?_|refine cT_ g1 ?_|(refine iW (h:=(yg l hl)) (hK:= ?_);rintro _ _ ⟨⟨g,hg,rfl⟩,rfl⟩))|refine sz_ (Zm tdC @kW) ?_|refine nv ?_|(exact GCell.el _)|(exact GCell.el [⟨_,_,_,_,_,_⟩])|exact bq_|fail)
   have c1:=iw g (by omega);cases hv3:(fB g).2
   ·rw[hv3]at c1
    repeat' (first|(refine rg_ ?_;intro K hK)|(refine hq_ ?_;clear hK K)|refine ca_ ?_ ?_|refine gq_ ?_|(refine cg_ ?_;first|refine cT_ c1 ?_)|refine sz_ (Zm tdC @kW) ?_|refine nv ?_|(exact GCell.el _)|(exact GCell.el [⟨_,_,_,_,_,_⟩])|exact bq_|fail)
    exact dS ⟨_,rfl,⟨rfl,trivial⟩⟩
   ·have hcs3:=nD (s:=g) (by omega);have hgx:=pW hv3;have c2:=jc (fB g).1 (kH (s:=g) (by omega)) hcs3.1 hcs3.2;have c3:=jG (fB g).1 (kH (s:=g) (by omega));rw[hgx]at c2;rw[pJ hv3]at c3;rw[hv3]at c1;have hgt:(g.toList==g.toList)=true:=by simp
    repeat' (first|(refine rg_ ?_;intro K hK)|(refine hq_ ?_;clear hK K)|refine ca_ ?_ ?_|refine gq_ ?_|(refine cg_ ?_;first|refine cT_ c1 ?_|refine cT_ c2 ?_|refine cT_ c3 ?_)|refine sz_ (a3_ tdC @kW hgt) ?_|refine nv ?_|(exact GCell.el _)|(exact GCell.el [⟨_,_,_,_,_,_⟩])|exact bq_|fail)
    exact dS ⟨_,rfl,⟨rfl,trivial⟩⟩
 ·rw[hv]at v1;have e1:=AU ⟨cs⟩ ⟨cs⟩ (by simp only;omega);simp only[decide_true]at e1;rw[JD hv]at p1
  repeat' (first|(refine rg_ ?_;intro K hK)|(refine hq_ ?_;clear hK K)|refine ca_ ?_ ?_|refine gq_ ?_|(refine cg_ ?_;first|refine cT_ f1 ?_|refine cT_ f2 ?_|refine cT_ p1 ?_|refine cT_ v1 ?_|refine cT_ e1 ?_|(refine iW (h:=(Gw l hl)) (hK:= ?_);rintro _ _ ⟨⟨t,ht,rfl⟩,rfl⟩))|refine sz_ (Zm tdC @kW) ?_|refine nv ?_|(exact GCell.el _)|(exact GCell.el [⟨_,_,_,_,_,_⟩])|exact bq_|fail)
  have hts:t.size≤1048575:=by omega
  have q1:=oQ t (by omega);have q2:=tJ t (by omega);cases hv2:(dX t).2
  ·rw[hv2]at q1 q2
   repeat' (first|(refine rg_ ?_;intro K hK)|(refine hq_ ?_;clear hK K)|refine ca_ ?_ ?_|refine gq_ ?_|(refine cg_ ?_;first|refine cT_ q1 ?_|refine cT_ q2 ?_|(refine iW (h:=(yg l hl)) (hK:= ?_);rintro _ _ ⟨⟨g,hg,rfl⟩,rfl⟩))|refine sz_ (Zm tdC @kW) ?_|refine nv ?_|(exact GCell.el _)|(exact GCell.el [⟨_,_,_,_,_,_⟩])|exact bq_|fail)
   have c1:=iw g (by omega);cases hv3:(fB g).2
   ·rw[hv3]at c1
    repeat' (first|(refine rg_ ?_;intro K hK)|(refine hq_ ?_;clear hK K)|refine ca_ ?_ ?_|refine gq_ ?_|(refine cg_ ?_;first|refine cT_ c1 ?_)|refine sz_ (Zm tdC @kW) ?_|refine nv ?_|(exact GCell.el _)|(exact GCell.el [⟨_,_,_,_,_,_⟩])|exact bq_|fail)
    exact dS ⟨_,rfl,⟨rfl,trivial⟩⟩
   ·have hcs3:=nD (s:=g) (by omega);have hgx:=pW hv3;have c2:=jc (fB g).1 (kH (s:=g) (by omega)) hcs3.1 hcs3.2;have c3:=jG (fB g).1 (kH (s:=g) (by omega));rw[hgx]at c2;rw[pJ hv3]at c3;rw[hv3]at c1;have hgt:(g.toList==g.toList)=true:=by simp
    repeat' (first|(refine rg_ ?_;intro K hK)|(refine hq_ ?_;clear hK K)|refine ca_ ?_ ?_|refine gq_ ?_|(refine cg_ ?_;first|refine cT_ c1 ?_|refine cT_ c2 ?_|refine cT_ c3 ?_)|refine sz_ (a3_ tdC @kW hgt) ?_|refine nv ?_|(exact GCell.el _)|(exact GCell.el [⟨_,_,_,_,_,_⟩])|exact bq_|fail)
    exact dS ⟨_,rfl,⟨rfl,trivial⟩⟩
  ·have hcw:=vU hts;have htx:=xB hv2;have g1:=kC ⟨(dX t).1⟩ (yK fun d hd=>by obtain⟨c,hc,rfl⟩:=List.mem_map.1 hd;exact(hcw c hc).1) (fun c hc=>(hcw c hc).2);simp only at g1;rw[htx]at g1;rw[hv2]at q1 q2;have hne:(t.toList !=t.toList)=false:=by simp
   repeat' (first|(refine rg_ ?_;intro K hK)|(refine hq_ ?_;clear hK K)|refine ca_ ?_ ?_|refine gq_ ?_|(refine cg_ ?_;first|refine cT_ q1 ?_|refine cT_ q2 ?_|refine cT_ g1 ?_|(refine iW (h:=(yg l hl)) (hK:= ?_);rintro _ _ ⟨⟨g,hg,rfl⟩,rfl⟩))|refine sz_ (Zm tdC @kW) ?_|refine nv ?_|(exact GCell.el _)|(exact GCell.el [⟨_,_,_,_,_,_⟩])|exact bq_|fail)
   have c1:=iw g (by omega);cases hv3:(fB g).2
   ·rw[hv3]at c1
    repeat' (first|(refine rg_ ?_;intro K hK)|(refine hq_ ?_;clear hK K)|refine ca_ ?_ ?_|refine gq_ ?_|(refine cg_ ?_;first|refine cT_ c1 ?_)|refine sz_ (Zm tdC @kW) ?_|refine nv ?_|(exact GCell.el _)|(exact GCell.el [⟨_,_,_,_,_,_⟩])|exact bq_|fail)
    exact dS ⟨_,rfl,⟨rfl,trivial⟩⟩
   ·have hcs3:=nD (s:=g) (by omega);have hgx:=pW hv3;have c2:=jc (fB g).1 (kH (s:=g) (by omega)) hcs3.1 hcs3.2;have c3:=jG (fB g).1 (kH (s:=g) (by omega));rw[hgx]at c2;rw[pJ hv3]at c3;rw[hv3]at c1;have hgt:(g.toList==g.toList)=true:=by simp
    repeat' (first|(refine rg_ ?_;intro K hK)|(refine hq_ ?_;clear hK K)|refine ca_ ?_ ?_|refine gq_ ?_|(refine cg_ ?_;first|refine cT_ c1 ?_|refine cT_ c2 ?_|refine cT_ c3 ?_)|refine sz_ (a3_ tdC @kW hgt) ?_|refine nv ?_|(exact GCell.el _)|(exact GCell.el [⟨_,_,_,_,_,_⟩])|exact bq_|fail)
    exact dS ⟨_,rfl,⟨rfl,trivial⟩⟩
theorem W9(l:List UInt8)(hl:¬l.length≤1048576):dK Tryz.prog 4 [.sl (l.map lu8)] (.c false [.raw (.bool (true))]):=by
 refine gW (fn:=Tryz.f4) (t:=2) (hc:=Gj) (h:= ?_);unfold Ns;refine zb_ ?_;change AWP _ _ _ (st0 87 _);refine sS tdX ?_;have hB:=VB l;rw[decide_eq_true (by omega:(l.length:Int) > 1048576)]at hB
 repeat' (first|(refine rg_ ?_;intro K hK)|(refine hq_ ?_;clear hK K)|refine ca_ ?_ ?_|refine gq_ ?_|(refine c2_ ?_ ?_<;>(intro hb hb';try(exfalso;omega)))|(refine cg_ ?_;first|refine cT_ hB ?_)|refine sz_ (Zm tdC @kW) ?_|refine nv ?_|(exact GCell.el _)|(exact GCell.el [⟨_,_,_,_,_,_⟩])|exact bq_|fail)
 exact dS ⟨_,rfl,⟨rfl,trivial⟩⟩
theorem JR(l:List UInt8)(fp:List Nat)(v:Value)(w:World)(h:Sl w (l.map lu8) fp v)(T0:oZ w):Calls Tryz.prog 4 #[v] w (VP w):=by
 have hC:dK Tryz.prog 4 [.sl (l.map lu8)] (.c false [.raw (.bool (true))]):=by
  by_cases hl:l.length≤1048576
  ·exact Q8 l hl
  ·exact W9 l hl
 refine(Uc hC (vs:= [v]) ⟨SH h,trivial⟩ T0).mono ?_;rintro e w' ⟨h1,h2⟩;exact⟨h1,h2⟩
open Go.ChangeShapes Go.WideShapes Go.ChangeAt
theorem CZ(os:Os)(started:os.Started)(H:Type)(enc:TypeId×Value→H):
 ReturnsInHanded {} Tryz.checked os 4 .any (fun w args=>(Rows.fnFilesSpec.pre enc Tryz.prog Tryz.f4 [] false w args∧laidMetH Tryz.prog qJ w)∧sizedMet enc Tryz.prog Tryz.f4 (OpenSpec.ofChange Rows.fnFilesSpec) false w args) (Rows.fnFilesSpec.post enc Tryz.prog Tryz.f4 false true false false):=by
 refine uw (C:=Tryz.checked) (X:=fun w _=>laidMetH Tryz.prog qJ w) (fun _ _ _ hh h=>h.of_heap hh) Zf started (by kernel_rfl) Tryz.func4
  (ChangeSpec.witness_shaped (enc:=enc) (C:=Tryz.checked) (os:=os) (X:=fun w _=>laidMetH Tryz.prog qJ w) false (World.laidAll Tryz.prog os qJ) #[.slice none 0 0] 8 (World.laidAll_os _ _ _) (LG os _) (by kernel_rfl) (by kernel_rfl) (by kernel_rfl) (Vg os _)) ?_
 intro W base args ds gs before hval0 hW hcnd _ hL hSh _;have T0:oZ W:=Je hL hSh;have hval:∀(j:Nat) t v,Tryz.f4.params[j]? =some t→args[j]? =some v→Value.okWide Tryz.prog W .any base t v:=hval0;have hW':=hW;obtain⟨p,q,hA0,hV,rfl,hfz,hnd⟩:=hW;have hA:DataW.TrodAll enc Tryz.prog W 0 (fun _=>true) true Tryz.f4.params.toList args.toList ds p:=hA0;rw[Tryz.params4]at hA hval;obtain⟨v0,vs0,d0,ds0,p0,q0,ha0,rfl,rfl,h0,r0⟩:=trodAll_cons hA;obtain⟨rfl,rfl,rfl⟩:=trodAll_nil r0;obtain rfl:args= #[v0]:=by cases args;simp_all
 obtain⟨rfl,rfl⟩:=trodVars_none hV;obtain⟨l0,fx0,hx0,wx0⟩:=Rq Tryz.underlying32 (hval 0 32 v0 rfl rfl) (fun n=>Ye n) h0;clear hA0 hval0;have hlt:∀z∈p0++ [],z.block<W.heap.size:=fun z hz=>hW'.lt z (by simpa using hz)
 refine(JR l0 fx0 _ W hx0 T0).mono fun e W' ⟨he,hb⟩=> ?_
 subst he;exact⟨_,rfl,EX (pa:=p0++ []) (pv:= []) hW' (fun _ _ _=>trodAll_mk1 (shut_bool Tryz.underlying4 _))
  (fun sp hsp=>⟨_,_,WideElems.Trod_stays Ur (by kernel_rfl) (of_decide_eq_true (by kernel_rfl)) h0 (fun z hz=>hb.same (hlt z (List.mem_append_left _ hz))) (fun z hz=>hsp z (by simp[hz])),rfl,rfl⟩) (fun _ _=>rfl) (by simp) hb (ok_one (by kernel_rfl) rfl (okWide_bool_mk Tryz.underlying4 _))⟩
theorem Hw :Rows.FnFilesSaid:=
 OpenClaim.holds_of_wide 4 Tryz.f4 rfl rfl rfl rfl rfl rfl rfl ⟨rfl,rfl,rfl,rfl,rfl⟩ rfl rfl rfl rfl rfl (by kernel_rfl) Tryz.func4 (by kernel_rfl)
  (of_decide_eq_true (by kernel_rfl)) (by unfold Func.isWrapper;first|(rw[if_pos (by decide+kernel)];kernel_rfl)|(rw[if_neg (by decide+kernel)];exact⟨rfl,rfl⟩))
  (fun os started H enc _=>CZ os started H enc)
theorem proved_FnFiles :Rows.FnFilesCardSaid:=
 Claim7.holds_tied_plain_at .later [] [.data,.data,.data,.data,.sentinel,.sentinel,.pinned] true (true,"e78a4b4e67c6704362e4f3a185ca6f3943b2db777efacbbedc33edef7bb96615") true
  Hw (fun _ h=>by cases h) (by kernel_rfl) (fun _ h=>by cases h) fnFiles_row_tie rfl ⟨rfl,rfl⟩ (by kernel_rfl) rfl
  (fun f fn hf hfn=>by
    obtain rfl:f=4:=Option.some.inj ((show Tryz.prog.funcNamed "loop.example/g00510/laws.FnFiles" =some 4 by kernel_rfl).symm.trans hf)|>.symm
    obtain rfl:fn=Tryz.f4:=(Option.some.inj (Tryz.func4.symm.trans hfn)).symm;exact⟨by kernel_rfl,fun j t ht=>by
     rw[Tryz.params4]at ht;have hm:t∈[32]:=by simpa using Array.mem_of_getElem? ht
     have hall:([32].all fun u=> !Tryz.prog.wantsStandIn u)=true:=by kernel_rfl
     exact(show Tryz.prog.wantsStandIn t=false by simpa using List.all_eq_true.1 hall t hm)⟩)
  (by kernel_rfl)
end Go.Proofs.YtfengkmaphbofaaGreatDoor
