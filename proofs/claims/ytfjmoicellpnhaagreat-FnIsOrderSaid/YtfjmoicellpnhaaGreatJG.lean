/-
  Texts joined: Exv Exw Shelf.
-/
import Derived.Test.YtfjmoicellpnhaaGreatJF
import Derived.Test.YtfjmoicellpnhaaGreatJE
import Derived.Shelf.Sort.Plain
import Derived.Test.YtfjmoicellpnhaaGreatProg
set_option maxHeartbeats 32000000
set_option maxRecDepth 8000
set_option linter.unusedSimpArgs false
set_option linter.unusedVariables false
namespace Go.Proofs.YtfjmoicellpnhaaGreat
open Go.RowKit
open List renaming take_succ_eq_append_getElem→a_,take_of_length_le→b_,cons_append→c_,getElem_mem→d_,length_map→f_,take_append_drop→h_,all_eq_false→i_,all_append→j_,map_cons→k_
open Nat renaming lt_succ_self→e_,zero_le→g_
attribute [local irreducible] sw sd sn
def NQ(b:UInt8):Bool:= !(decide ((b.toNat:Int)<32)) && !(decide ((b.toNat:Int) > 126)) && !((b.toNat:Int)==34)
def PU(s:ByteArray):Bool:=s.data.toList.all NQ && decide ((s.size:Int)≤20)
def nmB(s:ByteArray):Bool:=KZ s && !Kv s.toList
def uX(s:ByteArray):Bool:=s.toList==(⟨#[]⟩:ByteArray).toList
def jw(e:GExpr):Bool:=
 if e.kind=1 then(e.args.length==0 && uX e.text && inR e.n 0 1000000000)
 else if e.kind=2 then(e.args.length==0 && e.n==0 && PU e.text)
 else if e.kind=3 then(e.args.length==0 && e.n==0 && nmB e.text)
 else if e.kind=4 then(e.n==0 && uX e.text && decide (e.args.length≤8))
 else if e.kind=5 then(e.n==0 && (e.args.length:Int)==eG e.text.toList)
 else if e.kind=6 then(uX e.text && e.args.length==2 && inR e.n 1 5)
 else if e.kind=7∨e.kind=9 then(e.n==0 && e.args.length==2 && nmB e.text)
 else if e.kind=8 then(e.n==0 && uX e.text && e.args.length==3)
 else false
mutual
def GExpr.allN :GExpr→Bool
 | .mk k n t q=>GExpr.Zl q && jw (.mk k n t q)
def GExpr.Zl :List GExpr→Bool
 | []=>true
 |e::l=>e.allN && GExpr.Zl l
end
mutual
def GExpr.left :GExpr→Int→Int
 | .mk _ _ _ q,n=>GExpr.lefts q (n - 1)
def GExpr.lefts :List GExpr→Int→Int
 | [],n=>n
 |e::l,n=>if n≥0 then GExpr.lefts l (e.left n)else n
end
mutual
def GExpr.nest :GExpr→Nat
 | .mk _ _ _ q=>GExpr.rM q+1
def GExpr.rM :List GExpr→Nat
 | []=>0
 |e::l=>max e.nest (GExpr.rM l)
end
mutual
def GExpr.nodes :GExpr→Nat
 | .mk _ _ _ q=>GExpr.xO q+1
def GExpr.xO :List GExpr→Nat
 | []=>0
 |e::l=>e.nodes+GExpr.xO l
end
def NP(e:GExpr):Bool:=decide (e.nodes≤40) && decide (e.nest≤8) && e.allN
theorem Ux :∀(l:List GExpr),GExpr.Zl l=l.all GExpr.allN
 | []=>rfl
 |e::l=>by rw[GExpr.Zl,Ux l,List.all_cons]
theorem GR(e:GExpr):e.allN=(e.args.all GExpr.allN && jw e):=by cases e;rw[GExpr.allN,Ux];rfl
theorem afJ(e:GExpr)(n:Int):e.left n=GExpr.lefts e.args (n - 1):=by cases e;rw[GExpr.left];rfl
theorem afx(e:GExpr):e.nest=GExpr.rM e.args+1:=by cases e;rw[GExpr.nest];rfl
theorem LK :∀(l:List GExpr) {n:Int},n<0→GExpr.lefts l n=n
 | [],n,_=>by rw[GExpr.lefts]
 |e::l,n,h=>by rw[GExpr.lefts,if_neg (by omega)]
theorem LM :∀(l:List GExpr) (e:GExpr) (n:Int),GExpr.lefts (l++ [e]) n=if GExpr.lefts l n≥0 then e.left (GExpr.lefts l n)else GExpr.lefts l n
 | [],e,n=>by simp[GExpr.lefts]
 | x::l,e,n=>by
   simp only[c_,GExpr.lefts];split
   ·exact LM l e _
   ·next h=>simp
theorem LH :∀(l:List GExpr) (e:GExpr),GExpr.rM (l++ [e])=max (GExpr.rM l) e.nest
 | [],e=>by simp[GExpr.rM]
 |x::l,e=>by simp only[c_,GExpr.rM];rw[LH l e,Nat.max_assoc]
mutual
theorem GExpr.LP :∀(e:GExpr) (n:Int),0≤n→ -1≤e.left n∧e.left n<n∧(e.nodes≤n→e.left n=n - e.nodes)∧(n<e.nodes→e.left n<0)
 | .mk k m t q,n,hn=>by
   have:=GExpr.vT q (n - 1) (by omega);rw[GExpr.left,GExpr.nodes];omega
theorem GExpr.vT :∀(l:List GExpr) (n:Int), -1≤n→ -1≤GExpr.lefts l n∧GExpr.lefts l n≤n∧(GExpr.xO l≤n→GExpr.lefts l n=n - GExpr.xO l)∧(n<GExpr.xO l→0≤n→GExpr.lefts l n<0)
 | [],n,hn=>by rw[GExpr.lefts,GExpr.xO];omega
 | e ::l,n,hn=>by
   rw[GExpr.lefts,GExpr.xO];split
   ·next h=>
    have h1:=GExpr.LP e n h;have h2:=GExpr.vT l (e.left n) h1.1;by_cases h3:(e.nodes:Int)≤n
    ·have:=h1.2.2.1 h3;rw[this]at h2⊢;by_cases h4:(GExpr.xO l:Int)≤n - e.nodes
     ·have:=h2.2.2.1 h4;omega
     ·have h5:=h2.2.2.2 (by omega) (by omega);omega
    ·have h5:=h1.2.2.2 (by omega);have h6:=LK l h5;rw[h6];omega
   ·next h=>omega
end
theorem ac6(e:GExpr):decide (e.left 40≥0)=decide (e.nodes≤40):=by
 have:=e.LP 40 (by decide);by_cases h:e.nodes≤40
 ·rw[decide_eq_true h,decide_eq_true (by have:=this.2.2.1 (by omega);omega)]
 ·rw[decide_eq_false h,decide_eq_false (by have:=this.2.2.2 (by omega);omega)]
mutual
theorem GExpr.X6 :∀(e:GExpr),e.nest≤e.toD.wt+1
 | .mk k n t q=>by
   have:=GExpr.QJ q;rw[GExpr.nest,GExpr.ny];simp only[GExpr.args,f_];omega
theorem GExpr.QJ :∀(l:List GExpr),GExpr.rM l≤l.length+D.wts (l.map GExpr.toD)
 | []=>by simp[GExpr.rM]
 | e::l=>by
   have h1:=GExpr.X6 e;have h2:=GExpr.QJ l;rw[GExpr.rM,List.length_cons,k_,D.wts];omega
end
theorem sO{e x:GExpr}(h:x∈e.args):x.toD.wt<e.toD.wt:=by
 rw[GExpr.ny e];have:x.toD.wt≤D.wts (e.args.map GExpr.toD):=by
  revert h
  generalize e.args=l;intro h
  induction l with
  |nil=>simp at h
  | cons y l ih=>
    rw[k_,D.wts];rcases List.mem_cons.1 h with rfl|h
    ·omega
    ·have:=ih h;omega
 have h2:0<(e.args.map GExpr.toD).length:=by rw[f_];exact List.length_pos_of_mem h
 omega
theorem Gi(e:GExpr):e.args.length≤e.toD.wt:=by rw[GExpr.ny e,f_];omega
def x9 :IC:=(zd_ [zj_ 2 false] (.seq (zd_ [zk_ 3 0] (.block 0 (.loop (.seq (zd_ [zw_ 4 3,zw_ 5 0,zf_ 6 true 5,zl_ 7 .lss 4 6] (.cond (.t 7) .skip (.exit 0))) (.seq (.block 1 (zd_ [zw_ 10 0,zw_ 11 3,zz_ 12 (.sidx (.t 10) (.t 11)),zz_ 13 (.bin .lss (.t 12) (.k (.int .u8 32))),zw_ 14 13,zu_ 15 14 0,zu_ 16 14 3,zx_ 17 14 (.sidx (.t 15) (.t 16)),zx_ 18 14 (.bin .gtr (.t 17) (.k (.int .u8 126))),zg_ 19 14 true 18,zw_ 20 19,zu_ 21 20 0,zu_ 22 20 3,zx_ 23 20 (.sidx (.t 21) (.t 22)),zx_ 24 20 (.bin .eql (.t 23) (.k (.int .u8 34))),zg_ 25 20 true 24] (.cond (.t 25) (zd_ [zj_ 2 false] .ret) .skip))) (.reg false [zw_ 8 3,zm_ 9 .add 8 1,zw_ 3 9])))))) (zd_ [zw_ 26 0,zf_ 27 true 26,zm_ 28 .leq 27 20,zw_ 2 28] .ret)))
theorem CS :ak Tryz.prog (Tryz.f184.body.getD .skip)=some x9:=by kernel_rfl
theorem xR(s:ByteArray)(hs:s.size≤1048576):aI Tryz.prog 184 [ls s] (.c false [.raw (.bool (PU s))]):=by
 refine aY (fn:=Tryz.f184) (t:=2) (hc:=CS) (h:= ?_);unfold x9;refine zb_ ?_;change AWP _ _ _ (st0 29 _);refine sS trivial ?_
 repeat' (first|(refine rg_ ?_;intro K hK)|(refine hq_ ?_;clear hK K)|refine ca_ ?_ ?_|refine gq_ ?_|(refine c2_ ?_ ?_<;>(intro hb hb';try(exfalso;omega)))|refine sz_ trivial ?_|refine nv ?_|(exact GExpr.el _)|exact bq_|fail)
 refine aQ (X:=Nat) (fun i=> [.k,.d,.d,.v (.c false [.raw (.int .i64 ((i:Nat)))])]) (fun _=> []) (fun _ b=>b) (fun i=>i≤s.size∧(s.data.toList.take i).all NQ=true) (fun i=>s.size - i) 0 ⟨g_ _,rfl⟩ ?_ ?_
 ·simp[aG,aU,aC,aF,AV.fits,AC.fits,FB,aB]
 ·rintro i ⟨hi,hall⟩;simp only[FB,aB];by_cases hlt:i<s.size
  ·have hT:decide ((i:Int)<(s.size:Int))=true:=decide_eq_true (by omega);have hw1:IntKind.i64.wrap ((i:Int)+1)=((i+1:Nat):Int):=dJ (by omega);have hlt':i<s.data.size:=hlt;have hg:s.data[i]? =some s.data[i]:=Array.getElem?_eq_getElem hlt';have hc:NQ s.data[i]=(!(decide (((s.data[i]).toNat:Int)<32)) && !(decide (((s.data[i]).toNat:Int) > 126)) && !(((s.data[i]).toNat:Int)==34)):=rfl;have hl':i<s.data.toList.length:=by simpa using hlt'
   have htk:(s.data.toList.take (i+1)).all NQ=NQ s.data[i]:=by
    rw[a_ hl',j_,hall];simp
   cases k1:decide (((s.data[i]).toNat:Int)<32)<;>cases k2:decide (((s.data[i]).toNat:Int) > 126)<;>cases k3:(((s.data[i]).toNat:Int)==34)<;>rw[k1,k2,k3]at hc
   all_goals(first|(have hn:NQ s.data[i]=false:=by rw[hc];rfl)|(have hn:NQ s.data[i]=true:=by rw[hc];rfl))
   all_goals(repeat' (first|((with_reducible refine iC ?_);intro K hK)|((with_reducible refine hK _ ?_);clear hK K)|(with_reducible refine fC ?_ ?_)|((with_reducible refine gi ?_);first|(refine eX ?_ ?_;rfl)|(refine eY ?_ ?_;(rfl;refine gF ?_))|((with_reducible refine gS rfl ?_ ?_)<;>(intro hb hb';try(exfalso;omega))))|((with_reducible refine jg ?_);refine ss (aiX hT (aiX hw1 (aiX hg (aiX k1 (aiX k2 k3))))) ?_)|refine nv ?_|(with_reducible (refine cS rfl ?_ ?_)<;>(intro hb hb';try(exfalso;omega)))|(exact GExpr.el _)|exact wG|exact jm))
   all_goals first
    | (refine aP (i+1) ?_ ⟨by omega,by rw[htk];exact hn⟩ (show s.size - (i+1)<s.size - i by omega)
       simp[aG,aU,aC,aF,AV.fits,AC.fits,FB,aB])
    | (refine aS ⟨_,rfl, ?_,trivial⟩
       show _=_;have hm:s.data.toList.all NQ=false:=by
        rw[i_];exact⟨s.data[i],by simp,by rw[hn];simp⟩
       unfold PU;rw[hm];rfl)
  ·have hT:decide ((i:Int)<(s.size:Int))=false:=decide_eq_false (by omega);have hi':i=s.size:=by omega
   have hall':s.data.toList.all NQ=true:=by
    have:s.data.toList.take i=s.data.toList:=b_ (by rw[hi'];exact Nat.le_refl _);rw[← this];exact hall
   repeat' (first|(refine rg_ ?_;intro K hK)|(refine hq_ ?_;clear hK K)|refine ca_ ?_ ?_|refine gq_ ?_|(refine c2_ ?_ ?_<;>(intro hb hb';try(exfalso;omega)))|refine sz_ hT ?_|refine nv ?_|(exact GExpr.el _)|exact bq_|fail)
   refine aS ⟨_,rfl, ?_,trivial⟩;show _=_;unfold PU;rw[hall'];rfl
theorem aiS(n:Nat):((n:Int)==0)=(n==0):=by cases n<;>rfl
theorem air(n k:Nat):((n:Int)==(k:Int))=(n==k):=by
 by_cases h:n=k
 ·subst h;simp
 ·rw[beq_eq_false_iff_ne.2 h,beq_eq_false_iff_ne.2 (by omega)]
theorem og(s:ByteArray)(hs:s.size≤1048576):aI Tryz.prog 133 [ls s] (.c false [.raw (.bool (nmB s))]):=sU fun w vs hr=>by
 obtain⟨v,rfl,hv⟩:=Qr hr;obtain rfl:=pX hv;exact uY s (by omega) w
theorem Dn(s:ByteArray):aI Tryz.prog 220 [ls s] (.c false [.raw (.int .i64 (eG s.toList))]):=Gl fun w vs hr=>by
 obtain⟨v,rfl,hv⟩:=Qr hr;obtain rfl:=pX hv;exact KU s w
def EZ :IC:=(zd_ [zj_ 6 false] (zd_ [zw_ 7 0,zw_ 8 1,zl_ 9 .geq 7 8,zw_ 10 9,zv_ 11 10 0,zv_ 12 10 2,zy_ 13 10 (.bin .leq (.t 11) (.t 12)),zh_ 14 10 13 false,zw_ 6 14] .ret))
theorem Je :ak Tryz.prog (Tryz.f60.body.getD .skip)=some EZ:=by kernel_rfl
theorem tK (n lo hi:Int):aI Tryz.prog 60 [li n,li lo,li hi] (.c false [.raw (.bool (inR n lo hi))]):=by
 refine aY (fn:=Tryz.f60) (t:=6) (hc:=Je) (h:= ?_);unfold EZ;refine zb_ ?_;change AWP _ _ _ (st0 15 _);refine sS trivial ?_;cases h1:decide (lo≤n)<;>cases h2:decide (n≤hi)
 all_goals (have h3:decide (n≥lo)=decide (lo≤n):=rfl
            rw[h1]at h3
            repeat' (first|((with_reducible refine iC ?_);intro K hK)|((with_reducible refine hK _ ?_);clear hK K)|(with_reducible refine fC ?_ ?_)|((with_reducible refine gi ?_);first|(refine eX ?_ ?_;rfl)|(refine eY ?_ ?_;(rfl;refine gF ?_))|((with_reducible refine gS rfl ?_ ?_)<;>(intro hb hb';try(exfalso;omega))))|((with_reducible refine jg ?_);refine ss (aiX h1 (aiX h2 h3)) ?_)|refine nv ?_|(with_reducible (refine cS rfl ?_ ?_)<;>(intro hb hb';try(exfalso;omega)))|(exact GExpr.el _)|exact wG|exact jm))
 all_goals exact aS ⟨_,rfl,⟨by unfold inR;rw[h1,h2];rfl,trivial⟩⟩
def CJ :IC:=(zd_ [zz_ 1 (.box (.t 0)),zj_ 2 false] (zd_ [zt_ 4 3 1,zs_ 5 1 4,zf_ 6 false 5,zw_ 3 6] (.seq (zd_ [zt_ 7 0 1,zs_ 8 1 7] (.block 0 (zd_ [zm_ 10 .eql 8 1,zw_ 9 10] (.cond (.t 9) (zd_ [zw_ 11 3,zm_ 12 .eql 11 0,zw_ 13 12,zy_ 14 13 (.fad 2 (.t 1)),zy_ 15 13 (.load 1 false (.t 14)),zy_ 16 13 (.bin .eql (.t 15) (.k (.string ⟨#[]⟩))),zh_ 17 13 16 false,zw_ 18 17,zy_ 19 18 (.fad 1 (.t 1)),zy_ 20 18 (.load 1 false (.t 19)),zy_ 21 18 (.call 60 [(.t 20),(.k (.int .i64 0)),(.k (.int .i64 1000000000))]),zh_ 22 18 21 false,zw_ 2 22] .ret) (zd_ [zm_ 24 .eql 8 2,zw_ 23 24] (.cond (.t 23) (zd_ [zw_ 25 3,zm_ 26 .eql 25 0,zw_ 27 26,zy_ 28 27 (.fad 1 (.t 1)),zy_ 29 27 (.load 1 false (.t 28)),zy_ 30 27 (.bin .eql (.t 29) (.k (.int .i64 0))),zh_ 31 27 30 false,zw_ 32 31,zy_ 33 32 (.fad 2 (.t 1)),zy_ 34 32 (.load 1 false (.t 33)),zy_ 35 32 (.call 184 [(.t 34)]),zh_ 36 32 35 false,zw_ 2 36] .ret) (zd_ [zm_ 38 .eql 8 3,zw_ 37 38] (.cond (.t 37) (zd_ [zw_ 39 3,zm_ 40 .eql 39 0,zw_ 41 40,zy_ 42 41 (.fad 1 (.t 1)),zy_ 43 41 (.load 1 false (.t 42)),zy_ 44 41 (.bin .eql (.t 43) (.k (.int .i64 0))),zh_ 45 41 44 false,zw_ 46 45,zy_ 47 46 (.fad 2 (.t 1)),zy_ 48 46 (.load 1 false (.t 47)),zy_ 49 46 (.call 133 [(.t 48)]),zh_ 50 46 49 false,zw_ 2 50] .ret) (zd_ [zm_ 52 .eql 8 4,zw_ 51 52] (.cond (.t 51) (zd_ [zt_ 53 1 1,zs_ 54 1 53,zm_ 55 .eql 54 0,zw_ 56 55,zy_ 57 56 (.fad 2 (.t 1)),zy_ 58 56 (.load 1 false (.t 57)),zy_ 59 56 (.bin .eql (.t 58) (.k (.string ⟨#[]⟩))),zh_ 60 56 59 false,zw_ 61 60,zv_ 62 61 3,zy_ 63 61 (.bin .leq (.t 62) (.k (.int .i64 8))),zh_ 64 61 63 false,zw_ 2 64] .ret) (zd_ [zm_ 66 .eql 8 5,zw_ 65 66] (.cond (.t 65) (zd_ [zt_ 67 1 1,zs_ 68 1 67,zm_ 69 .eql 68 0,zw_ 70 69,zv_ 71 70 3,zy_ 72 70 (.fad 2 (.t 1)),zy_ 73 70 (.load 1 false (.t 72)),zy_ 74 70 (.call 220 [(.t 73)]),zy_ 75 70 (.bin .eql (.t 71) (.t 74)),zh_ 76 70 75 false,zw_ 2 76] .ret) (zd_ [zm_ 78 .eql 8 6,zw_ 77 78] (.cond (.t 77) (zd_ [zt_ 79 2 1,zs_ 80 1 79,zz_ 81 (.bin .eql (.t 80) (.k (.string ⟨#[]⟩))),zw_ 82 81,zv_ 83 82 3,zy_ 84 82 (.bin .eql (.t 83) (.k (.int .i64 2))),zh_ 85 82 84 false,zw_ 86 85,zy_ 87 86 (.fad 1 (.t 1)),zy_ 88 86 (.load 1 false (.t 87)),zy_ 89 86 (.call 60 [(.t 88),(.k (.int .i64 1)),(.k (.int .i64 5))]),zh_ 90 86 89 false,zw_ 2 90] .ret) (.seq (zd_ [zm_ 92 .eql 8 7,zw_ 91 92] (.cond (.t 91) .skip (.reg false [zm_ 93 .eql 8 9,zw_ 91 93]))) (.cond (.t 91) (zd_ [zt_ 94 1 1,zs_ 95 1 94,zm_ 96 .eql 95 0,zw_ 97 96,zv_ 98 97 3,zy_ 99 97 (.bin .eql (.t 98) (.k (.int .i64 2))),zh_ 100 97 99 false,zw_ 101 100,zy_ 102 101 (.fad 2 (.t 1)),zy_ 103 101 (.load 1 false (.t 102)),zy_ 104 101 (.call 133 [(.t 103)]),zh_ 105 101 104 false,zw_ 2 105] .ret) (zd_ [zm_ 107 .eql 8 8,zw_ 106 107] (.cond (.t 106) (zd_ [zt_ 108 1 1,zs_ 109 1 108,zm_ 110 .eql 109 0,zw_ 111 110,zy_ 112 111 (.fad 2 (.t 1)),zy_ 113 111 (.load 1 false (.t 112)),zy_ 114 111 (.bin .eql (.t 113) (.k (.string ⟨#[]⟩))),zh_ 115 111 114 false,zw_ 116 115,zv_ 117 116 3,zy_ 118 116 (.bin .eql (.t 117) (.k (.int .i64 3))),zh_ 119 116 118 false,zw_ 2 119] .ret) .skip)))))))))))))))))) (zd_ [zj_ 2 false] .ret))))
theorem FY :ak Tryz.prog (Tryz.f212.body.getD .skip)=some CJ:=by kernel_rfl
theorem Oq(e:GExpr)(hw:e.toD.wt≤1048576):aI Tryz.prog 212 [e.toD] (.c false [.raw (.bool (jw e))]):=by
 refine aY (fn:=Tryz.f212) (t:=2) (hc:=FY) (h:= ?_);unfold CJ;refine zb_ ?_;change AWP _ _ _ (st0 120 _);refine sS trivial ?_;have htx:e.text.size≤1048576:=by rw[GExpr.ny e]at hw;omega
 have c1:=tK e.n 0 1000000000;have c2:=tK e.n 1 5;have c3:=xR e.text htx;have c4:=og e.text htx;have c5:=Dn e.text;have kk:∀j:Int,(e.kind==j)=decide (e.kind=j):=fun j=>by by_cases h:e.kind=j<;>simp[h]
 have l0:=aiS e.args.length;have l2:((e.args.length:Int)==2)=(e.args.length==2):=air e.args.length 2;have l3:((e.args.length:Int)==3)=(e.args.length==3):=air e.args.length 3;have tn:(e.text.toList==(⟨#[]⟩:ByteArray).toList)=uX e.text:=rfl;have l8:decide ((e.args.length:Int)≤8)=decide (e.args.length≤8):=by by_cases h:e.args.length≤8<;>simp[h]<;>omega
 have la:((e.args.length:Int)==eG e.text.toList)=((e.args.length:Int)==eG e.text.toList):=rfl;by_cases k1:e.kind=1
 ·have e1:jw e=(e.args.length==0 && uX e.text && inR e.n 0 1000000000):=by unfold jw;simp[k1]
  rw[e1];have f1:(e.kind==1)=true:=by rw[kk];exact decide_eq_true (by omega)
  have f2:(e.kind==2)=false:=za_ (by omega);have f3:(e.kind==3)=false:=za_ (by omega);have f4:(e.kind==4)=false:=za_ (by omega);have f5:(e.kind==5)=false:=za_ (by omega);have f6:(e.kind==6)=false:=za_ (by omega);have f7:(e.kind==7)=false:=za_ (by omega);have f8:(e.kind==8)=false:=za_ (by omega);have f9:(e.kind==9)=false:=za_ (by omega);cases q0:(e.args.length==0)
  all_goals cases q1:uX e.text
  all_goals rw[q0]at l0
  all_goals rw[q1]at tn
  all_goals(repeat' (first|((with_reducible refine iC ?_);intro K hK)|((with_reducible refine hK _ ?_);clear hK K)|(with_reducible refine fC ?_ ?_)|((with_reducible refine gi ?_);first|(refine eX ?_ ?_;rfl)|(refine eY ?_ ?_;(rfl;refine gF ?_)))|((with_reducible refine oK ?_);first|refine bT (hc:=c1) (h:= ?_)|refine bT (hc:=c2) (h:= ?_)|refine bT (hc:=c3) (h:= ?_)|refine bT (hc:=c4) (h:= ?_)|refine bT (hc:=c5) (h:= ?_))|((with_reducible refine jg ?_);refine ss (aiX f1 (aiX f2 (aiX f3 (aiX f4 (aiX f5 (aiX f6 (aiX f7 (aiX f8 (aiX f9 (aiX l0 tn)))))))))) ?_)|refine nv ?_|(exact GExpr.el _)|exact wG|exact jm))
  all_goals exact aS ⟨_,rfl,⟨by simp[gX],trivial⟩⟩
 by_cases k2:e.kind=2
 ·have e1:jw e=(e.args.length==0 && e.n==0 && PU e.text):=by unfold jw;simp[k2,k1]
  rw[e1];have f1:(e.kind==1)=false:=za_ (by omega);have f2:(e.kind==2)=true:=by rw[kk];exact decide_eq_true (by omega)
  have f3:(e.kind==3)=false:=za_ (by omega);have f4:(e.kind==4)=false:=za_ (by omega);have f5:(e.kind==5)=false:=za_ (by omega);have f6:(e.kind==6)=false:=za_ (by omega);have f7:(e.kind==7)=false:=za_ (by omega);have f8:(e.kind==8)=false:=za_ (by omega);have f9:(e.kind==9)=false:=za_ (by omega);cases q0:(e.args.length==0)
  all_goals cases q1:(e.n==0)
  all_goals rw[q0]at l0
  all_goals(repeat' (first|((with_reducible refine iC ?_);intro K hK)|((with_reducible refine hK _ ?_);clear hK K)|(with_reducible refine fC ?_ ?_)|((with_reducible refine gi ?_);first|(refine eX ?_ ?_;rfl)|(refine eY ?_ ?_;(rfl;refine gF ?_)))|((with_reducible refine oK ?_);first|refine bT (hc:=c1) (h:= ?_)|refine bT (hc:=c2) (h:= ?_)|refine bT (hc:=c3) (h:= ?_)|refine bT (hc:=c4) (h:= ?_)|refine bT (hc:=c5) (h:= ?_))|((with_reducible refine jg ?_);refine ss (aiX f1 (aiX f2 (aiX f3 (aiX f4 (aiX f5 (aiX f6 (aiX f7 (aiX f8 (aiX f9 (aiX l0 q1)))))))))) ?_)|refine nv ?_|(exact GExpr.el _)|exact wG|exact jm))
  all_goals exact aS ⟨_,rfl,⟨by simp[gX],trivial⟩⟩
 by_cases k3:e.kind=3
 ·have e1:jw e=(e.args.length==0 && e.n==0 && nmB e.text):=by unfold jw;simp[k3,k1,k2]
  rw[e1];have f1:(e.kind==1)=false:=za_ (by omega);have f2:(e.kind==2)=false:=za_ (by omega);have f3:(e.kind==3)=true:=by rw[kk];exact decide_eq_true (by omega)
  have f4:(e.kind==4)=false:=za_ (by omega);have f5:(e.kind==5)=false:=za_ (by omega);have f6:(e.kind==6)=false:=za_ (by omega);have f7:(e.kind==7)=false:=za_ (by omega);have f8:(e.kind==8)=false:=za_ (by omega);have f9:(e.kind==9)=false:=za_ (by omega);cases q0:(e.args.length==0)
  all_goals cases q1:(e.n==0)
  all_goals rw[q0]at l0
  all_goals(repeat' (first|((with_reducible refine iC ?_);intro K hK)|((with_reducible refine hK _ ?_);clear hK K)|(with_reducible refine fC ?_ ?_)|((with_reducible refine gi ?_);first|(refine eX ?_ ?_;rfl)|(refine eY ?_ ?_;(rfl;refine gF ?_)))|((with_reducible refine oK ?_);first|refine bT (hc:=c1) (h:= ?_)|refine bT (hc:=c2) (h:= ?_)|refine bT (hc:=c3) (h:= ?_)|refine bT (hc:=c4) (h:= ?_)|refine bT (hc:=c5) (h:= ?_))|((with_reducible refine jg ?_);refine ss (aiX f1 (aiX f2 (aiX f3 (aiX f4 (aiX f5 (aiX f6 (aiX f7 (aiX f8 (aiX f9 (aiX l0 q1)))))))))) ?_)|refine nv ?_|(exact GExpr.el _)|exact wG|exact jm))
  all_goals exact aS ⟨_,rfl,⟨by simp[gX],trivial⟩⟩
 by_cases k4:e.kind=4
 ·have e1:jw e=(e.n==0 && uX e.text && decide (e.args.length≤8)):=by unfold jw;simp[k4,k1,k2,k3]
  rw[e1];have f1:(e.kind==1)=false:=za_ (by omega);have f2:(e.kind==2)=false:=za_ (by omega);have f3:(e.kind==3)=false:=za_ (by omega);have f4:(e.kind==4)=true:=by rw[kk];exact decide_eq_true (by omega)
  have f5:(e.kind==5)=false:=za_ (by omega);have f6:(e.kind==6)=false:=za_ (by omega);have f7:(e.kind==7)=false:=za_ (by omega);have f8:(e.kind==8)=false:=za_ (by omega);have f9:(e.kind==9)=false:=za_ (by omega);cases q0:(e.n==0)
  all_goals cases q1:uX e.text
  all_goals cases q2:decide (e.args.length≤8)
  all_goals rw[q1]at tn
  all_goals rw[q2]at l8
  all_goals(repeat' (first|((with_reducible refine iC ?_);intro K hK)|((with_reducible refine hK _ ?_);clear hK K)|(with_reducible refine fC ?_ ?_)|((with_reducible refine gi ?_);first|(refine eX ?_ ?_;rfl)|(refine eY ?_ ?_;(rfl;refine gF ?_)))|((with_reducible refine oK ?_);first|refine bT (hc:=c1) (h:= ?_)|refine bT (hc:=c2) (h:= ?_)|refine bT (hc:=c3) (h:= ?_)|refine bT (hc:=c4) (h:= ?_)|refine bT (hc:=c5) (h:= ?_))|((with_reducible refine jg ?_);refine ss (aiX f1 (aiX f2 (aiX f3 (aiX f4 (aiX f5 (aiX f6 (aiX f7 (aiX f8 (aiX f9 (aiX q0 (aiX tn l8))))))))))) ?_)|refine nv ?_|(exact GExpr.el _)|exact wG|exact jm))
  all_goals exact aS ⟨_,rfl,⟨by simp[gX],trivial⟩⟩
 by_cases k5:e.kind=5
 ·have e1:jw e=(e.n==0 && (e.args.length:Int)==eG e.text.toList):=by unfold jw;simp[k5,k1,k2,k3,k4]
  rw[e1];have f1:(e.kind==1)=false:=za_ (by omega);have f2:(e.kind==2)=false:=za_ (by omega);have f3:(e.kind==3)=false:=za_ (by omega);have f4:(e.kind==4)=false:=za_ (by omega);have f5:(e.kind==5)=true:=by rw[kk];exact decide_eq_true (by omega)
  have f6:(e.kind==6)=false:=za_ (by omega);have f7:(e.kind==7)=false:=za_ (by omega);have f8:(e.kind==8)=false:=za_ (by omega);have f9:(e.kind==9)=false:=za_ (by omega);cases q0:(e.n==0)
  all_goals cases q1:((e.args.length:Int)==eG e.text.toList)
  all_goals(repeat' (first|((with_reducible refine iC ?_);intro K hK)|((with_reducible refine hK _ ?_);clear hK K)|(with_reducible refine fC ?_ ?_)|((with_reducible refine gi ?_);first|(refine eX ?_ ?_;rfl)|(refine eY ?_ ?_;(rfl;refine gF ?_)))|((with_reducible refine oK ?_);first|refine bT (hc:=c1) (h:= ?_)|refine bT (hc:=c2) (h:= ?_)|refine bT (hc:=c3) (h:= ?_)|refine bT (hc:=c4) (h:= ?_)|refine bT (hc:=c5) (h:= ?_))|((with_reducible refine jg ?_);refine ss (aiX f1 (aiX f2 (aiX f3 (aiX f4 (aiX f5 (aiX f6 (aiX f7 (aiX f8 (aiX f9 (aiX q0 q1)))))))))) ?_)|refine nv ?_|(exact GExpr.el _)|exact wG|exact jm))
  all_goals exact aS ⟨_,rfl,⟨by simp[gX],trivial⟩⟩
 by_cases k6:e.kind=6
 ·have e1:jw e=(uX e.text && e.args.length==2 && inR e.n 1 5):=by unfold jw;simp[k6,k1,k2,k3,k4,k5]
  rw[e1];have f1:(e.kind==1)=false:=za_ (by omega);have f2:(e.kind==2)=false:=za_ (by omega);have f3:(e.kind==3)=false:=za_ (by omega);have f4:(e.kind==4)=false:=za_ (by omega);have f5:(e.kind==5)=false:=za_ (by omega);have f6:(e.kind==6)=true:=by rw[kk];exact decide_eq_true (by omega)
  have f7:(e.kind==7)=false:=za_ (by omega);have f8:(e.kind==8)=false:=za_ (by omega);have f9:(e.kind==9)=false:=za_ (by omega);cases q0:uX e.text
  all_goals cases q1:(e.args.length==2)
  all_goals rw[q0]at tn
  all_goals rw[q1]at l2
  all_goals(repeat' (first|((with_reducible refine iC ?_);intro K hK)|((with_reducible refine hK _ ?_);clear hK K)|(with_reducible refine fC ?_ ?_)|((with_reducible refine gi ?_);first|(refine eX ?_ ?_;rfl)|(refine eY ?_ ?_;(rfl;refine gF ?_)))|((with_reducible refine oK ?_);first|refine bT (hc:=c1) (h:= ?_)|refine bT (hc:=c2) (h:= ?_)|refine bT (hc:=c3) (h:= ?_)|refine bT (hc:=c4) (h:= ?_)|refine bT (hc:=c5) (h:= ?_))|((with_reducible refine jg ?_);refine ss (aiX f1 (aiX f2 (aiX f3 (aiX f4 (aiX f5 (aiX f6 (aiX f7 (aiX f8 (aiX f9 (aiX tn l2)))))))))) ?_)|refine nv ?_|(exact GExpr.el _)|exact wG|exact jm))
  all_goals exact aS ⟨_,rfl,⟨by simp[gX],trivial⟩⟩
 by_cases k7:e.kind=7
 ·have e1:jw e=(e.n==0 && e.args.length==2 && nmB e.text):=by unfold jw;simp[k7,k1,k2,k3,k4,k5,k6]
  rw[e1];have f1:(e.kind==1)=false:=za_ (by omega);have f2:(e.kind==2)=false:=za_ (by omega);have f3:(e.kind==3)=false:=za_ (by omega);have f4:(e.kind==4)=false:=za_ (by omega);have f5:(e.kind==5)=false:=za_ (by omega);have f6:(e.kind==6)=false:=za_ (by omega);have f7:(e.kind==7)=true:=by rw[kk];exact decide_eq_true (by omega)
  have f8:(e.kind==8)=false:=za_ (by omega);have f9:(e.kind==9)=false:=za_ (by omega);cases q0:(e.n==0)
  all_goals cases q1:(e.args.length==2)
  all_goals rw[q1]at l2
  all_goals(repeat' (first|((with_reducible refine iC ?_);intro K hK)|((with_reducible refine hK _ ?_);clear hK K)|(with_reducible refine fC ?_ ?_)|((with_reducible refine gi ?_);first|(refine eX ?_ ?_;rfl)|(refine eY ?_ ?_;(rfl;refine gF ?_)))|((with_reducible refine oK ?_);first|refine bT (hc:=c1) (h:= ?_)|refine bT (hc:=c2) (h:= ?_)|refine bT (hc:=c3) (h:= ?_)|refine bT (hc:=c4) (h:= ?_)|refine bT (hc:=c5) (h:= ?_))|((with_reducible refine jg ?_);refine ss (aiX f1 (aiX f2 (aiX f3 (aiX f4 (aiX f5 (aiX f6 (aiX f7 (aiX f8 (aiX f9 (aiX q0 l2)))))))))) ?_)|refine nv ?_|(exact GExpr.el _)|exact wG|exact jm))
  all_goals exact aS ⟨_,rfl,⟨by simp[gX],trivial⟩⟩
 by_cases k8:e.kind=8
 ·have e1:jw e=(e.n==0 && uX e.text && e.args.length==3):=by unfold jw;simp[k8,k1,k2,k3,k4,k5,k6,k7]
  rw[e1];have f1:(e.kind==1)=false:=za_ (by omega);have f2:(e.kind==2)=false:=za_ (by omega);have f3:(e.kind==3)=false:=za_ (by omega);have f4:(e.kind==4)=false:=za_ (by omega);have f5:(e.kind==5)=false:=za_ (by omega);have f6:(e.kind==6)=false:=za_ (by omega);have f7:(e.kind==7)=false:=za_ (by omega);have f8:(e.kind==8)=true:=by rw[kk];exact decide_eq_true (by omega)
  have f9:(e.kind==9)=false:=za_ (by omega);cases q0:(e.n==0)
  all_goals cases q1:uX e.text
  all_goals cases q2:(e.args.length==3)
  all_goals rw[q1]at tn
  all_goals rw[q2]at l3
  all_goals(repeat' (first|((with_reducible refine iC ?_);intro K hK)|((with_reducible refine hK _ ?_);clear hK K)|(with_reducible refine fC ?_ ?_)|((with_reducible refine gi ?_);first|(refine eX ?_ ?_;rfl)|(refine eY ?_ ?_;(rfl;refine gF ?_)))|((with_reducible refine oK ?_);first|refine bT (hc:=c1) (h:= ?_)|refine bT (hc:=c2) (h:= ?_)|refine bT (hc:=c3) (h:= ?_)|refine bT (hc:=c4) (h:= ?_)|refine bT (hc:=c5) (h:= ?_))|((with_reducible refine jg ?_);refine ss (aiX f1 (aiX f2 (aiX f3 (aiX f4 (aiX f5 (aiX f6 (aiX f7 (aiX f8 (aiX f9 (aiX q0 (aiX tn l3))))))))))) ?_)|refine nv ?_|(exact GExpr.el _)|exact wG|exact jm))
  all_goals exact aS ⟨_,rfl,⟨by simp[gX],trivial⟩⟩
 by_cases k9:e.kind=9
 ·have e1:jw e=(e.n==0 && e.args.length==2 && nmB e.text):=by unfold jw;simp[k9,k1,k2,k3,k4,k5,k6,k7,k8]
  rw[e1];have f1:(e.kind==1)=false:=za_ (by omega);have f2:(e.kind==2)=false:=za_ (by omega);have f3:(e.kind==3)=false:=za_ (by omega);have f4:(e.kind==4)=false:=za_ (by omega);have f5:(e.kind==5)=false:=za_ (by omega);have f6:(e.kind==6)=false:=za_ (by omega);have f7:(e.kind==7)=false:=za_ (by omega);have f8:(e.kind==8)=false:=za_ (by omega);have f9:(e.kind==9)=true:=by rw[kk];exact decide_eq_true (by omega)
  cases q0:(e.n==0)
  all_goals cases q1:(e.args.length==2)
  all_goals rw[q1]at l2
  all_goals(repeat' (first|((with_reducible refine iC ?_);intro K hK)|((with_reducible refine hK _ ?_);clear hK K)|(with_reducible refine fC ?_ ?_)|((with_reducible refine gi ?_);first|(refine eX ?_ ?_;rfl)|(refine eY ?_ ?_;(rfl;refine gF ?_)))|((with_reducible refine oK ?_);first|refine bT (hc:=c1) (h:= ?_)|refine bT (hc:=c2) (h:= ?_)|refine bT (hc:=c3) (h:= ?_)|refine bT (hc:=c4) (h:= ?_)|refine bT (hc:=c5) (h:= ?_))|((with_reducible refine jg ?_);refine ss (aiX f1 (aiX f2 (aiX f3 (aiX f4 (aiX f5 (aiX f6 (aiX f7 (aiX f8 (aiX f9 (aiX q0 l2)))))))))) ?_)|refine nv ?_|(exact GExpr.el _)|exact wG|exact jm))
  all_goals exact aS ⟨_,rfl,⟨by simp[gX],trivial⟩⟩
 have e1:jw e=false:=by unfold jw;simp[k1,k2,k3,k4,k5,k6,k7,k8,k9]
 rw[e1];have f1:(e.kind==1)=false:=za_ (by omega);have f2:(e.kind==2)=false:=za_ (by omega);have f3:(e.kind==3)=false:=za_ (by omega);have f4:(e.kind==4)=false:=za_ (by omega);have f5:(e.kind==5)=false:=za_ (by omega);have f6:(e.kind==6)=false:=za_ (by omega);have f7:(e.kind==7)=false:=za_ (by omega);have f8:(e.kind==8)=false:=za_ (by omega);have f9:(e.kind==9)=false:=za_ (by omega)
 all_goals(repeat' (first|((with_reducible refine iC ?_);intro K hK)|((with_reducible refine hK _ ?_);clear hK K)|(with_reducible refine fC ?_ ?_)|((with_reducible refine gi ?_);first|(refine eX ?_ ?_;rfl)|(refine eY ?_ ?_;(rfl;refine gF ?_)))|((with_reducible refine oK ?_);first|refine bT (hc:=c1) (h:= ?_)|refine bT (hc:=c2) (h:= ?_)|refine bT (hc:=c3) (h:= ?_)|refine bT (hc:=c4) (h:= ?_)|refine bT (hc:=c5) (h:= ?_))|((with_reducible refine jg ?_);refine ss (aiX f1 (aiX f2 (aiX f3 (aiX f4 (aiX f5 (aiX f6 (aiX f7 (aiX f8 f9)))))))) ?_)|refine nv ?_|(exact GExpr.el _)|exact wG|exact jm))
 all_goals exact aS ⟨_,rfl,⟨by simp[gX],trivial⟩⟩
def E8 :IC:=(zd_ [zz_ 1 (.box (.t 0)),zj_ 2 false] (.seq (zd_ [zk_ 3 0] (.block 0 (.loop (.seq (zd_ [zw_ 4 3,zt_ 5 3 1,zs_ 6 1 5,zf_ 7 false 6,zl_ 8 .lss 4 7] (.cond (.t 8) .skip (.exit 0))) (.seq (.block 1 (zd_ [zt_ 11 3 1,zs_ 12 1 11,zw_ 13 3,ze_ 14 4 12 13,zr_ 15 4 14,zq_ 16 181 15,zz_ 17 (.not (.t 16))] (.cond (.t 17) (zd_ [zj_ 2 false] .ret) .skip))) (.reg false [zw_ 9 3,zm_ 10 .add 9 1,zw_ 3 10])))))) (zd_ [zr_ 18 4 1,zq_ 19 212 18,zw_ 2 19] .ret)))
theorem Jj :ak Tryz.prog (Tryz.f181.body.getD .skip)=some E8:=by kernel_rfl
def jr(e:GExpr):Prop:=aI Tryz.prog 181 [e.toD] (.c false [.raw (.bool (e.allN))])
theorem Ut(e:GExpr)(hw:e.toD.wt≤1048576)(hI:∀y∈e.args,jr y):jr e:=by
 unfold jr;have hlen:=Gi e;refine aY (fn:=Tryz.f181) (t:=2) (hc:=Jj) (h:= ?_);unfold E8;refine zb_ ?_;change AWP _ _ _ (st0 20 _);refine sS trivial ?_
 repeat' (first|(refine rg_ ?_;intro K hK)|(refine hq_ ?_;clear hK K)|refine ca_ ?_ ?_|refine sz_ trivial ?_|refine nv ?_|(refine c2_ ?_ ?_<;>(intro hb hb';try(exfalso;omega)))|(exact GExpr.el _)|exact bq_|fail)
 refine aQ (X:=Nat) (fun i=> [.d,.k,.d,.v (.c false [.raw (.int .i64 ((i:Nat)))])]) (fun _=> []) (fun _ _=> [[.raw (.int .i64 e.kind),.raw (.int .i64 e.n),.raw (.string e.text),.sl false (e.args.map GExpr.toD)]]) (fun i=>i≤e.args.length∧(e.args.take i).all GExpr.allN=true) (fun i=>e.args.length - i) 0 ⟨g_ _,rfl⟩ ?_ ?_
 ·simp[aG,aU,aC,aF,AV.fits,AC.fits,FB,aB]
 ·rintro i ⟨hi,hall⟩;simp only[FB,aB];by_cases hlt:i<e.args.length
  ·have hT:decide ((i:Int)<(e.args.length:Int))=true:=decide_eq_true (by omega);have hw1:IntKind.i64.wrap ((i:Int)+1)=((i+1:Nat):Int):=dJ (by omega);have hix:=bU GExpr.toD e.args hlt;have hmem:e.args[i]∈e.args:=d_ hlt;have htk:e.args.take (i+1)=e.args.take i++ [e.args[i]]:=a_ hlt;have hI1:=hI _ hmem;unfold jr at hI1;cases hb:(e.args[i]).allN
   ·rw[hb]at hI1
    repeat' (first|(refine rg_ ?_;intro K hK)|(refine hq_ ?_;clear hK K)|refine ca_ ?_ ?_|(refine cg_ ?_;first|refine cT_ hI1 ?_)|refine sz_ (a3_ hT hw1 hix) ?_|refine nv ?_|(refine c2_ ?_ ?_<;>(intro hb hb';try(exfalso;omega)))|(exact GExpr.el _)|exact bq_|fail)
    have hn:e.allN=false:=by
     rw[GR,i_.2 ⟨_,hmem,by rw[hb];simp⟩];rfl
    exact aS ⟨_,rfl,⟨by simp[gX,hn],trivial⟩⟩
   ·rw[hb]at hI1
    repeat' (first|(refine rg_ ?_;intro K hK)|(refine hq_ ?_;clear hK K)|refine ca_ ?_ ?_|(refine cg_ ?_;first|refine cT_ hI1 ?_)|refine sz_ (a3_ hT hw1 hix) ?_|refine nv ?_|(refine c2_ ?_ ?_<;>(intro hb hb';try(exfalso;omega)))|(exact GExpr.el _)|exact bq_|fail)
    refine aP (i+1) ?_ ⟨by omega,by rw[htk,j_,hall];simp[hb]⟩ (show e.args.length - (i+1)<e.args.length - i by omega);simp[aG,aU,aC,aF,AV.fits,AC.fits,FB,aB]
  ·have hT:decide ((i:Int)<(e.args.length:Int))=false:=decide_eq_false (by omega);have hall':e.args.all GExpr.allN=true:=by
    have:e.args.take i=e.args:=b_ (by omega);rw[← this];exact hall
   have hnd:=Oq e hw
   repeat' (first|(refine rg_ ?_;intro K hK)|(refine hq_ ?_;clear hK K)|refine ca_ ?_ ?_|(refine cg_ ?_;first|refine cT_ hnd ?_)|refine sz_ hT ?_|refine nv ?_|(refine c2_ ?_ ?_<;>(intro hb hb';try(exfalso;omega)))|(exact GExpr.el _)|exact bq_|fail)
   have hn:e.allN=jw e:=by rw[GR,hall'];rfl
   exact aS ⟨_,rfl,⟨by simp[gX,hn],trivial⟩⟩
theorem Pz :∀(n:Nat) (e:GExpr),e.toD.wt<n→e.toD.wt≤1048576→jr e:=by
 intro n
 induction n with
 |zero=>intro e h;omega
 |succ n ih=>intro e h hw;exact Ut e hw (fun y hy=>ih y (by have:=sO hy;omega) (by have:=sO hy;omega))
theorem Us(e:GExpr)(hw:e.toD.wt≤1048576):jr e:=Pz _ e (e_ _) hw
def Yz :IC:=(zd_ [zz_ 2 (.box (.t 0)),zk_ 4 0] (zd_ [zw_ 6 1,zm_ 7 .sub 6 1,zw_ 1 7] (.seq (zd_ [zk_ 5 0] (.block 0 (.loop (.seq (zd_ [zw_ 8 5,zt_ 9 3 2,zs_ 10 1 9,zf_ 11 false 10,zl_ 12 .lss 8 11,zw_ 13 12,zv_ 14 13 1,zy_ 15 13 (.bin .geq (.t 14) (.k (.int .i64 0))),zh_ 16 13 15 false] (.cond (.t 16) .skip (.exit 0))) (.seq (.block 1 (.reg false [zt_ 19 3 2,zs_ 20 1 19,zw_ 21 5,ze_ 22 4 20 21,zr_ 23 4 22,zw_ 24 1,zp_ 25 179 23 24,zw_ 1 25])) (.reg false [zw_ 17 5,zm_ 18 .add 17 1,zw_ 5 18])))))) (zd_ [zw_ 26 1,zw_ 4 26] .ret))))
theorem VR :ak Tryz.prog (Tryz.f179.body.getD .skip)=some Yz:=by kernel_rfl
def qZ(e:GExpr):Prop:=∀n:Int,0≤n→n≤1048576→aI Tryz.prog 179 [e.toD,li n] (.c false [.raw (.int .i64 (e.left n))])
theorem afI(e:GExpr)(hw:e.toD.wt≤1048576)(hI:∀y∈e.args,qZ y):qZ e:=by
 unfold qZ;intro n hn hn2;have hws:IntKind.i64.wrap (n - 1)=n - 1:=jf (by omega) (by omega);have hlen:=Gi e;refine aY (fn:=Tryz.f179) (t:=4) (hc:=VR) (h:= ?_);unfold Yz;refine zb_ ?_;change AWP _ _ _ (st0 27 _);refine sS trivial ?_
 repeat' (first|(refine rg_ ?_;intro K hK)|(refine hq_ ?_;clear hK K)|refine ca_ ?_ ?_|refine gq_ ?_|(refine c2_ ?_ ?_<;>(intro hb hb';try(exfalso;omega)))|refine sz_ trivial ?_|refine nv ?_|(exact GExpr.el _)|exact bq_|fail)
 have h00:=GExpr.vT e.args (n - 1) (by omega);refine aQ (X:=Nat) (fun i=> [.d,.v (.c false [.raw (.int .i64 (GExpr.lefts (e.args.take i) (n - 1)))]),.k,.d,.d,.v (.c false [.raw (.int .i64 ((i:Nat)))])]) (fun _=> []) (fun _ _=> [[.raw (.int .i64 e.kind),.raw (.int .i64 e.n),.raw (.string e.text),.sl false (e.args.map GExpr.toD)]]) (fun i=>i≤e.args.length) (fun i=>e.args.length - i) 0 (g_ _) ?_ ?_
 ·simp[aG,aU,aC,aF,AV.fits,AC.fits,FB,aB,GExpr.lefts]
 ·intro i hi;simp only[FB,aB];have h0:=GExpr.vT (e.args.take i) (n - 1) (by omega);have hv:=afJ e n;by_cases hlt:i<e.args.length
  ·have hT:decide ((i:Int)<(e.args.length:Int))=true:=decide_eq_true (by omega);have hw1:IntKind.i64.wrap ((i:Int)+1)=((i+1:Nat):Int):=dJ (by omega);have hix:=bU GExpr.toD e.args hlt;have hmem:e.args[i]∈e.args:=d_ hlt;have htk:e.args.take (i+1)=e.args.take i++ [e.args[i]]:=a_ hlt;have hI1:=hI _ hmem;unfold qZ at hI1;have happ:=LM (e.args.take i) e.args[i] (n - 1);rw[← htk]at happ;cases hb:decide (GExpr.lefts (e.args.take i) (n - 1)≥0)
   ·have hneg:GExpr.lefts (e.args.take i) (n - 1)<0:=by have:=of_decide_eq_false hb;omega
    have hall:GExpr.lefts e.args (n - 1)=GExpr.lefts (e.args.take i) (n - 1):=by
     have e1:e.args=e.args.take i++e.args.drop i:=(h_ i e.args).symm;have e2:∀(a b:List GExpr) (m:Int),GExpr.lefts a m<0→GExpr.lefts (a++b) m=GExpr.lefts a m:=by
      intro a
      induction a with
      |nil=>intro b m hm;simp only[GExpr.lefts]at hm;rw[List.nil_append,LK b hm];simp[GExpr.lefts]
      | cons x a ih=>
        intro b m hm;simp only[c_,GExpr.lefts]at hm⊢;split
        ·next h=>rw[if_pos h]at hm;exact ih b _ hm
        ·rfl
     rw[← e2 (e.args.take i) (e.args.drop i) (n - 1) hneg,h_]
    repeat' (first|(refine rg_ ?_;intro K hK)|(refine hq_ ?_;clear hK K)|refine ca_ ?_ ?_|refine gq_ ?_|(refine c2_ ?_ ?_<;>(intro hb hb';try(exfalso;omega)))|refine sz_ (a4_ hT hw1 hix hb) ?_|refine nv ?_|(exact GExpr.el _)|exact bq_|fail)
    exact aS ⟨_,rfl,⟨by simp[gX,hv,hall],trivial⟩⟩
   ·have hpos:GExpr.lefts (e.args.take i) (n - 1)≥0:=of_decide_eq_true hb;rw[if_pos hpos]at happ;have hI2:=hI1 _ hpos (by omega)
    repeat' (first|(refine rg_ ?_;intro K hK)|(refine hq_ ?_;clear hK K)|refine ca_ ?_ ?_|refine gq_ ?_|(refine c2_ ?_ ?_<;>(intro hb hb';try(exfalso;omega)))|(refine cg_ ?_;first|refine cT_ hI2 ?_)|refine sz_ (a4_ hT hw1 hix hb) ?_|refine nv ?_|(exact GExpr.el _)|exact bq_|fail)
    refine aP (i+1) ?_ (by omega) (show e.args.length - (i+1)<e.args.length - i by omega);simp[aG,aU,aC,aF,AV.fits,AC.fits,FB,aB,happ]
  ·have hT:decide ((i:Int)<(e.args.length:Int))=false:=decide_eq_false (by omega);have hall:e.args.take i=e.args:=b_ (by omega)
   repeat' (first|(refine rg_ ?_;intro K hK)|(refine hq_ ?_;clear hK K)|refine ca_ ?_ ?_|refine gq_ ?_|(refine c2_ ?_ ?_<;>(intro hb hb';try(exfalso;omega)))|refine sz_ hT ?_|refine nv ?_|(exact GExpr.el _)|exact bq_|fail)
   exact aS ⟨_,rfl,⟨by simp[gX,hv,hall],trivial⟩⟩
theorem ac7 :∀(n:Nat) (e:GExpr),e.toD.wt<n→e.toD.wt≤1048576→qZ e:=by
 intro n
 induction n with
 |zero=>intro e h;omega
 |succ n ih=>intro e h hw;exact afI e hw (fun y hy=>ih y (by have:=sO hy;omega) (by have:=sO hy;omega))
theorem afH(e:GExpr)(hw:e.toD.wt≤1048576):qZ e:=ac7 _ e (e_ _) hw
def EX :IC:=(zd_ [zk_ 4 0] (.seq (zd_ [zw_ 5 0,zw_ 6 1,zl_ 7 .gtr 5 6] (.cond (.t 7) (zd_ [zw_ 8 0,zw_ 4 8] .ret) .skip)) (zd_ [zw_ 9 1,zw_ 4 9] .ret)))
theorem I9 :ak Tryz.prog (Tryz.f211.body.getD .skip)=some EX:=by kernel_rfl
theorem QN(a b:Nat):aI Tryz.prog 211 [li (a:Int),li (b:Int)] (.c false [.raw (.int .i64 ((max a b:Nat):Int))]):=by
 refine aY (fn:=Tryz.f211) (t:=4) (hc:=I9) (h:= ?_);unfold EX;refine zb_ ?_;change AWP _ _ _ (st0 10 _);refine sS trivial ?_;by_cases h:(a:Int) >(b:Int)
 ·have hT:decide ((a:Int) >(b:Int))=true:=decide_eq_true h
  repeat' (first|(refine rg_ ?_;intro K hK)|(refine hq_ ?_;clear hK K)|refine ca_ ?_ ?_|refine sz_ hT ?_|refine nv ?_|(refine c2_ ?_ ?_<;>(intro hb hb';try(exfalso;omega)))|(exact GExpr.el _)|exact bq_|fail)
  exact aS ⟨_,rfl,⟨by simp[gX];omega,trivial⟩⟩
 ·have hT:decide ((a:Int) >(b:Int))=false:=decide_eq_false h
  repeat' (first|(refine rg_ ?_;intro K hK)|(refine hq_ ?_;clear hK K)|refine ca_ ?_ ?_|refine sz_ hT ?_|refine nv ?_|(refine c2_ ?_ ?_<;>(intro hb hb';try(exfalso;omega)))|(exact GExpr.el _)|exact bq_|fail)
  exact aS ⟨_,rfl,⟨by simp[gX];omega,trivial⟩⟩
def CO :IC:=(zd_ [zz_ 1 (.box (.t 0)),zk_ 2 0] (zd_ [zk_ 3 0] (.seq (zd_ [zk_ 4 0] (.block 0 (.loop (.seq (zd_ [zw_ 5 4,zt_ 6 3 1,zs_ 7 1 6,zf_ 8 false 7,zl_ 9 .lss 5 8] (.cond (.t 9) .skip (.exit 0))) (.seq (.block 1 (.reg false [zw_ 12 3,zt_ 13 3 1,zs_ 14 1 13,zw_ 15 4,ze_ 16 4 14 15,zr_ 17 4 16,zq_ 18 180 17,zp_ 19 211 12 18,zw_ 3 19])) (.reg false [zw_ 10 4,zm_ 11 .add 10 1,zw_ 4 11])))))) (zd_ [zw_ 20 3,zm_ 21 .add 20 1,zw_ 2 21] .ret))))
theorem FZ :ak Tryz.prog (Tryz.f180.body.getD .skip)=some CO:=by kernel_rfl
def iU(e:GExpr):Prop:=aI Tryz.prog 180 [e.toD] (.c false [.raw (.int .i64 ((e.nest:Nat):Int))])
theorem Ov(e:GExpr)(hw:e.toD.wt≤1048576)(hI:∀y∈e.args,iU y):iU e:=by
 unfold iU;have hlen:=Gi e;refine aY (fn:=Tryz.f180) (t:=2) (hc:=FZ) (h:= ?_);unfold CO;refine zb_ ?_;change AWP _ _ _ (st0 22 _);refine sS trivial ?_
 repeat' (first|(refine rg_ ?_;intro K hK)|(refine hq_ ?_;clear hK K)|refine ca_ ?_ ?_|refine sz_ trivial ?_|refine nv ?_|(refine c2_ ?_ ?_<;>(intro hb hb';try(exfalso;omega)))|(exact GExpr.el _)|exact bq_|fail)
 have hnl:=e.X6;refine aQ (X:=Nat) (fun i=> [.d,.k,.d,.v (.c false [.raw (.int .i64 (((GExpr.rM (e.args.take i):Nat):Int)))]),.v (.c false [.raw (.int .i64 ((i:Nat)))])]) (fun _=> []) (fun _ _=> [[.raw (.int .i64 e.kind),.raw (.int .i64 e.n),.raw (.string e.text),.sl false (e.args.map GExpr.toD)]]) (fun i=>i≤e.args.length) (fun i=>e.args.length - i) 0 (g_ _) ?_ ?_
 ·simp[aG,aU,aC,aF,AV.fits,AC.fits,FB,aB,GExpr.rM]
 ·intro i hi;simp only[FB,aB];by_cases hlt:i<e.args.length
  ·have hT:decide ((i:Int)<(e.args.length:Int))=true:=decide_eq_true (by omega);have hw1:IntKind.i64.wrap ((i:Int)+1)=((i+1:Nat):Int):=dJ (by omega);have hix:=bU GExpr.toD e.args hlt;have hmem:e.args[i]∈e.args:=d_ hlt;have htk:e.args.take (i+1)=e.args.take i++ [e.args[i]]:=a_ hlt;have hI1:=hI _ hmem;unfold iU at hI1;have happ:=LH (e.args.take i) e.args[i];rw[← htk]at happ;have hm:=QN (GExpr.rM (e.args.take i)) (e.args[i]).nest;rw[← happ]at hm
   repeat' (first|(refine rg_ ?_;intro K hK)|(refine hq_ ?_;clear hK K)|refine ca_ ?_ ?_|(refine cg_ ?_;first|refine cT_ hI1 ?_|refine cT_ hm ?_)|refine sz_ (a3_ hT hw1 hix) ?_|refine nv ?_|(refine c2_ ?_ ?_<;>(intro hb hb';try(exfalso;omega)))|(exact GExpr.el _)|exact bq_|fail)
   refine aP (i+1) ?_ (by omega) (show e.args.length - (i+1)<e.args.length - i by omega);simp[aG,aU,aC,aF,AV.fits,AC.fits,FB,aB]
  ·have hT:decide ((i:Int)<(e.args.length:Int))=false:=decide_eq_false (by omega);have hall:e.args.take i=e.args:=b_ (by omega);have hv:=afx e;have hws:IntKind.i64.wrap (((GExpr.rM e.args:Nat):Int)+1)=((GExpr.rM e.args+1:Nat):Int):=dJ (by omega);rw[hall]
   repeat' (first|(refine rg_ ?_;intro K hK)|(refine hq_ ?_;clear hK K)|refine ca_ ?_ ?_|refine sz_ (aiX hT hws) ?_|refine nv ?_|(refine c2_ ?_ ?_<;>(intro hb hb';try(exfalso;omega)))|(exact GExpr.el _)|exact bq_|fail)
   exact aS ⟨_,rfl,⟨by simp[gX,hv],trivial⟩⟩
theorem Kz :∀(n:Nat) (e:GExpr),e.toD.wt<n→e.toD.wt≤1048576→iU e:=by
 intro n
 induction n with
 |zero=>intro e h;omega
 |succ n ih=>intro e h hw;exact Ov e hw (fun y hy=>ih y (by have:=sO hy;omega) (by have:=sO hy;omega))
theorem Ou(e:GExpr)(hw:e.toD.wt≤1048576):iU e:=Kz _ e (e_ _) hw
def xX :IC:=(zd_ [zz_ 1 (.box (.t 0)),zj_ 2 false] (zd_ [zr_ 3 4 1,zn_ 4 179 3 40,zm_ 5 .geq 4 0,zw_ 6 5,zy_ 7 6 (.load 4 true (.t 1)),zy_ 8 6 (.call 180 [(.t 7)]),zy_ 9 6 (.bin .leq (.t 8) (.k (.int .i64 8))),zh_ 10 6 9 false,zw_ 11 10,zy_ 12 11 (.load 4 true (.t 1)),zy_ 13 11 (.call 181 [(.t 12)]),zh_ 14 11 13 false,zw_ 2 14] .ret))
theorem Cm :ak Tryz.prog (Tryz.f137.body.getD .skip)=some xX:=by kernel_rfl
theorem xk(e:GExpr)(hw:e.toD.wt≤1048576):aI Tryz.prog 137 [e.toD] (.c false [.raw (.bool (NP e))]):=by
 refine aY (fn:=Tryz.f137) (t:=2) (hc:=Cm) (h:= ?_);unfold xX;refine zb_ ?_;change AWP _ _ _ (st0 15 _);refine sS trivial ?_;have c1:=afH e hw 40 (by decide) (by decide);have c2:=Ou e hw;have c3:=Us e hw;unfold iU at c2;unfold jr at c3;have h1:=ac6 e;have h2:decide (((e.nest:Nat):Int)≤8)=decide (e.nest≤8):=by by_cases h:e.nest≤8<;>simp[h]<;>omega
 have hv:NP e=(decide (e.nodes≤40) && decide (e.nest≤8) && e.allN):=rfl;rw[hv];cases q1:decide (e.nodes≤40)<;>cases q2:decide (e.nest≤8)
 all_goals(rw[q1]at h1;rw[q2]at h2)
 all_goals(repeat' (first|((with_reducible refine iC ?_);intro K hK)|((with_reducible refine hK _ ?_);clear hK K)|(with_reducible refine fC ?_ ?_)|((with_reducible refine gi ?_);first|(refine eX ?_ ?_;rfl)|(refine eY ?_ ?_;(rfl;refine gF ?_)))|((with_reducible refine oK ?_);first|refine bT (hc:=c1) (h:= ?_)|refine bT (hc:=c2) (h:= ?_)|refine bT (hc:=c3) (h:= ?_))|((with_reducible refine jg ?_);refine ss (aiX h1 h2) ?_)|refine nv ?_|(exact GExpr.el _)|exact wG|exact jm))
 all_goals exact aS ⟨_,rfl,⟨by simp[gX],trivial⟩⟩
end Go.Proofs.YtfjmoicellpnhaaGreat
namespace Go.Proofs
open Go.Shelf
def Tryz.QW :Go.Shelf.Ren:=⟨fun|191=>99|189=>111|125=>124|257=>125|128=>152|129=>153|294=>154|295=>155|296=>156|297=>157|298=>158|299=>159|216=>160|300=>161|301=>162|328=>195|329=>190|330=>191|331=>196|332=>197|215=>198|343=>218|n=>n,fun|28=>26|0=>0|3=>3|46=>106|51=>155|53=>157|4=>4|183=>147|182=>146|131=>152|5=>5|9=>9|218=>182|222=>186|228=>201|229=>202|n=>n,fun|n=>n⟩
theorem Tryz.lays191 :Go.Proofs.Lays.n191 Tryz.prog Tryz.QW:={
 mixed:=by kernel_rfl
 f125:=Tryz.func124.trans (congrArg some (by kernel_rfl))
 f128:=Tryz.func152.trans (congrArg some (by kernel_rfl))
 f129:=Tryz.func153.trans (congrArg some (by kernel_rfl))
 f189:=Tryz.func111.trans (congrArg some (by kernel_rfl))
 f191:=Tryz.func99.trans (congrArg some (by kernel_rfl))
 f215:=Tryz.func198.trans (congrArg some (by kernel_rfl))
 f216:=Tryz.func160.trans (congrArg some (by kernel_rfl))
 f257:=Tryz.func125.trans (congrArg some (by kernel_rfl))
 f294:=Tryz.func154.trans (congrArg some (by kernel_rfl))
 f295:=Tryz.func155.trans (congrArg some (by kernel_rfl))
 f296:=Tryz.func156.trans (congrArg some (by kernel_rfl))
 f297:=Tryz.func157.trans (congrArg some (by kernel_rfl))
 f298:=Tryz.func158.trans (congrArg some (by kernel_rfl))
 f299:=Tryz.func159.trans (congrArg some (by kernel_rfl))
 f300:=Tryz.func161.trans (congrArg some (by kernel_rfl))
 f301:=Tryz.func162.trans (congrArg some (by kernel_rfl))
 f328:=Tryz.func195.trans (congrArg some (by kernel_rfl))
 f329:=Tryz.func190.trans (congrArg some (by kernel_rfl))
 f330:=Tryz.func191.trans (congrArg some (by kernel_rfl))
 f331:=Tryz.func196.trans (congrArg some (by kernel_rfl))
 f332:=Tryz.func197.trans (congrArg some (by kernel_rfl))
 f343:=Tryz.func218.trans (congrArg some (by kernel_rfl))
 t0:=Tryz.underlying0
 a0:=Tryz.isAgg0
 z0:=Tryz.sizeOf0
 v0:=Tryz.zeroValue0
 t3:=Tryz.underlying3
 a3:=Tryz.isAgg3
 z3:=Tryz.sizeOf3
 v3:=Tryz.zeroValue3
 t4:=Tryz.underlying4
 a4:=Tryz.isAgg4
 z4:=Tryz.sizeOf4
 v4:=Tryz.zeroValue4
 t5:=Tryz.underlying5
 a5:=Tryz.isAgg5
 z5:=Tryz.sizeOf5
 v5:=Tryz.zeroValue5
 t9:=Tryz.underlying9
 a9:=Tryz.isAgg9
 z9:=Tryz.sizeOf9
 v9:=Tryz.zeroValue9
 t28:=Tryz.underlying26
 a28:=Tryz.isAgg26
 z28:=Tryz.sizeOf26
 v28:=Tryz.zeroValue26
 t46:=Tryz.underlying106
 a46:=Tryz.isAgg106
 z46:=Tryz.sizeOf106
 v46:=Tryz.zeroValue106
 t51:=Tryz.underlying155
 a51:=Tryz.isAgg155
 z51:=Tryz.sizeOf155
 v51:=Tryz.zeroValue155
 t53:=Tryz.underlying157
 a53:=Tryz.isAgg157
 z53:=Tryz.sizeOf157
 v53:=Tryz.zeroValue157
 t131:=Tryz.underlying152
 a131:=Tryz.isAgg152
 z131:=Tryz.sizeOf152
 v131:=Tryz.zeroValue152
 t182:=Tryz.underlying146
 a182:=Tryz.isAgg146
 z182:=Tryz.sizeOf146
 v182:=Tryz.zeroValue146
 t183:=Tryz.underlying147
 a183:=Tryz.isAgg147
 z183:=Tryz.sizeOf147
 v183:=Tryz.zeroValue147
 t218:=Tryz.underlying182
 a218:=Tryz.isAgg182
 z218:=Tryz.sizeOf182
 v218:=Tryz.zeroValue182
 t222:=Tryz.underlying186
 a222:=Tryz.isAgg186
 z222:=Tryz.sizeOf186
 v222:=Tryz.zeroValue186
 t228:=Tryz.underlying201
 a228:=Tryz.isAgg201
 z228:=Tryz.sizeOf201
 v228:=Tryz.zeroValue201
 t229:=Tryz.underlying202
 a229:=Tryz.isAgg202
 z229:=Tryz.sizeOf202
 v229:=Tryz.zeroValue202}
open Go.Sort Go.RowKit in
theorem Tryz.sort_Ints(blk off cap:Nat)(zs:List Int)(w:World)(hH:Holds (Value.int .i64) w blk off zs.toArray)(hblk:blk<w.heap.size)(hsz:zs.length<4611686018427387904):
 Calls Tryz.prog 99 #[.slice (some ⟨blk,off,none⟩) zs.length cap] w fun e w'=>
  e= .returned (.tuple #[])∧∃n os,w'=grow (putRow (Value.int .i64) (Sort.ahead w n) blk off (zs.mergeSort fun x y=>decide (x≤y)).toArray) os:=Any.sort_Ints Tryz.lays191 blk off cap zs w hH hblk hsz
def Tryz.lays192_ren :Go.Shelf.Ren:=⟨fun|192=>96|190=>109|125=>124|258=>123|128=>152|129=>153|302=>143|303=>144|304=>145|305=>146|306=>147|307=>148|308=>149|309=>150|310=>151|333=>189|329=>190|330=>191|334=>192|335=>193|336=>194|344=>217|n=>n,fun|31=>29|0=>0|9=>9|3=>3|46=>106|51=>155|53=>157|4=>4|183=>147|182=>146|131=>152|5=>5|218=>182|222=>186|228=>201|229=>202|n=>n,fun|n=>n⟩
theorem Tryz.lays192 :Go.Proofs.Lays.n192 Tryz.prog Tryz.lays192_ren:={
 mixed:=by kernel_rfl
 f125:=Tryz.func124.trans (congrArg some (by kernel_rfl))
 f128:=Tryz.func152.trans (congrArg some (by kernel_rfl))
 f129:=Tryz.func153.trans (congrArg some (by kernel_rfl))
 f190:=Tryz.func109.trans (congrArg some (by kernel_rfl))
 f192:=Tryz.func96.trans (congrArg some (by kernel_rfl))
 f258:=Tryz.func123.trans (congrArg some (by kernel_rfl))
 f302:=Tryz.func143.trans (congrArg some (by kernel_rfl))
 f303:=Tryz.func144.trans (congrArg some (by kernel_rfl))
 f304:=Tryz.func145.trans (congrArg some (by kernel_rfl))
 f305:=Tryz.func146.trans (congrArg some (by kernel_rfl))
 f306:=Tryz.func147.trans (congrArg some (by kernel_rfl))
 f307:=Tryz.func148.trans (congrArg some (by kernel_rfl))
 f308:=Tryz.func149.trans (congrArg some (by kernel_rfl))
 f309:=Tryz.func150.trans (congrArg some (by kernel_rfl))
 f310:=Tryz.func151.trans (congrArg some (by kernel_rfl))
 f329:=Tryz.func190.trans (congrArg some (by kernel_rfl))
 f330:=Tryz.func191.trans (congrArg some (by kernel_rfl))
 f333:=Tryz.func189.trans (congrArg some (by kernel_rfl))
 f334:=Tryz.func192.trans (congrArg some (by kernel_rfl))
 f335:=Tryz.func193.trans (congrArg some (by kernel_rfl))
 f336:=Tryz.func194.trans (congrArg some (by kernel_rfl))
 f344:=Tryz.func217.trans (congrArg some (by kernel_rfl))
 t0:=Tryz.underlying0
 a0:=Tryz.isAgg0
 z0:=Tryz.sizeOf0
 v0:=Tryz.zeroValue0
 t3:=Tryz.underlying3
 a3:=Tryz.isAgg3
 z3:=Tryz.sizeOf3
 v3:=Tryz.zeroValue3
 t4:=Tryz.underlying4
 a4:=Tryz.isAgg4
 z4:=Tryz.sizeOf4
 v4:=Tryz.zeroValue4
 t5:=Tryz.underlying5
 a5:=Tryz.isAgg5
 z5:=Tryz.sizeOf5
 v5:=Tryz.zeroValue5
 t9:=Tryz.underlying9
 a9:=Tryz.isAgg9
 z9:=Tryz.sizeOf9
 v9:=Tryz.zeroValue9
 t31:=Tryz.underlying29
 a31:=Tryz.isAgg29
 z31:=Tryz.sizeOf29
 v31:=Tryz.zeroValue29
 t46:=Tryz.underlying106
 a46:=Tryz.isAgg106
 z46:=Tryz.sizeOf106
 v46:=Tryz.zeroValue106
 t51:=Tryz.underlying155
 a51:=Tryz.isAgg155
 z51:=Tryz.sizeOf155
 v51:=Tryz.zeroValue155
 t53:=Tryz.underlying157
 a53:=Tryz.isAgg157
 z53:=Tryz.sizeOf157
 v53:=Tryz.zeroValue157
 t131:=Tryz.underlying152
 a131:=Tryz.isAgg152
 z131:=Tryz.sizeOf152
 v131:=Tryz.zeroValue152
 t182:=Tryz.underlying146
 a182:=Tryz.isAgg146
 z182:=Tryz.sizeOf146
 v182:=Tryz.zeroValue146
 t183:=Tryz.underlying147
 a183:=Tryz.isAgg147
 z183:=Tryz.sizeOf147
 v183:=Tryz.zeroValue147
 t218:=Tryz.underlying182
 a218:=Tryz.isAgg182
 z218:=Tryz.sizeOf182
 v218:=Tryz.zeroValue182
 t222:=Tryz.underlying186
 a222:=Tryz.isAgg186
 z222:=Tryz.sizeOf186
 v222:=Tryz.zeroValue186
 t228:=Tryz.underlying201
 a228:=Tryz.isAgg201
 z228:=Tryz.sizeOf201
 v228:=Tryz.zeroValue201
 t229:=Tryz.underlying202
 a229:=Tryz.isAgg202
 z229:=Tryz.sizeOf202
 v229:=Tryz.zeroValue202}
open Go.Sort Go.RowKit in
theorem Tryz.sort_Strings(blk off cap:Nat)(ss:List (List UInt8))(w:World)(hH:Holds encStr w blk off ss.toArray)(hblk:blk<w.heap.size)(hsz:ss.length<4611686018427387904):
 Calls Tryz.prog 96 #[.slice (some ⟨blk,off,none⟩) ss.length cap] w fun e w'=>
  e= .returned (.tuple #[])∧∃n os,w'=grow (putRow encStr (Sort.ahead w n) blk off (ss.mergeSort fun x y=>decide (x≤y)).toArray) os:=Any.sort_Strings Tryz.lays192 blk off cap ss w hH hblk hsz
end Go.Proofs
