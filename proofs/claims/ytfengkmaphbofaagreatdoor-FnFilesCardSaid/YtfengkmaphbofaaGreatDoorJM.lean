/-
  Texts joined: Exv Exw.
-/
import Derived.Test.YtfengkmaphbofaaGreatDoorJF
import Derived.Test.YtfengkmaphbofaaGreatDoorJE
set_option maxHeartbeats 32000000
set_option maxRecDepth 8000
set_option linter.unusedSimpArgs false
set_option linter.unusedVariables false
namespace Go.Proofs.YtfengkmaphbofaaGreatDoor
open Go.RowKit
open List renaming take_succ_eq_append_getElem→a_,take_of_length_le→b_,cons_append→c_,getElem_mem→d_,length_map→f_,take_append_drop→h_,all_eq_false→i_,all_append→j_,map_cons→k_
open Nat renaming lt_succ_self→e_,zero_le→g_
attribute [local irreducible] sw sd sn
def G8(b:UInt8):Bool:= !(decide ((b.toNat:Int)<32)) && !(decide ((b.toNat:Int) > 126)) && !((b.toNat:Int)==34)
def Jb(s:ByteArray):Bool:=s.data.toList.all G8 && decide ((s.size:Int)≤20)
def nmB(s:ByteArray):Bool:=jO s && !ng s.toList
def rG(s:ByteArray):Bool:=s.toList==(⟨#[]⟩:ByteArray).toList
def jP(e:GExpr):Bool:=
 if e.kind=1 then(e.args.length==0 && rG e.text && inR e.n 0 1000000000)
 else if e.kind=2 then(e.args.length==0 && e.n==0 && Jb e.text)
 else if e.kind=3 then(e.args.length==0 && e.n==0 && nmB e.text)
 else if e.kind=4 then(e.n==0 && rG e.text && decide (e.args.length≤8))
 else if e.kind=5 then(e.n==0 && (e.args.length:Int)==eG e.text.toList)
 else if e.kind=6 then(rG e.text && e.args.length==2 && inR e.n 1 5)
 else if e.kind=7∨e.kind=9 then(e.n==0 && e.args.length==2 && nmB e.text)
 else if e.kind=8 then(e.n==0 && rG e.text && e.args.length==3)
 else false
mutual
def GExpr.allN :GExpr→Bool
 | .mk k n t q=>GExpr.P9 q && jP (.mk k n t q)
def GExpr.P9 :List GExpr→Bool
 | []=>true
 |e::l=>e.allN && GExpr.P9 l
end
mutual
def GExpr.left :GExpr→Int→Int
 | .mk _ _ _ q,n=>GExpr.lefts q (n - 1)
def GExpr.lefts :List GExpr→Int→Int
 | [],n=>n
 |e::l,n=>if n≥0 then GExpr.lefts l (e.left n)else n
end
mutual
def GExpr.nest :GExpr→Nat
 | .mk _ _ _ q=>GExpr.qp q+1
def GExpr.qp :List GExpr→Nat
 | []=>0
 |e::l=>max e.nest (GExpr.qp l)
end
mutual
def GExpr.nodes :GExpr→Nat
 | .mk _ _ _ q=>GExpr.uz q+1
def GExpr.uz :List GExpr→Nat
 | []=>0
 |e::l=>e.nodes+GExpr.uz l
end
def G5(e:GExpr):Bool:=decide (e.nodes≤40) && decide (e.nest≤8) && e.allN
theorem MB :∀(l:List GExpr),GExpr.P9 l=l.all GExpr.allN
 | []=>rfl
 |e::l=>by rw[GExpr.P9,MB l,List.all_cons]
theorem BM(e:GExpr):e.allN=(e.args.all GExpr.allN && jP e):=by cases e;rw[GExpr.allN,MB];rfl
theorem WU(e:GExpr)(n:Int):e.left n=GExpr.lefts e.args (n - 1):=by cases e;rw[GExpr.left];rfl
theorem WM(e:GExpr):e.nest=GExpr.qp e.args+1:=by cases e;rw[GExpr.nest];rfl
theorem F6 :∀(l:List GExpr) {n:Int},n<0→GExpr.lefts l n=n
 | [],n,_=>by rw[GExpr.lefts]
 |e::l,n,h=>by rw[GExpr.lefts,if_neg (by omega)]
theorem F7 :∀(l:List GExpr) (e:GExpr) (n:Int),GExpr.lefts (l++ [e]) n=if GExpr.lefts l n≥0 then e.left (GExpr.lefts l n)else GExpr.lefts l n
 | [],e,n=>by simp[GExpr.lefts]
 | x::l,e,n=>by
   simp only[c_,GExpr.lefts];split
   ·exact F7 l e _
   ·next h=>simp
theorem F5 :∀(l:List GExpr) (e:GExpr),GExpr.qp (l++ [e])=max (GExpr.qp l) e.nest
 | [],e=>by simp[GExpr.qp]
 |x::l,e=>by simp only[c_,GExpr.qp];rw[F5 l e,Nat.max_assoc]
mutual
theorem GExpr.F8 :∀(e:GExpr) (n:Int),0≤n→ -1≤e.left n∧e.left n<n∧(e.nodes≤n→e.left n=n - e.nodes)∧(n<e.nodes→e.left n<0)
 | .mk k m t q,n,hn=>by
   have:=GExpr.sK q (n - 1) (by omega);rw[GExpr.left,GExpr.nodes];omega
theorem GExpr.sK :∀(l:List GExpr) (n:Int), -1≤n→ -1≤GExpr.lefts l n∧GExpr.lefts l n≤n∧(GExpr.uz l≤n→GExpr.lefts l n=n - GExpr.uz l)∧(n<GExpr.uz l→0≤n→GExpr.lefts l n<0)
 | [],n,hn=>by rw[GExpr.lefts,GExpr.uz];omega
 | e ::l,n,hn=>by
   rw[GExpr.lefts,GExpr.uz];split
   ·next h=>
    have h1:=GExpr.F8 e n h;have h2:=GExpr.sK l (e.left n) h1.1;by_cases h3:(e.nodes:Int)≤n
    ·have:=h1.2.2.1 h3;rw[this]at h2⊢;by_cases h4:(GExpr.uz l:Int)≤n - e.nodes
     ·have:=h2.2.2.1 h4;omega
     ·have h5:=h2.2.2.2 (by omega) (by omega);omega
    ·have h5:=h1.2.2.2 (by omega);have h6:=F6 l h5;rw[h6];omega
   ·next h=>omega
end
theorem Um(e:GExpr):decide (e.left 40≥0)=decide (e.nodes≤40):=by
 have:=e.F8 40 (by decide);by_cases h:e.nodes≤40
 ·rw[decide_eq_true h,decide_eq_true (by have:=this.2.2.1 (by omega);omega)]
 ·rw[decide_eq_false h,decide_eq_false (by have:=this.2.2.2 (by omega);omega)]
mutual
theorem GExpr.OX :∀(e:GExpr),e.nest≤e.toD.wt+1
 | .mk k n t q=>by
   have:=GExpr.JI q;rw[GExpr.nest,GExpr.oD];simp only[GExpr.args,f_];omega
theorem GExpr.JI :∀(l:List GExpr),GExpr.qp l≤l.length+D.wts (l.map GExpr.toD)
 | []=>by simp[GExpr.qp]
 | e::l=>by
   have h1:=GExpr.OX e;have h2:=GExpr.JI l;rw[GExpr.qp,List.length_cons,k_,D.wts];omega
end
theorem qE{e x:GExpr}(h:x∈e.args):x.toD.wt<e.toD.wt:=by
 rw[GExpr.oD e];have:x.toD.wt≤D.wts (e.args.map GExpr.toD):=by
  revert h
  generalize e.args=l;intro h
  induction l with
  |nil=>simp at h
  | cons y l ih=>
    rw[k_,D.wts];rcases List.mem_cons.1 h with rfl|h
    ·omega
    ·have:=ih h;omega
 have h2:0<(e.args.map GExpr.toD).length:=by rw[f_];exact List.length_pos_of_mem h
 omega
theorem AZ(e:GExpr):e.args.length≤e.toD.wt:=by rw[GExpr.oD e,f_];omega
def uN :IC:=(zd_ [zj_ 2 false] (.seq (zd_ [zk_ 3 0] (.block 0 (.loop (.seq (zd_ [zw_ 4 3,zw_ 5 0,zf_ 6 true 5,zl_ 7 .lss 4 6] (.cond (.t 7) .skip (.exit 0))) (.seq (.block 1 (zd_ [zw_ 10 0,zw_ 11 3,zz_ 12 (.sidx (.t 10) (.t 11)),zz_ 13 (.bin .lss (.t 12) (.k (.int .u8 32))),zw_ 14 13,zu_ 15 14 0,zu_ 16 14 3,zx_ 17 14 (.sidx (.t 15) (.t 16)),zx_ 18 14 (.bin .gtr (.t 17) (.k (.int .u8 126))),zg_ 19 14 true 18,zw_ 20 19,zu_ 21 20 0,zu_ 22 20 3,zx_ 23 20 (.sidx (.t 21) (.t 22)),zx_ 24 20 (.bin .eql (.t 23) (.k (.int .u8 34))),zg_ 25 20 true 24] (.cond (.t 25) (zd_ [zj_ 2 false] .ret) .skip))) (.reg false [zw_ 8 3,zm_ 9 .add 8 1,zw_ 3 9])))))) (zd_ [zw_ 26 0,zf_ 27 true 26,zm_ 28 .leq 27 20,zw_ 2 28] .ret)))
theorem xR :bg Tryz.prog (Tryz.f74.body.getD .skip)=some uN:=by kernel_rfl
theorem Di(s:ByteArray)(hs:s.size≤1048576):dK Tryz.prog 74 [ls s] (.c false [.raw (.bool (Jb s))]):=by
 refine gW (fn:=Tryz.f74) (t:=2) (hc:=xR) (h:= ?_);unfold uN;refine zb_ ?_;change AWP _ _ _ (st0 29 _);refine sS trivial ?_
 repeat' (first|(refine rg_ ?_;intro K hK)|(refine hq_ ?_;clear hK K)|refine ca_ ?_ ?_|refine gq_ ?_|(refine c2_ ?_ ?_<;>(intro hb hb';try(exfalso;omega)))|refine sz_ trivial ?_|refine nv ?_|(exact GExpr.el _)|exact bq_|fail)
 refine iU (X:=Nat) (fun i=> [.k,.d,.d,.v (.c false [.raw (.int .i64 ((i:Nat)))])]) (fun _=> []) (fun _ b=>b) (fun i=>i≤s.size∧(s.data.toList.take i).all G8=true) (fun i=>s.size - i) 0 ⟨g_ _,rfl⟩ ?_ ?_
 ·simp[gI,iM,gq,gJ,AV.fits,AC.fits,FB,fP]
 ·rintro i ⟨hi,hall⟩;simp only[FB,fP];by_cases hlt:i<s.size
  ·have hT:decide ((i:Int)<(s.size:Int))=true:=decide_eq_true (by omega);have hw1:IntKind.i64.wrap ((i:Int)+1)=((i+1:Nat):Int):=iP (by omega);have hlt':i<s.data.size:=hlt;have hg:s.data[i]? =some s.data[i]:=Array.getElem?_eq_getElem hlt';have hc:G8 s.data[i]=(!(decide (((s.data[i]).toNat:Int)<32)) && !(decide (((s.data[i]).toNat:Int) > 126)) && !(((s.data[i]).toNat:Int)==34)):=rfl;have hl':i<s.data.toList.length:=by simpa using hlt'
   have htk:(s.data.toList.take (i+1)).all G8=G8 s.data[i]:=by
    rw[a_ hl',j_,hall];simp
   cases k1:decide (((s.data[i]).toNat:Int)<32)<;>cases k2:decide (((s.data[i]).toNat:Int) > 126)<;>cases k3:(((s.data[i]).toNat:Int)==34)<;>rw[k1,k2,k3]at hc
   all_goals(first|(have hn:G8 s.data[i]=false:=by rw[hc];rfl)|(have hn:G8 s.data[i]=true:=by rw[hc];rfl))
   all_goals(repeat' (first|((with_reducible refine jU ?_);intro K hK)|((with_reducible refine hK _ ?_);clear hK K)|(with_reducible refine je ?_ ?_)|((with_reducible refine gi ?_);first|(refine dN ?_ ?_;rfl)|(refine dP ?_ ?_;(rfl;refine gF ?_))|((with_reducible refine gS rfl ?_ ?_)<;>(intro hb hb';try(exfalso;omega))))|((with_reducible refine eF ?_);refine ss (Zm hT (Zm hw1 (Zm hg (Zm k1 (Zm k2 k3))))) ?_)|refine nv ?_|(with_reducible (refine cS rfl ?_ ?_)<;>(intro hb hb';try(exfalso;omega)))|(exact GExpr.el _)|exact yu|exact lq))
   all_goals first
    | (refine gY (i+1) ?_ ⟨by omega,by rw[htk];exact hn⟩ (show s.size - (i+1)<s.size - i by omega)
       simp[gI,iM,gq,gJ,AV.fits,AC.fits,FB,fP])
    | (refine dS ⟨_,rfl, ?_,trivial⟩
       show _=_;have hm:s.data.toList.all G8=false:=by
        rw[i_];exact⟨s.data[i],by simp,by rw[hn];simp⟩
       unfold Jb;rw[hm];rfl)
  ·have hT:decide ((i:Int)<(s.size:Int))=false:=decide_eq_false (by omega);have hi':i=s.size:=by omega
   have hall':s.data.toList.all G8=true:=by
    have:s.data.toList.take i=s.data.toList:=b_ (by rw[hi'];exact Nat.le_refl _);rw[← this];exact hall
   repeat' (first|(refine rg_ ?_;intro K hK)|(refine hq_ ?_;clear hK K)|refine ca_ ?_ ?_|refine gq_ ?_|(refine c2_ ?_ ?_<;>(intro hb hb';try(exfalso;omega)))|refine sz_ hT ?_|refine nv ?_|(exact GExpr.el _)|exact bq_|fail)
   refine dS ⟨_,rfl, ?_,trivial⟩;show _=_;unfold Jb;rw[hall'];rfl
theorem Zh(n:Nat):((n:Int)==0)=(n==0):=by cases n<;>rfl
theorem YX(n k:Nat):((n:Int)==(k:Int))=(n==k):=by
 by_cases h:n=k
 ·subst h;simp
 ·rw[beq_eq_false_iff_ne.2 h,beq_eq_false_iff_ne.2 (by omega)]
theorem Dj(s:ByteArray)(hs:s.size≤1048576):dK Tryz.prog 64 [ls s] (.c false [.raw (.bool (nmB s))]):=vk fun w vs hr=>by
 obtain⟨v,rfl,hv⟩:=MR hr;obtain rfl:=ni hv;exact rM s (by omega) w
theorem IW(s:ByteArray):dK Tryz.prog 207 [ls s] (.c false [.raw (.int .i64 (eG s.toList))]):=V9 fun w vs hr=>by
 obtain⟨v,rfl,hv⟩:=MR hr;obtain rfl:=ni hv;exact FI s w
def zY :IC:=(zd_ [zj_ 6 false] (zd_ [zw_ 7 0,zw_ 8 1,zl_ 9 .geq 7 8,zw_ 10 9,zv_ 11 10 0,zv_ 12 10 2,zy_ 13 10 (.bin .leq (.t 11) (.t 12)),zh_ 14 10 13 false,zw_ 6 14] .ret))
theorem DL :bg Tryz.prog (Tryz.f62.body.getD .skip)=some zY:=by kernel_rfl
theorem uI (n lo hi:Int):dK Tryz.prog 62 [li n,li lo,li hi] (.c false [.raw (.bool (inR n lo hi))]):=by
 refine gW (fn:=Tryz.f62) (t:=6) (hc:=DL) (h:= ?_);unfold zY;refine zb_ ?_;change AWP _ _ _ (st0 15 _);refine sS trivial ?_;cases h1:decide (lo≤n)<;>cases h2:decide (n≤hi)
 all_goals (have h3:decide (n≥lo)=decide (lo≤n):=rfl
            rw[h1]at h3
            repeat' (first|((with_reducible refine jU ?_);intro K hK)|((with_reducible refine hK _ ?_);clear hK K)|(with_reducible refine je ?_ ?_)|((with_reducible refine gi ?_);first|(refine dN ?_ ?_;rfl)|(refine dP ?_ ?_;(rfl;refine gF ?_))|((with_reducible refine gS rfl ?_ ?_)<;>(intro hb hb';try(exfalso;omega))))|((with_reducible refine eF ?_);refine ss (Zm h1 (Zm h2 h3)) ?_)|refine nv ?_|(with_reducible (refine cS rfl ?_ ?_)<;>(intro hb hb';try(exfalso;omega)))|(exact GExpr.el _)|exact yu|exact lq))
 all_goals exact dS ⟨_,rfl,⟨by unfold inR;rw[h1,h2];rfl,trivial⟩⟩
def xO :IC:=(zd_ [zz_ 1 (.box (.t 0)),zj_ 2 false] (zd_ [zt_ 4 3 1,zs_ 5 1 4,zf_ 6 false 5,zw_ 3 6] (.seq (zd_ [zt_ 7 0 1,zs_ 8 1 7] (.block 0 (zd_ [zm_ 10 .eql 8 1,zw_ 9 10] (.cond (.t 9) (zd_ [zw_ 11 3,zm_ 12 .eql 11 0,zw_ 13 12,zy_ 14 13 (.fad 2 (.t 1)),zy_ 15 13 (.load 1 false (.t 14)),zy_ 16 13 (.bin .eql (.t 15) (.k (.string ⟨#[]⟩))),zh_ 17 13 16 false,zw_ 18 17,zy_ 19 18 (.fad 1 (.t 1)),zy_ 20 18 (.load 1 false (.t 19)),zy_ 21 18 (.call 62 [(.t 20),(.k (.int .i64 0)),(.k (.int .i64 1000000000))]),zh_ 22 18 21 false,zw_ 2 22] .ret) (zd_ [zm_ 24 .eql 8 2,zw_ 23 24] (.cond (.t 23) (zd_ [zw_ 25 3,zm_ 26 .eql 25 0,zw_ 27 26,zy_ 28 27 (.fad 1 (.t 1)),zy_ 29 27 (.load 1 false (.t 28)),zy_ 30 27 (.bin .eql (.t 29) (.k (.int .i64 0))),zh_ 31 27 30 false,zw_ 32 31,zy_ 33 32 (.fad 2 (.t 1)),zy_ 34 32 (.load 1 false (.t 33)),zy_ 35 32 (.call 74 [(.t 34)]),zh_ 36 32 35 false,zw_ 2 36] .ret) (zd_ [zm_ 38 .eql 8 3,zw_ 37 38] (.cond (.t 37) (zd_ [zw_ 39 3,zm_ 40 .eql 39 0,zw_ 41 40,zy_ 42 41 (.fad 1 (.t 1)),zy_ 43 41 (.load 1 false (.t 42)),zy_ 44 41 (.bin .eql (.t 43) (.k (.int .i64 0))),zh_ 45 41 44 false,zw_ 46 45,zy_ 47 46 (.fad 2 (.t 1)),zy_ 48 46 (.load 1 false (.t 47)),zy_ 49 46 (.call 64 [(.t 48)]),zh_ 50 46 49 false,zw_ 2 50] .ret) (zd_ [zm_ 52 .eql 8 4,zw_ 51 52] (.cond (.t 51) (zd_ [zt_ 53 1 1,zs_ 54 1 53,zm_ 55 .eql 54 0,zw_ 56 55,zy_ 57 56 (.fad 2 (.t 1)),zy_ 58 56 (.load 1 false (.t 57)),zy_ 59 56 (.bin .eql (.t 58) (.k (.string ⟨#[]⟩))),zh_ 60 56 59 false,zw_ 61 60,zv_ 62 61 3,zy_ 63 61 (.bin .leq (.t 62) (.k (.int .i64 8))),zh_ 64 61 63 false,zw_ 2 64] .ret) (zd_ [zm_ 66 .eql 8 5,zw_ 65 66] (.cond (.t 65) (zd_ [zt_ 67 1 1,zs_ 68 1 67,zm_ 69 .eql 68 0,zw_ 70 69,zv_ 71 70 3,zy_ 72 70 (.fad 2 (.t 1)),zy_ 73 70 (.load 1 false (.t 72)),zy_ 74 70 (.call 207 [(.t 73)]),zy_ 75 70 (.bin .eql (.t 71) (.t 74)),zh_ 76 70 75 false,zw_ 2 76] .ret) (zd_ [zm_ 78 .eql 8 6,zw_ 77 78] (.cond (.t 77) (zd_ [zt_ 79 2 1,zs_ 80 1 79,zz_ 81 (.bin .eql (.t 80) (.k (.string ⟨#[]⟩))),zw_ 82 81,zv_ 83 82 3,zy_ 84 82 (.bin .eql (.t 83) (.k (.int .i64 2))),zh_ 85 82 84 false,zw_ 86 85,zy_ 87 86 (.fad 1 (.t 1)),zy_ 88 86 (.load 1 false (.t 87)),zy_ 89 86 (.call 62 [(.t 88),(.k (.int .i64 1)),(.k (.int .i64 5))]),zh_ 90 86 89 false,zw_ 2 90] .ret) (.seq (zd_ [zm_ 92 .eql 8 7,zw_ 91 92] (.cond (.t 91) .skip (.reg false [zm_ 93 .eql 8 9,zw_ 91 93]))) (.cond (.t 91) (zd_ [zt_ 94 1 1,zs_ 95 1 94,zm_ 96 .eql 95 0,zw_ 97 96,zv_ 98 97 3,zy_ 99 97 (.bin .eql (.t 98) (.k (.int .i64 2))),zh_ 100 97 99 false,zw_ 101 100,zy_ 102 101 (.fad 2 (.t 1)),zy_ 103 101 (.load 1 false (.t 102)),zy_ 104 101 (.call 64 [(.t 103)]),zh_ 105 101 104 false,zw_ 2 105] .ret) (zd_ [zm_ 107 .eql 8 8,zw_ 106 107] (.cond (.t 106) (zd_ [zt_ 108 1 1,zs_ 109 1 108,zm_ 110 .eql 109 0,zw_ 111 110,zy_ 112 111 (.fad 2 (.t 1)),zy_ 113 111 (.load 1 false (.t 112)),zy_ 114 111 (.bin .eql (.t 113) (.k (.string ⟨#[]⟩))),zh_ 115 111 114 false,zw_ 116 115,zv_ 117 116 3,zy_ 118 116 (.bin .eql (.t 117) (.k (.int .i64 3))),zh_ 119 116 118 false,zw_ 2 119] .ret) .skip)))))))))))))))))) (zd_ [zj_ 2 false] .ret))))
theorem AO :bg Tryz.prog (Tryz.f199.body.getD .skip)=some xO:=by kernel_rfl
theorem Ib(e:GExpr)(hw:e.toD.wt≤1048576):dK Tryz.prog 199 [e.toD] (.c false [.raw (.bool (jP e))]):=by
 refine gW (fn:=Tryz.f199) (t:=2) (hc:=AO) (h:= ?_);unfold xO;refine zb_ ?_;change AWP _ _ _ (st0 120 _);refine sS trivial ?_;have htx:e.text.size≤1048576:=by rw[GExpr.oD e]at hw;omega
 have c1:=uI e.n 0 1000000000;have c2:=uI e.n 1 5;have c3:=Di e.text htx;have c4:=Dj e.text htx;have c5:=IW e.text;have kk:∀j:Int,(e.kind==j)=decide (e.kind=j):=fun j=>by by_cases h:e.kind=j<;>simp[h]
 have l0:=Zh e.args.length;have l2:((e.args.length:Int)==2)=(e.args.length==2):=YX e.args.length 2;have l3:((e.args.length:Int)==3)=(e.args.length==3):=YX e.args.length 3;have tn:(e.text.toList==(⟨#[]⟩:ByteArray).toList)=rG e.text:=rfl;have l8:decide ((e.args.length:Int)≤8)=decide (e.args.length≤8):=by by_cases h:e.args.length≤8<;>simp[h]<;>omega
 have la:((e.args.length:Int)==eG e.text.toList)=((e.args.length:Int)==eG e.text.toList):=rfl;by_cases k1:e.kind=1
 ·have e1:jP e=(e.args.length==0 && rG e.text && inR e.n 0 1000000000):=by unfold jP;simp[k1]
  rw[e1];have f1:(e.kind==1)=true:=by rw[kk];exact decide_eq_true (by omega)
  have f2:(e.kind==2)=false:=za_ (by omega);have f3:(e.kind==3)=false:=za_ (by omega);have f4:(e.kind==4)=false:=za_ (by omega);have f5:(e.kind==5)=false:=za_ (by omega);have f6:(e.kind==6)=false:=za_ (by omega);have f7:(e.kind==7)=false:=za_ (by omega);have f8:(e.kind==8)=false:=za_ (by omega);have f9:(e.kind==9)=false:=za_ (by omega);cases q0:(e.args.length==0)
  all_goals cases q1:rG e.text
  all_goals rw[q0]at l0
  all_goals rw[q1]at tn
  all_goals(repeat' (first|((with_reducible refine jU ?_);intro K hK)|((with_reducible refine hK _ ?_);clear hK K)|(with_reducible refine je ?_ ?_)|((with_reducible refine gi ?_);first|(refine dN ?_ ?_;rfl)|(refine dP ?_ ?_;(rfl;refine gF ?_)))|((with_reducible refine jY ?_);first|refine fH (hc:=c1) (h:= ?_)|refine fH (hc:=c2) (h:= ?_)|refine fH (hc:=c3) (h:= ?_)|refine fH (hc:=c4) (h:= ?_)|refine fH (hc:=c5) (h:= ?_))|((with_reducible refine eF ?_);refine ss (Zm f1 (Zm f2 (Zm f3 (Zm f4 (Zm f5 (Zm f6 (Zm f7 (Zm f8 (Zm f9 (Zm l0 tn)))))))))) ?_)|refine nv ?_|(exact GExpr.el _)|exact yu|exact lq))
  all_goals exact dS ⟨_,rfl,⟨by simp[gX],trivial⟩⟩
 by_cases k2:e.kind=2
 ·have e1:jP e=(e.args.length==0 && e.n==0 && Jb e.text):=by unfold jP;simp[k2,k1]
  rw[e1];have f1:(e.kind==1)=false:=za_ (by omega);have f2:(e.kind==2)=true:=by rw[kk];exact decide_eq_true (by omega)
  have f3:(e.kind==3)=false:=za_ (by omega);have f4:(e.kind==4)=false:=za_ (by omega);have f5:(e.kind==5)=false:=za_ (by omega);have f6:(e.kind==6)=false:=za_ (by omega);have f7:(e.kind==7)=false:=za_ (by omega);have f8:(e.kind==8)=false:=za_ (by omega);have f9:(e.kind==9)=false:=za_ (by omega);cases q0:(e.args.length==0)
  all_goals cases q1:(e.n==0)
  all_goals rw[q0]at l0
  all_goals(repeat' (first|((with_reducible refine jU ?_);intro K hK)|((with_reducible refine hK _ ?_);clear hK K)|(with_reducible refine je ?_ ?_)|((with_reducible refine gi ?_);first|(refine dN ?_ ?_;rfl)|(refine dP ?_ ?_;(rfl;refine gF ?_)))|((with_reducible refine jY ?_);first|refine fH (hc:=c1) (h:= ?_)|refine fH (hc:=c2) (h:= ?_)|refine fH (hc:=c3) (h:= ?_)|refine fH (hc:=c4) (h:= ?_)|refine fH (hc:=c5) (h:= ?_))|((with_reducible refine eF ?_);refine ss (Zm f1 (Zm f2 (Zm f3 (Zm f4 (Zm f5 (Zm f6 (Zm f7 (Zm f8 (Zm f9 (Zm l0 q1)))))))))) ?_)|refine nv ?_|(exact GExpr.el _)|exact yu|exact lq))
  all_goals exact dS ⟨_,rfl,⟨by simp[gX],trivial⟩⟩
 by_cases k3:e.kind=3
 ·have e1:jP e=(e.args.length==0 && e.n==0 && nmB e.text):=by unfold jP;simp[k3,k1,k2]
  rw[e1];have f1:(e.kind==1)=false:=za_ (by omega);have f2:(e.kind==2)=false:=za_ (by omega);have f3:(e.kind==3)=true:=by rw[kk];exact decide_eq_true (by omega)
  have f4:(e.kind==4)=false:=za_ (by omega);have f5:(e.kind==5)=false:=za_ (by omega);have f6:(e.kind==6)=false:=za_ (by omega);have f7:(e.kind==7)=false:=za_ (by omega);have f8:(e.kind==8)=false:=za_ (by omega);have f9:(e.kind==9)=false:=za_ (by omega);cases q0:(e.args.length==0)
  all_goals cases q1:(e.n==0)
  all_goals rw[q0]at l0
  all_goals(repeat' (first|((with_reducible refine jU ?_);intro K hK)|((with_reducible refine hK _ ?_);clear hK K)|(with_reducible refine je ?_ ?_)|((with_reducible refine gi ?_);first|(refine dN ?_ ?_;rfl)|(refine dP ?_ ?_;(rfl;refine gF ?_)))|((with_reducible refine jY ?_);first|refine fH (hc:=c1) (h:= ?_)|refine fH (hc:=c2) (h:= ?_)|refine fH (hc:=c3) (h:= ?_)|refine fH (hc:=c4) (h:= ?_)|refine fH (hc:=c5) (h:= ?_))|((with_reducible refine eF ?_);refine ss (Zm f1 (Zm f2 (Zm f3 (Zm f4 (Zm f5 (Zm f6 (Zm f7 (Zm f8 (Zm f9 (Zm l0 q1)))))))))) ?_)|refine nv ?_|(exact GExpr.el _)|exact yu|exact lq))
  all_goals exact dS ⟨_,rfl,⟨by simp[gX],trivial⟩⟩
 by_cases k4:e.kind=4
 ·have e1:jP e=(e.n==0 && rG e.text && decide (e.args.length≤8)):=by unfold jP;simp[k4,k1,k2,k3]
  rw[e1];have f1:(e.kind==1)=false:=za_ (by omega);have f2:(e.kind==2)=false:=za_ (by omega);have f3:(e.kind==3)=false:=za_ (by omega);have f4:(e.kind==4)=true:=by rw[kk];exact decide_eq_true (by omega)
  have f5:(e.kind==5)=false:=za_ (by omega);have f6:(e.kind==6)=false:=za_ (by omega);have f7:(e.kind==7)=false:=za_ (by omega);have f8:(e.kind==8)=false:=za_ (by omega);have f9:(e.kind==9)=false:=za_ (by omega);cases q0:(e.n==0)
  all_goals cases q1:rG e.text
  all_goals cases q2:decide (e.args.length≤8)
  all_goals rw[q1]at tn
  all_goals rw[q2]at l8
  all_goals(repeat' (first|((with_reducible refine jU ?_);intro K hK)|((with_reducible refine hK _ ?_);clear hK K)|(with_reducible refine je ?_ ?_)|((with_reducible refine gi ?_);first|(refine dN ?_ ?_;rfl)|(refine dP ?_ ?_;(rfl;refine gF ?_)))|((with_reducible refine jY ?_);first|refine fH (hc:=c1) (h:= ?_)|refine fH (hc:=c2) (h:= ?_)|refine fH (hc:=c3) (h:= ?_)|refine fH (hc:=c4) (h:= ?_)|refine fH (hc:=c5) (h:= ?_))|((with_reducible refine eF ?_);refine ss (Zm f1 (Zm f2 (Zm f3 (Zm f4 (Zm f5 (Zm f6 (Zm f7 (Zm f8 (Zm f9 (Zm q0 (Zm tn l8))))))))))) ?_)|refine nv ?_|(exact GExpr.el _)|exact yu|exact lq))
  all_goals exact dS ⟨_,rfl,⟨by simp[gX],trivial⟩⟩
 by_cases k5:e.kind=5
 ·have e1:jP e=(e.n==0 && (e.args.length:Int)==eG e.text.toList):=by unfold jP;simp[k5,k1,k2,k3,k4]
  rw[e1];have f1:(e.kind==1)=false:=za_ (by omega);have f2:(e.kind==2)=false:=za_ (by omega);have f3:(e.kind==3)=false:=za_ (by omega);have f4:(e.kind==4)=false:=za_ (by omega);have f5:(e.kind==5)=true:=by rw[kk];exact decide_eq_true (by omega)
  have f6:(e.kind==6)=false:=za_ (by omega);have f7:(e.kind==7)=false:=za_ (by omega);have f8:(e.kind==8)=false:=za_ (by omega);have f9:(e.kind==9)=false:=za_ (by omega);cases q0:(e.n==0)
  all_goals cases q1:((e.args.length:Int)==eG e.text.toList)
  all_goals(repeat' (first|((with_reducible refine jU ?_);intro K hK)|((with_reducible refine hK _ ?_);clear hK K)|(with_reducible refine je ?_ ?_)|((with_reducible refine gi ?_);first|(refine dN ?_ ?_;rfl)|(refine dP ?_ ?_;(rfl;refine gF ?_)))|((with_reducible refine jY ?_);first|refine fH (hc:=c1) (h:= ?_)|refine fH (hc:=c2) (h:= ?_)|refine fH (hc:=c3) (h:= ?_)|refine fH (hc:=c4) (h:= ?_)|refine fH (hc:=c5) (h:= ?_))|((with_reducible refine eF ?_);refine ss (Zm f1 (Zm f2 (Zm f3 (Zm f4 (Zm f5 (Zm f6 (Zm f7 (Zm f8 (Zm f9 (Zm q0 q1)))))))))) ?_)|refine nv ?_|(exact GExpr.el _)|exact yu|exact lq))
  all_goals exact dS ⟨_,rfl,⟨by simp[gX],trivial⟩⟩
 by_cases k6:e.kind=6
 ·have e1:jP e=(rG e.text && e.args.length==2 && inR e.n 1 5):=by unfold jP;simp[k6,k1,k2,k3,k4,k5]
  rw[e1];have f1:(e.kind==1)=false:=za_ (by omega);have f2:(e.kind==2)=false:=za_ (by omega);have f3:(e.kind==3)=false:=za_ (by omega);have f4:(e.kind==4)=false:=za_ (by omega);have f5:(e.kind==5)=false:=za_ (by omega);have f6:(e.kind==6)=true:=by rw[kk];exact decide_eq_true (by omega)
  have f7:(e.kind==7)=false:=za_ (by omega);have f8:(e.kind==8)=false:=za_ (by omega);have f9:(e.kind==9)=false:=za_ (by omega);cases q0:rG e.text
  all_goals cases q1:(e.args.length==2)
  all_goals rw[q0]at tn
  all_goals rw[q1]at l2
  all_goals(repeat' (first|((with_reducible refine jU ?_);intro K hK)|((with_reducible refine hK _ ?_);clear hK K)|(with_reducible refine je ?_ ?_)|((with_reducible refine gi ?_);first|(refine dN ?_ ?_;rfl)|(refine dP ?_ ?_;(rfl;refine gF ?_)))|((with_reducible refine jY ?_);first|refine fH (hc:=c1) (h:= ?_)|refine fH (hc:=c2) (h:= ?_)|refine fH (hc:=c3) (h:= ?_)|refine fH (hc:=c4) (h:= ?_)|refine fH (hc:=c5) (h:= ?_))|((with_reducible refine eF ?_);refine ss (Zm f1 (Zm f2 (Zm f3 (Zm f4 (Zm f5 (Zm f6 (Zm f7 (Zm f8 (Zm f9 (Zm tn l2)))))))))) ?_)|refine nv ?_|(exact GExpr.el _)|exact yu|exact lq))
  all_goals exact dS ⟨_,rfl,⟨by simp[gX],trivial⟩⟩
 by_cases k7:e.kind=7
 ·have e1:jP e=(e.n==0 && e.args.length==2 && nmB e.text):=by unfold jP;simp[k7,k1,k2,k3,k4,k5,k6]
  rw[e1];have f1:(e.kind==1)=false:=za_ (by omega);have f2:(e.kind==2)=false:=za_ (by omega);have f3:(e.kind==3)=false:=za_ (by omega);have f4:(e.kind==4)=false:=za_ (by omega);have f5:(e.kind==5)=false:=za_ (by omega);have f6:(e.kind==6)=false:=za_ (by omega);have f7:(e.kind==7)=true:=by rw[kk];exact decide_eq_true (by omega)
  have f8:(e.kind==8)=false:=za_ (by omega);have f9:(e.kind==9)=false:=za_ (by omega);cases q0:(e.n==0)
  all_goals cases q1:(e.args.length==2)
  all_goals rw[q1]at l2
  all_goals(repeat' (first|((with_reducible refine jU ?_);intro K hK)|((with_reducible refine hK _ ?_);clear hK K)|(with_reducible refine je ?_ ?_)|((with_reducible refine gi ?_);first|(refine dN ?_ ?_;rfl)|(refine dP ?_ ?_;(rfl;refine gF ?_)))|((with_reducible refine jY ?_);first|refine fH (hc:=c1) (h:= ?_)|refine fH (hc:=c2) (h:= ?_)|refine fH (hc:=c3) (h:= ?_)|refine fH (hc:=c4) (h:= ?_)|refine fH (hc:=c5) (h:= ?_))|((with_reducible refine eF ?_);refine ss (Zm f1 (Zm f2 (Zm f3 (Zm f4 (Zm f5 (Zm f6 (Zm f7 (Zm f8 (Zm f9 (Zm q0 l2)))))))))) ?_)|refine nv ?_|(exact GExpr.el _)|exact yu|exact lq))
  all_goals exact dS ⟨_,rfl,⟨by simp[gX],trivial⟩⟩
 by_cases k8:e.kind=8
 ·have e1:jP e=(e.n==0 && rG e.text && e.args.length==3):=by unfold jP;simp[k8,k1,k2,k3,k4,k5,k6,k7]
  rw[e1];have f1:(e.kind==1)=false:=za_ (by omega);have f2:(e.kind==2)=false:=za_ (by omega);have f3:(e.kind==3)=false:=za_ (by omega);have f4:(e.kind==4)=false:=za_ (by omega);have f5:(e.kind==5)=false:=za_ (by omega);have f6:(e.kind==6)=false:=za_ (by omega);have f7:(e.kind==7)=false:=za_ (by omega);have f8:(e.kind==8)=true:=by rw[kk];exact decide_eq_true (by omega)
  have f9:(e.kind==9)=false:=za_ (by omega);cases q0:(e.n==0)
  all_goals cases q1:rG e.text
  all_goals cases q2:(e.args.length==3)
  all_goals rw[q1]at tn
  all_goals rw[q2]at l3
  all_goals(repeat' (first|((with_reducible refine jU ?_);intro K hK)|((with_reducible refine hK _ ?_);clear hK K)|(with_reducible refine je ?_ ?_)|((with_reducible refine gi ?_);first|(refine dN ?_ ?_;rfl)|(refine dP ?_ ?_;(rfl;refine gF ?_)))|((with_reducible refine jY ?_);first|refine fH (hc:=c1) (h:= ?_)|refine fH (hc:=c2) (h:= ?_)|refine fH (hc:=c3) (h:= ?_)|refine fH (hc:=c4) (h:= ?_)|refine fH (hc:=c5) (h:= ?_))|((with_reducible refine eF ?_);refine ss (Zm f1 (Zm f2 (Zm f3 (Zm f4 (Zm f5 (Zm f6 (Zm f7 (Zm f8 (Zm f9 (Zm q0 (Zm tn l3))))))))))) ?_)|refine nv ?_|(exact GExpr.el _)|exact yu|exact lq))
  all_goals exact dS ⟨_,rfl,⟨by simp[gX],trivial⟩⟩
 by_cases k9:e.kind=9
 ·have e1:jP e=(e.n==0 && e.args.length==2 && nmB e.text):=by unfold jP;simp[k9,k1,k2,k3,k4,k5,k6,k7,k8]
  rw[e1];have f1:(e.kind==1)=false:=za_ (by omega);have f2:(e.kind==2)=false:=za_ (by omega);have f3:(e.kind==3)=false:=za_ (by omega);have f4:(e.kind==4)=false:=za_ (by omega);have f5:(e.kind==5)=false:=za_ (by omega);have f6:(e.kind==6)=false:=za_ (by omega);have f7:(e.kind==7)=false:=za_ (by omega);have f8:(e.kind==8)=false:=za_ (by omega);have f9:(e.kind==9)=true:=by rw[kk];exact decide_eq_true (by omega)
  cases q0:(e.n==0)
  all_goals cases q1:(e.args.length==2)
  all_goals rw[q1]at l2
  all_goals(repeat' (first|((with_reducible refine jU ?_);intro K hK)|((with_reducible refine hK _ ?_);clear hK K)|(with_reducible refine je ?_ ?_)|((with_reducible refine gi ?_);first|(refine dN ?_ ?_;rfl)|(refine dP ?_ ?_;(rfl;refine gF ?_)))|((with_reducible refine jY ?_);first|refine fH (hc:=c1) (h:= ?_)|refine fH (hc:=c2) (h:= ?_)|refine fH (hc:=c3) (h:= ?_)|refine fH (hc:=c4) (h:= ?_)|refine fH (hc:=c5) (h:= ?_))|((with_reducible refine eF ?_);refine ss (Zm f1 (Zm f2 (Zm f3 (Zm f4 (Zm f5 (Zm f6 (Zm f7 (Zm f8 (Zm f9 (Zm q0 l2)))))))))) ?_)|refine nv ?_|(exact GExpr.el _)|exact yu|exact lq))
  all_goals exact dS ⟨_,rfl,⟨by simp[gX],trivial⟩⟩
 have e1:jP e=false:=by unfold jP;simp[k1,k2,k3,k4,k5,k6,k7,k8,k9]
 rw[e1];have f1:(e.kind==1)=false:=za_ (by omega);have f2:(e.kind==2)=false:=za_ (by omega);have f3:(e.kind==3)=false:=za_ (by omega);have f4:(e.kind==4)=false:=za_ (by omega);have f5:(e.kind==5)=false:=za_ (by omega);have f6:(e.kind==6)=false:=za_ (by omega);have f7:(e.kind==7)=false:=za_ (by omega);have f8:(e.kind==8)=false:=za_ (by omega);have f9:(e.kind==9)=false:=za_ (by omega)
 all_goals(repeat' (first|((with_reducible refine jU ?_);intro K hK)|((with_reducible refine hK _ ?_);clear hK K)|(with_reducible refine je ?_ ?_)|((with_reducible refine gi ?_);first|(refine dN ?_ ?_;rfl)|(refine dP ?_ ?_;(rfl;refine gF ?_)))|((with_reducible refine jY ?_);first|refine fH (hc:=c1) (h:= ?_)|refine fH (hc:=c2) (h:= ?_)|refine fH (hc:=c3) (h:= ?_)|refine fH (hc:=c4) (h:= ?_)|refine fH (hc:=c5) (h:= ?_))|((with_reducible refine eF ?_);refine ss (Zm f1 (Zm f2 (Zm f3 (Zm f4 (Zm f5 (Zm f6 (Zm f7 (Zm f8 f9)))))))) ?_)|refine nv ?_|(exact GExpr.el _)|exact yu|exact lq))
 all_goals exact dS ⟨_,rfl,⟨by simp[gX],trivial⟩⟩
def Ac :IC:=(zd_ [zz_ 1 (.box (.t 0)),zj_ 2 false] (.seq (zd_ [zk_ 3 0] (.block 0 (.loop (.seq (zd_ [zw_ 4 3,zt_ 5 3 1,zs_ 6 1 5,zf_ 7 false 6,zl_ 8 .lss 4 7] (.cond (.t 8) .skip (.exit 0))) (.seq (.block 1 (zd_ [zt_ 11 3 1,zs_ 12 1 11,zw_ 13 3,ze_ 14 4 12 13,zr_ 15 4 14,zq_ 16 182 15,zz_ 17 (.not (.t 16))] (.cond (.t 17) (zd_ [zj_ 2 false] .ret) .skip))) (.reg false [zw_ 9 3,zm_ 10 .add 9 1,zw_ 3 10])))))) (zd_ [zr_ 18 4 1,zq_ 19 199 18,zw_ 2 19] .ret)))
theorem DZ :bg Tryz.prog (Tryz.f182.body.getD .skip)=some Ac:=by kernel_rfl
def jM(e:GExpr):Prop:=dK Tryz.prog 182 [e.toD] (.c false [.raw (.bool (e.allN))])
theorem Me(e:GExpr)(hw:e.toD.wt≤1048576)(hI:∀y∈e.args,jM y):jM e:=by
 unfold jM;have hlen:=AZ e;refine gW (fn:=Tryz.f182) (t:=2) (hc:=DZ) (h:= ?_);unfold Ac;refine zb_ ?_;change AWP _ _ _ (st0 20 _);refine sS trivial ?_
 repeat' (first|(refine rg_ ?_;intro K hK)|(refine hq_ ?_;clear hK K)|refine ca_ ?_ ?_|refine sz_ trivial ?_|refine nv ?_|(refine c2_ ?_ ?_<;>(intro hb hb';try(exfalso;omega)))|(exact GExpr.el _)|exact bq_|fail)
 refine iU (X:=Nat) (fun i=> [.d,.k,.d,.v (.c false [.raw (.int .i64 ((i:Nat)))])]) (fun _=> []) (fun _ _=> [[.raw (.int .i64 e.kind),.raw (.int .i64 e.n),.raw (.string e.text),.sl false (e.args.map GExpr.toD)]]) (fun i=>i≤e.args.length∧(e.args.take i).all GExpr.allN=true) (fun i=>e.args.length - i) 0 ⟨g_ _,rfl⟩ ?_ ?_
 ·simp[gI,iM,gq,gJ,AV.fits,AC.fits,FB,fP]
 ·rintro i ⟨hi,hall⟩;simp only[FB,fP];by_cases hlt:i<e.args.length
  ·have hT:decide ((i:Int)<(e.args.length:Int))=true:=decide_eq_true (by omega);have hw1:IntKind.i64.wrap ((i:Int)+1)=((i+1:Nat):Int):=iP (by omega);have hix:=gK GExpr.toD e.args hlt;have hmem:e.args[i]∈e.args:=d_ hlt;have htk:e.args.take (i+1)=e.args.take i++ [e.args[i]]:=a_ hlt;have hI1:=hI _ hmem;unfold jM at hI1;cases hb:(e.args[i]).allN
   ·rw[hb]at hI1
    repeat' (first|(refine rg_ ?_;intro K hK)|(refine hq_ ?_;clear hK K)|refine ca_ ?_ ?_|(refine cg_ ?_;first|refine cT_ hI1 ?_)|refine sz_ (a3_ hT hw1 hix) ?_|refine nv ?_|(refine c2_ ?_ ?_<;>(intro hb hb';try(exfalso;omega)))|(exact GExpr.el _)|exact bq_|fail)
    have hn:e.allN=false:=by
     rw[BM,i_.2 ⟨_,hmem,by rw[hb];simp⟩];rfl
    exact dS ⟨_,rfl,⟨by simp[gX,hn],trivial⟩⟩
   ·rw[hb]at hI1
    repeat' (first|(refine rg_ ?_;intro K hK)|(refine hq_ ?_;clear hK K)|refine ca_ ?_ ?_|(refine cg_ ?_;first|refine cT_ hI1 ?_)|refine sz_ (a3_ hT hw1 hix) ?_|refine nv ?_|(refine c2_ ?_ ?_<;>(intro hb hb';try(exfalso;omega)))|(exact GExpr.el _)|exact bq_|fail)
    refine gY (i+1) ?_ ⟨by omega,by rw[htk,j_,hall];simp[hb]⟩ (show e.args.length - (i+1)<e.args.length - i by omega);simp[gI,iM,gq,gJ,AV.fits,AC.fits,FB,fP]
  ·have hT:decide ((i:Int)<(e.args.length:Int))=false:=decide_eq_false (by omega);have hall':e.args.all GExpr.allN=true:=by
    have:e.args.take i=e.args:=b_ (by omega);rw[← this];exact hall
   have hnd:=Ib e hw
   repeat' (first|(refine rg_ ?_;intro K hK)|(refine hq_ ?_;clear hK K)|refine ca_ ?_ ?_|(refine cg_ ?_;first|refine cT_ hnd ?_)|refine sz_ hT ?_|refine nv ?_|(refine c2_ ?_ ?_<;>(intro hb hb';try(exfalso;omega)))|(exact GExpr.el _)|exact bq_|fail)
   have hn:e.allN=jP e:=by rw[BM,hall'];rfl
   exact dS ⟨_,rfl,⟨by simp[gX,hn],trivial⟩⟩
theorem IX :∀(n:Nat) (e:GExpr),e.toD.wt<n→e.toD.wt≤1048576→jM e:=by
 intro n
 induction n with
 |zero=>intro e h;omega
 |succ n ih=>intro e h hw;exact Me e hw (fun y hy=>ih y (by have:=qE hy;omega) (by have:=qE hy;omega))
theorem Md(e:GExpr)(hw:e.toD.wt≤1048576):jM e:=IX _ e (e_ _) hw
def Pm :IC:=(zd_ [zz_ 2 (.box (.t 0)),zk_ 4 0] (zd_ [zw_ 6 1,zm_ 7 .sub 6 1,zw_ 1 7] (.seq (zd_ [zk_ 5 0] (.block 0 (.loop (.seq (zd_ [zw_ 8 5,zt_ 9 3 2,zs_ 10 1 9,zf_ 11 false 10,zl_ 12 .lss 8 11,zw_ 13 12,zv_ 14 13 1,zy_ 15 13 (.bin .geq (.t 14) (.k (.int .i64 0))),zh_ 16 13 15 false] (.cond (.t 16) .skip (.exit 0))) (.seq (.block 1 (.reg false [zt_ 19 3 2,zs_ 20 1 19,zw_ 21 5,ze_ 22 4 20 21,zr_ 23 4 22,zw_ 24 1,zp_ 25 180 23 24,zw_ 1 25])) (.reg false [zw_ 17 5,zm_ 18 .add 17 1,zw_ 5 18])))))) (zd_ [zw_ 26 1,zw_ 4 26] .ret))))
theorem Nq :bg Tryz.prog (Tryz.f180.body.getD .skip)=some Pm:=by kernel_rfl
def qm(e:GExpr):Prop:=∀n:Int,0≤n→n≤1048576→dK Tryz.prog 180 [e.toD,li n] (.c false [.raw (.int .i64 (e.left n))])
theorem WT(e:GExpr)(hw:e.toD.wt≤1048576)(hI:∀y∈e.args,qm y):qm e:=by
 unfold qm;intro n hn hn2;have hws:IntKind.i64.wrap (n - 1)=n - 1:=iY (by omega) (by omega);have hlen:=AZ e;refine gW (fn:=Tryz.f180) (t:=4) (hc:=Nq) (h:= ?_);unfold Pm;refine zb_ ?_;change AWP _ _ _ (st0 27 _);refine sS trivial ?_
 repeat' (first|(refine rg_ ?_;intro K hK)|(refine hq_ ?_;clear hK K)|refine ca_ ?_ ?_|refine gq_ ?_|(refine c2_ ?_ ?_<;>(intro hb hb';try(exfalso;omega)))|refine sz_ trivial ?_|refine nv ?_|(exact GExpr.el _)|exact bq_|fail)
 have h00:=GExpr.sK e.args (n - 1) (by omega);refine iU (X:=Nat) (fun i=> [.d,.v (.c false [.raw (.int .i64 (GExpr.lefts (e.args.take i) (n - 1)))]),.k,.d,.d,.v (.c false [.raw (.int .i64 ((i:Nat)))])]) (fun _=> []) (fun _ _=> [[.raw (.int .i64 e.kind),.raw (.int .i64 e.n),.raw (.string e.text),.sl false (e.args.map GExpr.toD)]]) (fun i=>i≤e.args.length) (fun i=>e.args.length - i) 0 (g_ _) ?_ ?_
 ·simp[gI,iM,gq,gJ,AV.fits,AC.fits,FB,fP,GExpr.lefts]
 ·intro i hi;simp only[FB,fP];have h0:=GExpr.sK (e.args.take i) (n - 1) (by omega);have hv:=WU e n;by_cases hlt:i<e.args.length
  ·have hT:decide ((i:Int)<(e.args.length:Int))=true:=decide_eq_true (by omega);have hw1:IntKind.i64.wrap ((i:Int)+1)=((i+1:Nat):Int):=iP (by omega);have hix:=gK GExpr.toD e.args hlt;have hmem:e.args[i]∈e.args:=d_ hlt;have htk:e.args.take (i+1)=e.args.take i++ [e.args[i]]:=a_ hlt;have hI1:=hI _ hmem;unfold qm at hI1;have happ:=F7 (e.args.take i) e.args[i] (n - 1);rw[← htk]at happ;cases hb:decide (GExpr.lefts (e.args.take i) (n - 1)≥0)
   ·have hneg:GExpr.lefts (e.args.take i) (n - 1)<0:=by have:=of_decide_eq_false hb;omega
    have hall:GExpr.lefts e.args (n - 1)=GExpr.lefts (e.args.take i) (n - 1):=by
     have e1:e.args=e.args.take i++e.args.drop i:=(h_ i e.args).symm;have e2:∀(a b:List GExpr) (m:Int),GExpr.lefts a m<0→GExpr.lefts (a++b) m=GExpr.lefts a m:=by
      intro a
      induction a with
      |nil=>intro b m hm;simp only[GExpr.lefts]at hm;rw[List.nil_append,F6 b hm];simp[GExpr.lefts]
      | cons x a ih=>
        intro b m hm;simp only[c_,GExpr.lefts]at hm⊢;split
        ·next h=>rw[if_pos h]at hm;exact ih b _ hm
        ·rfl
     rw[← e2 (e.args.take i) (e.args.drop i) (n - 1) hneg,h_]
    repeat' (first|(refine rg_ ?_;intro K hK)|(refine hq_ ?_;clear hK K)|refine ca_ ?_ ?_|refine gq_ ?_|(refine c2_ ?_ ?_<;>(intro hb hb';try(exfalso;omega)))|refine sz_ (a4_ hT hw1 hix hb) ?_|refine nv ?_|(exact GExpr.el _)|exact bq_|fail)
    exact dS ⟨_,rfl,⟨by simp[gX,hv,hall],trivial⟩⟩
   ·have hpos:GExpr.lefts (e.args.take i) (n - 1)≥0:=of_decide_eq_true hb;rw[if_pos hpos]at happ;have hI2:=hI1 _ hpos (by omega)
    repeat' (first|(refine rg_ ?_;intro K hK)|(refine hq_ ?_;clear hK K)|refine ca_ ?_ ?_|refine gq_ ?_|(refine c2_ ?_ ?_<;>(intro hb hb';try(exfalso;omega)))|(refine cg_ ?_;first|refine cT_ hI2 ?_)|refine sz_ (a4_ hT hw1 hix hb) ?_|refine nv ?_|(exact GExpr.el _)|exact bq_|fail)
    refine gY (i+1) ?_ (by omega) (show e.args.length - (i+1)<e.args.length - i by omega);simp[gI,iM,gq,gJ,AV.fits,AC.fits,FB,fP,happ]
  ·have hT:decide ((i:Int)<(e.args.length:Int))=false:=decide_eq_false (by omega);have hall:e.args.take i=e.args:=b_ (by omega)
   repeat' (first|(refine rg_ ?_;intro K hK)|(refine hq_ ?_;clear hK K)|refine ca_ ?_ ?_|refine gq_ ?_|(refine c2_ ?_ ?_<;>(intro hb hb';try(exfalso;omega)))|refine sz_ hT ?_|refine nv ?_|(exact GExpr.el _)|exact bq_|fail)
   exact dS ⟨_,rfl,⟨by simp[gX,hv,hall],trivial⟩⟩
theorem Un :∀(n:Nat) (e:GExpr),e.toD.wt<n→e.toD.wt≤1048576→qm e:=by
 intro n
 induction n with
 |zero=>intro e h;omega
 |succ n ih=>intro e h hw;exact WT e hw (fun y hy=>ih y (by have:=qE hy;omega) (by have:=qE hy;omega))
theorem WS(e:GExpr)(hw:e.toD.wt≤1048576):qm e:=Un _ e (e_ _) hw
def zW :IC:=(zd_ [zk_ 4 0] (.seq (zd_ [zw_ 5 0,zw_ 6 1,zl_ 7 .gtr 5 6] (.cond (.t 7) (zd_ [zw_ 8 0,zw_ 4 8] .ret) .skip)) (zd_ [zw_ 9 1,zw_ 4 9] .ret)))
theorem DF :bg Tryz.prog (Tryz.f137.body.getD .skip)=some zW:=by kernel_rfl
theorem JM(a b:Nat):dK Tryz.prog 137 [li (a:Int),li (b:Int)] (.c false [.raw (.int .i64 ((max a b:Nat):Int))]):=by
 refine gW (fn:=Tryz.f137) (t:=4) (hc:=DF) (h:= ?_);unfold zW;refine zb_ ?_;change AWP _ _ _ (st0 10 _);refine sS trivial ?_;by_cases h:(a:Int) >(b:Int)
 ·have hT:decide ((a:Int) >(b:Int))=true:=decide_eq_true h
  repeat' (first|(refine rg_ ?_;intro K hK)|(refine hq_ ?_;clear hK K)|refine ca_ ?_ ?_|refine sz_ hT ?_|refine nv ?_|(refine c2_ ?_ ?_<;>(intro hb hb';try(exfalso;omega)))|(exact GExpr.el _)|exact bq_|fail)
  exact dS ⟨_,rfl,⟨by simp[gX];omega,trivial⟩⟩
 ·have hT:decide ((a:Int) >(b:Int))=false:=decide_eq_false h
  repeat' (first|(refine rg_ ?_;intro K hK)|(refine hq_ ?_;clear hK K)|refine ca_ ?_ ?_|refine sz_ hT ?_|refine nv ?_|(refine c2_ ?_ ?_<;>(intro hb hb';try(exfalso;omega)))|(exact GExpr.el _)|exact bq_|fail)
  exact dS ⟨_,rfl,⟨by simp[gX];omega,trivial⟩⟩
def xP :IC:=(zd_ [zz_ 1 (.box (.t 0)),zk_ 2 0] (zd_ [zk_ 3 0] (.seq (zd_ [zk_ 4 0] (.block 0 (.loop (.seq (zd_ [zw_ 5 4,zt_ 6 3 1,zs_ 7 1 6,zf_ 8 false 7,zl_ 9 .lss 5 8] (.cond (.t 9) .skip (.exit 0))) (.seq (.block 1 (.reg false [zw_ 12 3,zt_ 13 3 1,zs_ 14 1 13,zw_ 15 4,ze_ 16 4 14 15,zr_ 17 4 16,zq_ 18 181 17,zp_ 19 137 12 18,zw_ 3 19])) (.reg false [zw_ 10 4,zm_ 11 .add 10 1,zw_ 4 11])))))) (zd_ [zw_ 20 3,zm_ 21 .add 20 1,zw_ 2 21] .ret))))
theorem AP :bg Tryz.prog (Tryz.f181.body.getD .skip)=some xP:=by kernel_rfl
def jE(e:GExpr):Prop:=dK Tryz.prog 181 [e.toD] (.c false [.raw (.int .i64 ((e.nest:Nat):Int))])
theorem Ie(e:GExpr)(hw:e.toD.wt≤1048576)(hI:∀y∈e.args,jE y):jE e:=by
 unfold jE;have hlen:=AZ e;refine gW (fn:=Tryz.f181) (t:=2) (hc:=AP) (h:= ?_);unfold xP;refine zb_ ?_;change AWP _ _ _ (st0 22 _);refine sS trivial ?_
 repeat' (first|(refine rg_ ?_;intro K hK)|(refine hq_ ?_;clear hK K)|refine ca_ ?_ ?_|refine sz_ trivial ?_|refine nv ?_|(refine c2_ ?_ ?_<;>(intro hb hb';try(exfalso;omega)))|(exact GExpr.el _)|exact bq_|fail)
 have hnl:=e.OX;refine iU (X:=Nat) (fun i=> [.d,.k,.d,.v (.c false [.raw (.int .i64 (((GExpr.qp (e.args.take i):Nat):Int)))]),.v (.c false [.raw (.int .i64 ((i:Nat)))])]) (fun _=> []) (fun _ _=> [[.raw (.int .i64 e.kind),.raw (.int .i64 e.n),.raw (.string e.text),.sl false (e.args.map GExpr.toD)]]) (fun i=>i≤e.args.length) (fun i=>e.args.length - i) 0 (g_ _) ?_ ?_
 ·simp[gI,iM,gq,gJ,AV.fits,AC.fits,FB,fP,GExpr.qp]
 ·intro i hi;simp only[FB,fP];by_cases hlt:i<e.args.length
  ·have hT:decide ((i:Int)<(e.args.length:Int))=true:=decide_eq_true (by omega);have hw1:IntKind.i64.wrap ((i:Int)+1)=((i+1:Nat):Int):=iP (by omega);have hix:=gK GExpr.toD e.args hlt;have hmem:e.args[i]∈e.args:=d_ hlt;have htk:e.args.take (i+1)=e.args.take i++ [e.args[i]]:=a_ hlt;have hI1:=hI _ hmem;unfold jE at hI1;have happ:=F5 (e.args.take i) e.args[i];rw[← htk]at happ;have hm:=JM (GExpr.qp (e.args.take i)) (e.args[i]).nest;rw[← happ]at hm
   repeat' (first|(refine rg_ ?_;intro K hK)|(refine hq_ ?_;clear hK K)|refine ca_ ?_ ?_|(refine cg_ ?_;first|refine cT_ hI1 ?_|refine cT_ hm ?_)|refine sz_ (a3_ hT hw1 hix) ?_|refine nv ?_|(refine c2_ ?_ ?_<;>(intro hb hb';try(exfalso;omega)))|(exact GExpr.el _)|exact bq_|fail)
   refine gY (i+1) ?_ (by omega) (show e.args.length - (i+1)<e.args.length - i by omega);simp[gI,iM,gq,gJ,AV.fits,AC.fits,FB,fP]
  ·have hT:decide ((i:Int)<(e.args.length:Int))=false:=decide_eq_false (by omega);have hall:e.args.take i=e.args:=b_ (by omega);have hv:=WM e;have hws:IntKind.i64.wrap (((GExpr.qp e.args:Nat):Int)+1)=((GExpr.qp e.args+1:Nat):Int):=iP (by omega);rw[hall]
   repeat' (first|(refine rg_ ?_;intro K hK)|(refine hq_ ?_;clear hK K)|refine ca_ ?_ ?_|refine sz_ (Zm hT hws) ?_|refine nv ?_|(refine c2_ ?_ ?_<;>(intro hb hb';try(exfalso;omega)))|(exact GExpr.el _)|exact bq_|fail)
   exact dS ⟨_,rfl,⟨by simp[gX,hv],trivial⟩⟩
theorem E5 :∀(n:Nat) (e:GExpr),e.toD.wt<n→e.toD.wt≤1048576→jE e:=by
 intro n
 induction n with
 |zero=>intro e h;omega
 |succ n ih=>intro e h hw;exact Ie e hw (fun y hy=>ih y (by have:=qE hy;omega) (by have:=qE hy;omega))
theorem Ic(e:GExpr)(hw:e.toD.wt≤1048576):jE e:=E5 _ e (e_ _) hw
def uJ :IC:=(zd_ [zz_ 1 (.box (.t 0)),zj_ 2 false] (zd_ [zr_ 3 4 1,zn_ 4 180 3 40,zm_ 5 .geq 4 0,zw_ 6 5,zy_ 7 6 (.load 4 true (.t 1)),zy_ 8 6 (.call 181 [(.t 7)]),zy_ 9 6 (.bin .leq (.t 8) (.k (.int .i64 8))),zh_ 10 6 9 false,zw_ 11 10,zy_ 12 11 (.load 4 true (.t 1)),zy_ 13 11 (.call 182 [(.t 12)]),zh_ 14 11 13 false,zw_ 2 14] .ret))
theorem xJ :bg Tryz.prog (Tryz.f155.body.getD .skip)=some uJ:=by kernel_rfl
theorem BX(e:GExpr)(hw:e.toD.wt≤1048576):dK Tryz.prog 155 [e.toD] (.c false [.raw (.bool (G5 e))]):=by
 refine gW (fn:=Tryz.f155) (t:=2) (hc:=xJ) (h:= ?_);unfold uJ;refine zb_ ?_;change AWP _ _ _ (st0 15 _);refine sS trivial ?_;have c1:=WS e hw 40 (by decide) (by decide);have c2:=Ic e hw;have c3:=Md e hw;unfold jE at c2;unfold jM at c3;have h1:=Um e;have h2:decide (((e.nest:Nat):Int)≤8)=decide (e.nest≤8):=by by_cases h:e.nest≤8<;>simp[h]<;>omega
 have hv:G5 e=(decide (e.nodes≤40) && decide (e.nest≤8) && e.allN):=rfl;rw[hv];cases q1:decide (e.nodes≤40)<;>cases q2:decide (e.nest≤8)
 all_goals(rw[q1]at h1;rw[q2]at h2)
 all_goals(repeat' (first|((with_reducible refine jU ?_);intro K hK)|((with_reducible refine hK _ ?_);clear hK K)|(with_reducible refine je ?_ ?_)|((with_reducible refine gi ?_);first|(refine dN ?_ ?_;rfl)|(refine dP ?_ ?_;(rfl;refine gF ?_)))|((with_reducible refine jY ?_);first|refine fH (hc:=c1) (h:= ?_)|refine fH (hc:=c2) (h:= ?_)|refine fH (hc:=c3) (h:= ?_))|((with_reducible refine eF ?_);refine ss (Zm h1 h2) ?_)|refine nv ?_|(exact GExpr.el _)|exact yu|exact lq))
 all_goals exact dS ⟨_,rfl,⟨by simp[gX],trivial⟩⟩
end Go.Proofs.YtfengkmaphbofaaGreatDoor
