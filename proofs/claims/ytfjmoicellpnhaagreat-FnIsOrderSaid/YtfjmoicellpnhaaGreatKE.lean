/-
  Texts joined: Rank OrdP OrdS RankI Orp Orc.
-/
import Derived.Test.YtfjmoicellpnhaaGreatKB
import Derived.Test.YtfjmoicellpnhaaGreatKC
import Derived.Test.YtfjmoicellpnhaaGreatJZ
set_option maxHeartbeats 16000000
set_option maxRecDepth 20000
set_option linter.unusedSimpArgs false
set_option linter.unusedVariables false
namespace Go.Proofs.YtfjmoicellpnhaaGreat
open Go.RowKit
section
open Nat renaming le_refl→a_,zero_le→d_,add_zero→s_,lt_or_ge→B_,mul_one→Q_
open List renaming getElem?_map→b_,getElem?_range→c_,take_succ_eq_append_getElem→e_,length_cons→g_,take_length→h_,range→i_,length_append→l_,length_nil→m_,getElem_mem→o_,all_eq_true→p_,contains_iff_mem→q_,length_map→r_,find?_range_eq_some→v_,getElem?_eq_getElem→x_,mem_filter→y_,foldl_cons→z_,replicate→A_,mem_map→C_,mem_singleton→D_,ext_getElem→H_,nodup_cons→I_,mem_range→K_,mem_cons→N_
open Int renaming toNat_of_nonneg→f_,toNat_natCast→F_
open Lib renaming hid→j_
open Bool renaming and_eq_true→k_,false_eq_true→n_,eq_false_iff→u_,not_eq_true'→E_
open Lit renaming int→t_
open Or renaming inl→w_,inr→O_
attribute [local irreducible] sw sd sn
theorem He{p q:Nat→Bool}:∀{n:Nat},(∀x,x<n→p x=true→q x=true)→cO p (fun _=>1) n≤cO q (fun _=>1) n
 |0,_=>a_ _
 | n+1,h=>by
   have ih:=He (p:=p) (q:=q) (n:=n) (fun x hx=>h x (by omega));have h2:=h n (by omega);simp only[cO];cases hp:p n with
   |true=>rw[h2 hp];simp;exact ih
   |false=>simp;omega
theorem P7{p q:Nat→Bool}{k:Nat}(hp:p k=false)(hq:q k=true):∀{n:Nat},(∀x,x<n→p x=true→q x=true)→k<n→cO p (fun _=>1) n<cO q (fun _=>1) n
 |0,_,h=>by omega
 | n+1,h,hk=>by
   simp only[cO];rcases B_ k n with h'|h'
   ·have ih:=P7 hp hq (n:=n) (fun x hx=>h x (by omega)) h';have h2:=h n (by omega);cases hpn:p n with
    |true=>rw[h2 hpn];simp;exact ih
    |false=>simp;omega
   ·obtain rfl:k=n:=by omega
    have:=He (p:=p) (q:=q) (n:=k) (fun x hx=>h x (by omega));rw[hp,hq];simp;omega
theorem aff{g:Int→List Nat}{z:Int}{v x:Nat}(hv:v∈g z)(h:Rch g (v:Int) x):Rch g z x:=by
 induction h with
 |one h=>exact .more (.one hv) h
 |more _ h ih=>exact .more ih h
noncomputable def mu(l:List GPart)(k:Nat):Nat:=cO (afg (nrI l false) (k:Int)) (fun _=>1) l.length
theorem ail(l:List GPart)(k:Nat):mu l k≤l.length:=Bz
noncomputable def nd(l:List GPart)(k:Nat):List Nat:=lU l (k:Int)
theorem Vf{l:List GPart}{k u:Nat}(h:u∈nd l k):bI l (u:Int)=true:=(y_.1 h).2
theorem afc{l:List GPart}{u:Nat}(h:bI l (u:Int)=true):onC l (u:Int)=false:=by
 obtain⟨h0,h1⟩:=lM l _ h;have:=Gs l h0 h1;rw[h]at this;cases hc:onC l (u:Int)with
 |false=>rfl
 |true=>rw[hc]at this;simp at this
theorem QK{l:List GPart}{k u:Nat}(hu:u∈nd l k):mu l u<mu l k:=by
 have hd:u∈nrI l false (k:Int):=(y_.1 hu).1;have hlt:u<l.length:=ac1 l _ u hu;refine P7 (k:=u) ?_ (uS.2 (.one hd)) (fun x hx h=>uS.2 (aff hd (uS.1 h))) hlt;rw[u_];intro h;have h1:=afc (Vf hu);have:onC l (u:Int)=true:=by
  unfold onC;rw[ku,q_,ahI];exact⟨hlt,uS.1 h⟩
 rw[h1]at this;cases this
def D6(g:Nat→Nat)(us:List Nat):Nat:=us.foldl (fun a u=>max a (g u)) 0
theorem vS{g h:Nat→Nat}:∀{us:List Nat},(∀u∈us,g u=h u)→∀a,us.foldl (fun a u=>max a (g u)) a=us.foldl (fun a u=>max a (h u)) a
 | [],_,a=>rfl
 | u::us,e,a=>by
   simp only[z_];rw[e u (by simp)];exact vS (fun x hx=>e x (by simp[hx])) _
theorem aaj(g:Nat→Nat)(us:List Nat){k:Nat}(h:k<us.length):D6 g (us.take (k+1))=max (D6 g (us.take k)) (g us[k]):=by
 unfold D6;rw[e_ h,List.foldl_append];rfl
theorem Jv{g:Nat→Nat}{n:Nat}:∀{us:List Nat} {a:Nat},(∀u∈us,g u≤n)→a≤n→us.foldl (fun a u=>max a (g u)) a≤n
 | [],a,_,h=>h
 | u::us,a,hu,h=>by
   simp only[z_];exact Jv (fun x hx=>hu x (by simp[hx])) (Nat.max_le.2 ⟨h,hu u (by simp)⟩)
def rkF(f:Nat→List Nat):Nat→Nat→Nat
 |0,_=>0
 |n+1,k=>1+D6 (rkF f n) (f k)
theorem abS(f:Nat→List Nat):∀n k,rkF f n k≤n
 |0,_=>a_ _
 | n+1,k=>by
   have:D6 (rkF f n) (f k)≤n:=Jv (fun u _=>abS f n u) (d_ _);simp only[rkF];omega
noncomputable def rk(l:List GPart)(k:Nat):Nat:=rkF (nd l) (mu l k+1) k
theorem agU(l:List GPart)(k:Nat):rk l k≤l.length+1:=by
 have h1:=abS (nd l) (mu l k+1) k;have:=ail l k;unfold rk;omega
theorem Ob(l:List GPart):∀m k,mu l k≤m→∀n,mu l k<n→rkF (nd l) n k=rk l k
 | 0,k,hm,n+1,hn=>by
   unfold rk;simp only[rkF];congr 1;refine vS (fun u hu=> ?_) 0;have:=QK hu;omega
 | m+1,k,hm,n+1,hn=>by
   unfold rk;simp only[rkF];congr 1;refine vS (fun u hu=> ?_) 0;have hlt:=QK hu;rw[Ob l m u (by omega) n (by omega),Ob l m u (by omega) (mu l k) (by omega)]
theorem agV(l:List GPart)(k:Nat):rk l k=1+D6 (rk l) (nd l k):=by
 show rkF (nd l) (mu l k+1) k=_;simp only[rkF];congr 1;exact vS (fun u hu=>Ob l (mu l u) u (a_ _) _ (QK hu)) 0
noncomputable def wR(l:List GPart)(z:Int):Nat:=if bI l z then rk l z.toNat else 0
theorem ZR{l:List GPart}{z:Int}(h:bI l z=false):wR l z=0:=by unfold wR;rw[if_neg (by simp[h])]
theorem BN{l:List GPart}{k:Nat}(h:bI l (k:Int)=true):wR l (k:Int)=rk l k:=by unfold wR;rw[if_pos h];simp
noncomputable def okR(l:List GPart)(o:List Int)(k:Nat):Bool:= !fF o (k:Int) && bI l (k:Int) && sN (lU l (k:Int)) o
noncomputable def nxt(l:List GPart)(o:List Int):Option Nat:=(i_ l.length).find? (okR l o)
noncomputable def dY(l:List GPart):Nat→List Int
 |0=> []
 |j+1=>match nxt l (dY l j)with|some k=>dY l j++ [(k:Int)]|none=>dY l j
noncomputable def iK(l:List GPart):List Int:=dY l (l.length+1)
theorem QG{l:List GPart}{o:List Int}{k:Nat}(h:k<l.length)(e:okR l o k=true)(hn:∀m,m<k→okR l o m=false):nxt l o=some k:=by
 unfold nxt;rw[v_];exact⟨e,K_.2 h,fun j hj=>by rw[hn j hj];rfl⟩
theorem xK{l:List GPart}{o:List Int}:nxt l o=none↔∀m,m<l.length→okR l o m=false:=by
 unfold nxt;rw[List.find?_range_eq_none];exact⟨fun h m hm=>by have:=h m hm;simpa using this,fun h m hm=>by rw[h m hm];rfl⟩
theorem Ad{l:List GPart}{j k:Nat}(h:nxt l (dY l j)=some k):dY l (j+1)=dY l j++ [(k:Int)]:=by rw[dY,h]
theorem pq{l:List GPart}{j:Nat}(h:nxt l (dY l j)=none):∀i,dY l (j+i)=dY l j
 |0=>rfl
 | i+1=>by
   have ih:=pq h i;rw[← Nat.add_assoc,dY,ih,h]
theorem acV{R:Int→Bool}{M:Int→List Int→Bool}{o:List Int}{z:Int}{k:Nat}(h:k<o.length):aag R M (o++ [z]) k=aag R M o k:=by
 rw[tH h,tH (by simp;omega),List.getElem_append_left h,List.take_append_of_le_length (by omega)]
theorem QF{R:Int→Bool}{M:Int→List Int→Bool}{o:List Int}{z:Int}:∀{k:Nat},k≤o.length→lN R M (o++ [z]) k=lN R M o k
 |0,_=>rfl
 | k+1,h=>by
   simp only[lN];rw[QF (by omega),acV (by omega)]
theorem Ie{l:List GPart}{o:List Int}{k:Nat}(h:lN (bI l) (uz l) o o.length=true)(e:okR l o k=true):lN (bI l) (uz l) (o++ [(k:Int)]) (o++ [(k:Int)]).length=true:=by
 have hl:(o++ [(k:Int)]).length=o.length+1:=by simp
 unfold okR at e;simp only[k_]at e;rw[hl];simp only[lN];rw[QF (a_ _),h,tH (by simp)];simp only[List.take_left',List.getElem_concat_length,List.getElem_append_right,a_,Nat.sub_self,List.getElem_cons_zero];unfold uz;rw[e.1.1,e.1.2,e.2];rfl
def I4 :IC:=(zd_ [zz_ 2 (.mov (.k (.slice none 0 0)))] (zd_ [zz_ 5 (.brow true 3 1 0 false []),zw_ 3 5] (.block 0 (.loop (.block 1 (zd_ [zk_ 4 0] (.seq (.block 2 (.loop (.seq (zd_ [zw_ 6 4,zw_ 7 0,zf_ 8 false 7,zl_ 9 .lss 6 8,zw_ 10 9,zv_ 11 10 3,zv_ 12 10 4,zy_ 13 10 (.call 58 [(.t 11),(.t 12)]),zv_ 14 10 13,zu_ 15 14 0,zu_ 16 14 4,zx_ 17 14 (.call 51 [(.t 15),(.t 16)]),zx_ 18 14 (.not (.t 17)),zy_ 19 10 (.pick (.t 14) (.k (.bool true)) (.t 18)),zv_ 20 10 19,zu_ 21 20 0,zu_ 22 20 4,zx_ 23 20 (.call 79 [(.t 21),(.t 22)]),zu_ 24 20 3,zx_ 25 20 (.call 78 [(.t 23),(.t 24)]),zx_ 26 20 (.not (.t 25)),zy_ 27 10 (.pick (.t 20) (.k (.bool true)) (.t 26)),zh_ 28 10 27 false] (.cond (.t 28) .skip (.exit 2))) (.block 3 (.reg false [zw_ 29 4,zm_ 30 .add 29 1,zw_ 4 30]))))) (.seq (zd_ [zw_ 31 4,zw_ 32 0,zf_ 33 false 32,zl_ 34 .eql 31 33] (.cond (.t 34) (zd_ [zw_ 35 3,zw_ 2 35] .ret) .skip)) (.reg false [zw_ 36 3,zw_ 37 4,zz_ 38 (.brow false 3 1 1 false [(.t 37)]),zz_ 39 (.app 3 1 (.t 36) (.t 38)),zw_ 3 39])))))))))
theorem KI :ak Tryz.prog (Tryz.f48.body.getD .skip)=some I4:=by kernel_rfl
theorem uV{l:List GPart}{o:List Int}{k:Nat}(hno:∀m,m<k→okR l o m=false)(e:okR l o k=false):∀m,m<k+1→okR l o m=false:=fun m hm=>by
 rcases B_ m k with h'|h'
 ·exact hno m h'
 ·obtain rfl:m=k:=by omega
  exact e
theorem DY{l:List GPart}{o:List Int}(h:lN (bI l) (uz l) o o.length=true):o.length≤l.length:=acU (lM l) (a_ _) h
theorem uP (l:List GPart)(hw:l.length+D.wts (l.map GPart.toD)≤1048576):bZ Tryz.prog 48 [.sl (l.map GPart.toD)] ((iK l).map li) 3 1:=by
 have hn:l.length≤1048576:=by omega
 refine fM (fn:=Tryz.f48) (t:=2) (hc:=KI) (h:= ?_);unfold I4;refine zb_ ?_;change AWP _ _ _ (st0 40 _);refine sS trivial ?_
 repeat' (first|(refine rg_ ?_;intro K hK)|(refine hq_ ?_;clear hK K)|refine ca_ ?_ ?_|refine gq_ ?_|refine sz_ (a4_ @aJ @aO @au @GPart.el) ?_|refine nv ?_|exact bq_|fail)
 refine aQ (X:=Nat×Nat) (fun q=> [.k,.d,.d,.v (.c false [.own 0 q.2])]) (fun q=> [⟨(dY l q.1).map li,3,1,q.2,true⟩]) (fun q bs=>bs) (fun q=>(dY l q.1).length=q.1∧lN (bI l) (uz l) (dY l q.1) (dY l q.1).length=true) (fun q=>l.length - q.1) (0,0) ⟨rfl,rfl⟩ ?_ ?_
 ·simp[aG,aU,aC,aF,AV.fits,AC.fits,FB,aB,dY]
 rintro⟨j,v⟩ ⟨hj,hok⟩;simp only at hj hok;have hjn:=DY hok;have hsome:=fun k=>Ad (l:=l) (j:=j) (k:=k)
 have hnone:=pq (l:=l) (j:=j);have hfin:iK l=dY l (l.length+1):=rfl;obtain⟨o,ho⟩:∃o,dY l j=o:=⟨_,rfl⟩
 simp only[FB,aB];rw[ho]at hj hok hjn hnone;simp only[ho]at hsome⊢
 repeat' (first|(refine rg_ ?_;intro K hK)|(refine hq_ ?_;clear hK K)|refine ca_ ?_ ?_|refine gq_ ?_|refine sz_ (a4_ @aJ @aO @au @GPart.el) ?_|refine nv ?_|exact bq_|fail)
 refine aQ (X:=Nat) (fun q=> [.k,.d,.d,.k,.v (.c false [.raw (.int .i64 (q:Nat))])]) (fun q=> [⟨o.map li,3,1,v,true⟩]) (fun q bs=>bs) (fun q=>q≤l.length∧∀m,m<q→okR l o m=false) (fun q=>l.length - q) 0 ⟨d_ _,fun m hm=>by omega⟩ ?_ ?_
 ·simp[aG,aU,aC,aF,AV.fits,AC.fits,FB,aB]
 rintro k ⟨hk,hno⟩;simp only[FB,aB];by_cases hlt:k<l.length
 ·have hrun :=iQ l (k:Int) hw;have hnl:=yP l (k:Int);have hne:=yK (uy l (k:Int) hw);have hha:=rW o (k:Int) (by omega);have hall:=Dq (lU l (k:Int)) o (by omega) (by omega);have hex:okR l o k=(!fF o (k:Int) && bI l (k:Int) && sN (lU l (k:Int)) o):=rfl;obtain⟨ns,hns⟩:∃ns,lU l (k:Int)=ns:=⟨_,rfl⟩
  rw[hns]at hnl hne hall hex;cases h1:fF o (k:Int)with
  | true=>
    have hnn:=uV hno (by rw[hex,h1];simp)
    repeat' (first|(refine rg_ ?_;intro K hK)|(refine hq_ ?_;clear hK K)|refine ca_ ?_ ?_|refine gq_ ?_|(refine cg_ ?_;first|refine cT_ hha ?_|refine cT_ hrun ?_|refine cT_ hne ?_|refine cT_ hall ?_)|refine sz_ (a5_ @aJ @aO @au @GPart.el h1) ?_|refine nv ?_|exact bq_|fail)
    refine aP (k+1) ?_ ⟨by omega,hnn⟩ (show l.length - (k+1)<l.length - k by omega);simp[aG,aU,aC,aF,AV.fits,AC.fits,FB,aB]
  | false=>
    cases h2:bI l (k:Int)with
    | false=>
      have hnn:=uV hno (by rw[hex,h2];simp)
      repeat' (first|(refine rg_ ?_;intro K hK)|(refine hq_ ?_;clear hK K)|refine ca_ ?_ ?_|refine gq_ ?_|(refine cg_ ?_;first|refine cT_ hha ?_|refine cT_ hrun ?_|refine cT_ hne ?_|refine cT_ hall ?_)|refine sz_ (a6_ @aJ @aO @au @GPart.el h1 h2) ?_|refine nv ?_|exact bq_|fail)
      refine aP (k+1) ?_ ⟨by omega,hnn⟩ (show l.length - (k+1)<l.length - k by omega);simp[aG,aU,aC,aF,AV.fits,AC.fits,FB,aB]
    | true=>
      cases h3:sN ns o with
      | false=>
        have hnn:=uV hno (by rw[hex,h3];simp)
        repeat' (first|(refine rg_ ?_;intro K hK)|(refine hq_ ?_;clear hK K)|refine ca_ ?_ ?_|refine gq_ ?_|(refine cg_ ?_;first|refine cT_ hha ?_|refine cT_ hrun ?_|refine cT_ hne ?_|refine cT_ hall ?_)|refine sz_ (a7_ @aJ @aO @au @GPart.el h1 h2 h3) ?_|refine nv ?_|exact bq_|fail)
        refine aP (k+1) ?_ ⟨by omega,hnn⟩ (show l.length - (k+1)<l.length - k by omega);simp[aG,aU,aC,aF,AV.fits,AC.fits,FB,aB]
      | true=>
        rw[h1,h2,h3]at hex;have hadd:=Ie hok hex;have hs:=hsome k (QG hlt hex hno);have hjn2:=DY hadd;rw[l_,g_,m_]at hjn2
        repeat' (first|(refine rg_ ?_;intro K hK)|(refine hq_ ?_;clear hK K)|refine ca_ ?_ ?_|refine gq_ ?_|(refine cg_ ?_;first|refine cT_ hha ?_|refine cT_ hrun ?_|refine cT_ hne ?_|refine cT_ hall ?_)|refine sz_ (a7_ @aJ @aO @au @GPart.el h1 h2 h3) ?_|refine nv ?_|exact bq_|fail)
        all_goals first
         |(simp only[r_,l_,g_,m_];omega)
         | (refine aP (j+1,v+1) ?_ ⟨by simp only[hs];simp;omega,by simp only[hs];exact hadd⟩ (show l.length - (j+1)<l.length - j by omega)
            simp[aG,aU,aC,aF,AV.fits,AC.fits,FB,aB,hs,li])
 ·obtain rfl:k=l.length:=by omega
  have he:=hnone (xK.2 hno) (l.length+1 - j);rw[show j+(l.length+1 - j)=l.length+1 by omega,← hfin]at he;rw[he]
  repeat' (first|(refine rg_ ?_;intro K hK)|(refine hq_ ?_;clear hK K)|refine ca_ ?_ ?_|refine gq_ ?_|refine sz_ (a4_ @aJ @aO @au @GPart.el) ?_|refine nv ?_|exact bq_|fail)
  exact aS ⟨0,_,_,rfl,rfl,rfl,rfl,rfl,rfl,w_ rfl⟩
theorem tu(l:List GPart):lN (bI l) (uz l) (iK l) (iK l).length=true∧nxt l (iK l)=none:=by
 have key:∀j,lN (bI l) (uz l) (dY l j) (dY l j).length=true∧(nxt l (dY l j)=none∨(dY l j).length=j):=by
  intro j
  induction j with
  |zero=>exact⟨rfl,O_ rfl⟩
  | succ j ih=>
    cases hx:nxt l (dY l j)with
    | none=>
      have:=pq hx 1;rw[this];exact⟨ih.1,w_ hx⟩
    | some k=>
      have hs:=Ad hx;have h1:=hx;unfold nxt at h1;rw[v_]at h1;rw[hs];refine⟨Ie ih.1 h1.1,O_ ?_⟩;rcases ih.2 with h|h
      ·rw[hx]at h;cases h
      ·simp[h]
 obtain⟨h1,h2⟩:=key (l.length+1);refine⟨h1, ?_⟩;rcases h2 with h|h
 ·exact h
 ·have:=DY h1;omega
theorem BR(l:List GPart):∀(m k:Nat),mu l k≤m→bI l (k:Int)=true→fF (iK l) (k:Int)=true:=by
 intro m
 induction m with
 | zero=>
   intro k hm h;have hn:∀u∈nd l k,fF (iK l) (u:Int)=true:=fun u hu=>absurd (QK hu) (by omega)
   have h1:=xK.1 (tu l).2 k (by have:=lM l _ h;omega);unfold okR at h1;have h2:sN (lU l (k:Int)) (iK l)=true:=p_.2 hn;rw[h,h2]at h1;simpa using h1
 | succ m ih=>
   intro k hm h;have hn:∀u∈nd l k,fF (iK l) (u:Int)=true:=fun u hu=>ih u (by have:=QK hu;omega) (Vf hu)
   have h1:=xK.1 (tu l).2 k (by have:=lM l _ h;omega);unfold okR at h1;have h2:sN (lU l (k:Int)) (iK l)=true:=p_.2 hn;rw[h,h2]at h1;simpa using h1
theorem XU(l:List GPart){j:Nat}(h:j<(iK l).length):∃k:Nat,(iK l)[j]=(k:Int)∧bI l (k:Int)=true∧¬(k:Int)∈(iK l).take j∧∀u∈nd l k,(u:Int)∈(iK l).take j:=by
 have h1:=DZ (k:=j+1) h (tu l).1;simp only[lN,k_]at h1;have h2:=h1.2;rw[tH h]at h2;simp only[k_,E_]at h2;obtain⟨h0,hlt⟩:=lM l _ h2.1.1;refine⟨(iK l)[j].toNat,by omega, ?_, ?_, ?_⟩
 ·rw[f_ h0];exact h2.1.1
 ·rw[f_ h0];intro hm;rw[rV.2 hm]at h2;simp at h2
 ·intro u hu;unfold nd at hu;rw[f_ h0]at hu;exact rV.1 (p_.1 h2.2 u hu)
end
section
open Nat renaming le_refl→a_,zero_le→d_,add_zero→s_,lt_or_ge→B_,mul_one→Q_
open List renaming getElem?_map→b_,getElem?_range→c_,take_succ_eq_append_getElem→e_,length_cons→g_,take_length→h_,range→i_,length_append→l_,length_nil→m_,getElem_mem→o_,all_eq_true→p_,contains_iff_mem→q_,length_map→r_,find?_range_eq_some→v_,getElem?_eq_getElem→x_,mem_filter→y_,foldl_cons→z_,replicate→A_,mem_map→C_,mem_singleton→D_,ext_getElem→H_,nodup_cons→I_,mem_range→K_,mem_cons→N_
open Int renaming toNat_of_nonneg→f_,toNat_natCast→F_
open Lib renaming hid→j_
open Bool renaming and_eq_true→k_,false_eq_true→n_,eq_false_iff→u_,not_eq_true'→E_
open Lit renaming int→t_
open Or renaming inl→w_,inr→O_
def qE(l:List GPart)(k:Nat):List D:=(i_ k).map fun i=> .sl ((du l i).map ln)
theorem UR(l:List GPart)(k:Nat):qE l (k+1)=qE l k++ [.sl ((du l k).map ln)]:=by simp[qE,List.range_succ]
theorem uI(l:List GPart)(k:Nat):(qE l k).length=k:=by simp[qE]
theorem rE(l:List GPart)(k:Nat):El 1 (qE l k):=fun d h=>by
 obtain⟨x,_,rfl⟩:=C_.1 h;exact⟨trivial,rfl⟩
theorem G9(l:List GPart){k n:Nat}(h:k<n):(qE l n)[k]? =some (.sl ((du l k).map ln)):=by
 unfold qE;rw[b_,c_ h];rfl
theorem yI(l:List GPart){k n:Nat}(h:k<(qE l n).length):(qE l n)[k]= .sl ((du l k).map ln):=by simp[qE]
def wz(b:Bool):D:= .leaf (.bool b)
noncomputable def Dj(l:List GPart)(i n:Nat):List D:=(i_ n).map fun k:Nat=>wz (decide (k<i) && onC l (k:Int))
theorem En(l:List GPart)(i n:Nat):(Dj l i n).length=n:=by simp[Dj]
theorem LJ(g:Nat→Bool)(n:Nat):A_ n (D.leaf (.bool false))=(i_ n).map fun k=>wz (decide (k<0) && g k):=by
 refine H_ (by simp) fun k h1 h2=> ?_
 simp[wz]
theorem QS(g:Nat→Bool){i n:Nat}(h:i<n):((i_ n).map fun k=>wz (decide (k<i) && g k)).set i (wz (g i))=(i_ n).map fun k=>wz (decide (k<i+1) && g k):=by
 refine H_ (by simp) fun k h1 h2=> ?_
 simp only[List.getElem_set,List.getElem_map,List.getElem_range];by_cases e:i=k
 ·subst e;simp[wz]
 ·rw[if_neg e];congr 2;rw[decide_eq_decide];omega
theorem QT(g:Nat→Bool)(n:Nat):((i_ n).map fun k=>wz (decide (k<n) && g k))=(i_ n).map fun k=>wz (g k):=by
 refine List.map_congr_left fun k hk=> ?_
 rw[K_]at hk;simp[hk]
noncomputable def nU(l:List GPart)(i n:Nat):List D:=(i_ n).map fun k:Nat=>wz (decide (k<i) && bI l (k:Int))
theorem kG(l:List GPart)(i n:Nat):(nU l i n).length=n:=by simp[nU]
noncomputable def JI(l:List GPart):List D:=(i_ l.length).map fun k:Nat=>wz (onC l (k:Int))
noncomputable def FQ(l:List GPart):List D:=(i_ l.length).map fun k:Nat=>wz (bI l (k:Int))
theorem aen(l:List GPart):(JI l).length=l.length:=by simp[JI]
theorem Qn(l:List GPart):(FQ l).length=l.length:=by simp[FQ]
theorem vN(l:List GPart):El 1 (FQ l):=fun d h=>by
 obtain⟨x,_,rfl⟩:=C_.1 h;exact⟨rfl,rfl⟩
theorem y8(l:List GPart):El 1 (JI l):=fun d h=>by
 obtain⟨x,_,rfl⟩:=C_.1 h;exact⟨rfl,rfl⟩
theorem agm(l:List GPart){k:Nat}(h:k<l.length):(JI l)[k]? =some (.leaf (.bool (onC l (k:Int)))):=by
 unfold JI;rw[b_,c_ h];rfl
theorem Xu(l:List GPart){k:Nat}(h:k<l.length):(FQ l)[k]? =some (.leaf (.bool (bI l (k:Int)))):=by
 unfold FQ;rw[b_,c_ h];rfl
theorem JH(l:List GPart){k:Nat}(h:k<(JI l).length):(JI l)[k]= .leaf (.bool (onC l (k:Int))):=by simp[JI,wz]
theorem Ac(l:List GPart){k:Nat}(h:k<(FQ l).length):(FQ l)[k]= .leaf (.bool (bI l (k:Int))):=by simp[FQ,wz]
theorem WA(l:List GPart)(n:Nat):A_ n (D.leaf (.bool false))=Dj l 0 n:=LJ _ n
theorem aaQ(l:List GPart){i n:Nat}(h:i<n):(Dj l i n).set i (.leaf (.bool (onC l (i:Int))))=Dj l (i+1) n:=QS (fun k=>onC l (k:Int)) h
theorem aaR(l:List GPart):Dj l l.length l.length=JI l:=QT (fun k=>onC l (k:Int)) _
theorem U4(l:List GPart)(n:Nat):A_ n (D.leaf (.bool false))=nU l 0 n:=LJ _ n
theorem uN(l:List GPart){i n:Nat}(h:i<n):(nU l i n).set i (.leaf (.bool (bI l (i:Int))))=nU l (i+1) n:=QS (fun k=>bI l (k:Int)) h
theorem ZK(l:List GPart):nU l l.length l.length=FQ l:=QT (fun k=>bI l (k:Int)) _
theorem afy{l:List GPart}{i:Nat}{o:List Nat}(hlt:∀x∈o,x<l.length)(h:jP l.length o=cl l.length (nrI l false) (i:Int)):pJ o (i:Int)=onC l (i:Int):=by
 unfold onC;rw[← h,ku,ku,Bool.eq_iff_iff,q_,q_,xP];exact⟨fun hm=>⟨hlt _ hm,hm⟩,fun hm=>hm.2⟩
noncomputable def F9(l:List GPart)(k:Nat):Nat:=cO (fun i=>bI l (i:Int)) (fun _=>1) k
theorem vG(l:List GPart)(k:Nat):F9 l (k+1)=F9 l k+(if bI l (k:Int)then 1 else 0):=by
 unfold F9;simp only[cO]
 try omega
theorem Ph(l:List GPart)(k:Nat):F9 l k≤k:=Hg _ k
theorem y9(l:List GPart):∀(o:List Int),o.Nodup→(∀z∈o,bI l z=true)→cO (fun x=>bI l (x:Int) && !fF o (x:Int)) (fun _=>1) l.length+o.length=F9 l l.length
 | [],_,_=>by
   unfold F9;simp[fF]
 | z::o,hn,hr=>by
   rw[I_]at hn;have ih:=y9 l o hn.2 (fun x hx=>hr x (by simp[hx]));have hz:=hr z (by simp);obtain⟨h0,h1⟩:=lM l z hz;obtain⟨k,rfl⟩:∃k:Nat,z=(k:Int):=⟨z.toNat,by omega⟩
   simp only[F_]at h1;have h2:fF o (k:Int)=false:=by
    rw[u_];intro h;exact hn.1 (rV.1 h)
   have h3:=xw (p:=fun x:Nat=>bI l (x:Int) && !fF o (x:Int)) (q:=fun x:Nat=>bI l (x:Int) && !fF ((k:Int)::o) (x:Int)) (g:=fun _=>1) (k:=k) (by simp[hz,h2]) (by simp[fF]) (fun x hx=>by
    have:((k:Int)==(x:Int))=false:=by simp;omega
    simp[fF,this]) h1
   simp only[g_];omega
theorem BX{l:List GPart}:∀{o:List Int} {k:Nat},k≤o.length→lN (bI l) (uz l) o k=true→(o.take k).Nodup∧∀z∈o.take k,bI l z=true
 |o,0,_,_=>by simp
 | o,k+1,hk,h=>by
   simp only[lN,k_]at h;obtain⟨h1,h2⟩:=h;rw[tH (by omega)]at h2;simp only[k_,E_]at h2;obtain⟨i1,i2⟩:=BX (by omega) h1;rw[e_ (by omega:k<o.length)];refine⟨?_,fun z hz=> ?_⟩
   ·rw[List.nodup_append];refine⟨i1,by simp,fun a ha b hb e=> ?_⟩;rw[D_]at hb;subst hb;subst e;rw[rV.2 ha]at h2;simp at h2
   ·rcases List.mem_append.1 hz with h|h
    ·exact i2 z h
    ·rw[D_]at h;subst h;exact h2.1.1
theorem abP{l:List GPart}{j:Nat}(h:(dY l j).length<F9 l l.length):nxt l (dY l j)≠none:=by
 intro hn;have he:=pq hn (l.length+1 - j);by_cases hj:j≤l.length+1
 ·rw [show j+(l.length+1 - j)=l.length+1 by omega]at he;have ho:iK l=dY l j:=he;have hok:=(tu l).1;rw[ho]at hok;obtain⟨h1,h2⟩:=BX (a_ _) hok;rw[h_]at h1 h2;have h3:=y9 l _ h1 h2;have h4:cO (fun x=>bI l (x:Int) && !fF (dY l j) (x:Int)) (fun _=>1) l.length=0:=by
   have :∀n,cO (fun x=>bI l (x:Int) && !fF (dY l j) (x:Int)) (fun _=>1) n=0:=fun n=>by
    induction n with
    |zero=>rfl
    | succ n ih=>
      simp only[cO,ih];cases hr:bI l (n:Int)with
      |false=>simp
      | true=>
        have:=BR l (mu l n) n (a_ _) hr;rw[ho]at this;simp[this]
   exact this _
  omega
 ·have h5:dY l (l.length+1)=dY l j:=by
   have hk:∀m,dY l (l.length+1+m)=dY l (l.length+1):=fun m=>pq (tu l).2 m
   have:=hk (j - (l.length+1));rw[show l.length+1+(j - (l.length+1))=j by omega]at this;exact this.symm
  have hok:=(tu l).1;have ho:iK l=dY l j:=h5;rw[ho]at hok;obtain⟨h1,h2⟩:=BX (a_ _) hok;rw[h_]at h1 h2;have h3:=y9 l _ h1 h2;have h4:cO (fun x=>bI l (x:Int) && !fF (dY l j) (x:Int)) (fun _=>1) l.length=0:=by
   have :∀n,cO (fun x=>bI l (x:Int) && !fF (dY l j) (x:Int)) (fun _=>1) n=0:=fun n=>by
    induction n with
    |zero=>rfl
    | succ n ih=>
      simp only[cO,ih];cases hr:bI l (n:Int)with
      |false=>simp
      | true=>
        have:=BR l (mu l n) n (a_ _) hr;rw[ho]at this;simp[this]
   exact this _
  omega
theorem abQ{l:List GPart}{j:Nat}(hok:lN (bI l) (uz l) (dY l j) (dY l j).length=true)(hj:(dY l j).length=j)(h:¬j<F9 l l.length):dY l j=iK l:=by
 have hjn:=DY hok;obtain⟨h1,h2⟩:=BX (a_ _) hok;rw[h_]at h1 h2;have h3:=y9 l _ h1 h2;have h4:cO (fun x=>bI l (x:Int) && !fF (dY l j) (x:Int)) (fun _=>1) l.length=0:=by omega
 have hn:nxt l (dY l j)=none:=xK.2 fun m hm=>by
  unfold okR;have:∀n,m<n→cO (fun x=>bI l (x:Int) && !fF (dY l j) (x:Int)) (fun _=>1) n=0→(bI l (m:Int) && !fF (dY l j) (m:Int))=false:=by
   intro n
   induction n with
   |zero=>intro hm;omega
   | succ n ih=>
     intro hm hs;simp only[cO]at hs;rcases B_ m n with h'|h'
     ·exact ih h' (by omega)
     ·obtain rfl:m=n:=by omega
      cases hb:(bI l (m:Int) && !fF (dY l j) (m:Int))with
      |false=>rfl
      |true=>rw[hb]at hs;simp at hs
  have h5:=this _ hm h4;cases hr:bI l (m:Int)with
  |false=>simp
  |true=>rw[hr]at h5;simp at h5;simp[h5]
 have he:=pq hn (l.length+1 - j);rw[show j+(l.length+1 - j)=l.length+1 by omega]at he;exact he.symm
theorem ahu(l:List GPart)(o:List Int)(k:Nat):sN (lU l (k:Int)) o=(du l k).all fun u=> !(bI l (u:Int) && !fF o (u:Int)):=by
 unfold sN lU;rw[wu,List.all_filter];congr 1
 funext u
 cases bI l (u:Int)<;>simp
end
section
open Nat renaming le_refl→a_,zero_le→d_,add_zero→s_,lt_or_ge→B_,mul_one→Q_
open List renaming getElem?_map→b_,getElem?_range→c_,take_succ_eq_append_getElem→e_,length_cons→g_,take_length→h_,range→i_,length_append→l_,length_nil→m_,getElem_mem→o_,all_eq_true→p_,contains_iff_mem→q_,length_map→r_,find?_range_eq_some→v_,getElem?_eq_getElem→x_,mem_filter→y_,foldl_cons→z_,replicate→A_,mem_map→C_,mem_singleton→D_,ext_getElem→H_,nodup_cons→I_,mem_range→K_,mem_cons→N_
open Int renaming toNat_of_nonneg→f_,toNat_natCast→F_
open Lib renaming hid→j_
open Bool renaming and_eq_true→k_,false_eq_true→n_,eq_false_iff→u_,not_eq_true'→E_
open Lit renaming int→t_
open Or renaming inl→w_,inr→O_
attribute [local irreducible] sw sd sn
theorem afN(l:List Nat):El 1 [D.sl (l.map ln)]:=fun d h=>by
 simp at h;subst h;exact⟨trivial,rfl⟩
theorem adq(l:List Nat):(D.sl (l.map ln)).sz=1:=rfl
def adi :IC:=(zd_ [zz_ 2 (.mov (.k (.slice none 0 0)))] (zd_ [zz_ 5 (.brow true 26 1 0 false []),zw_ 3 5] (.seq (zd_ [zk_ 4 0] (.block 0 (.loop (.seq (zd_ [zw_ 6 4,zw_ 7 0,zf_ 8 false 7,zl_ 9 .lss 6 8] (.cond (.t 9) .skip (.exit 0))) (.seq (.block 1 (.reg false [zw_ 12 3,zw_ 13 0,zw_ 14 4,zp_ 15 19 13 14,zz_ 16 (.brow false 26 1 1 false [(.t 15)]),zz_ 17 (.app 26 1 (.t 12) (.t 16)),zw_ 3 17])) (.reg false [zw_ 10 4,zm_ 11 .add 10 1,zw_ 4 11])))))) (zd_ [zw_ 18 3,zw_ 2 18] .ret))))
theorem aaq :ak Tryz.prog (Tryz.f80.body.getD .skip)=some adi:=by kernel_rfl
theorem Q5(l:List GPart)(hw:l.length+D.wts (l.map GPart.toD)≤1048576):bZ Tryz.prog 80 [.sl (l.map GPart.toD)] (qE l l.length) 26 1:=by
 have hn:l.length≤1048576:=by omega
 refine fM (fn:=Tryz.f80) (t:=2) (hc:=aaq) (h:= ?_);unfold adi;refine zb_ ?_;change AWP _ _ _ (st0 19 _);refine sS trivial ?_
 repeat' (first|(refine rg_ ?_;intro K hK)|(refine hq_ ?_;clear hK K)|refine ca_ ?_ ?_|refine sz_ @pkF ?_|refine nv ?_|(refine c2_ ?_ ?_<;>(intro hb hb';try(exfalso;omega)))|exact bq_|fail)
 refine aQ (X:=Nat×Nat) (fun q=> [.k,.d,.d,.v (.c false [.own 0 q.2]),.v (.c false [.raw (.int .i64 (q.1:Nat))])]) (fun q=> [⟨qE l q.1,26,1,q.2,true⟩]) (fun q bs=>bs) (fun q=>q.1≤l.length) (fun q=>l.length - q.1) (0,0) (d_ _) ?_ ?_
 ·simp[aG,aU,aC,aF,AV.fits,AC.fits,FB,aB,qE]
 rintro⟨k,v⟩ hk;have hk':k≤l.length:=hk;clear hk;simp only[FB,aB];by_cases hlk:k<l.length
 ·have hd:=yK (iT l (k:Int) hw);rw[wu]at hd;have htl:=uI l k
  repeat' (first|(refine rg_ ?_;intro K hK)|(refine hq_ ?_;clear hK K)|refine ca_ ?_ ?_|(refine cg_ ?_;first|refine cT_ hd ?_)|refine sz_ (a3_ @pkF htl @adq) ?_|refine nv ?_|(refine c2_ ?_ ?_<;>(intro hb hb';try(exfalso;omega)))|exact bq_|fail)
  all_goals first
   |exact afN _
   |(simp only[uI,g_,m_];omega)
   | (refine aP (k+1,v+1) ?_ (show k+1≤l.length by omega) (show l.length - (k+1)<l.length - k by omega)
      simp[aG,aU,aC,aF,AV.fits,AC.fits,FB,aB,UR])
 ·obtain rfl:k=l.length:=by omega
  repeat' (first|(refine rg_ ?_;intro K hK)|(refine hq_ ?_;clear hK K)|refine ca_ ?_ ?_|refine sz_ @pkF ?_|refine nv ?_|(refine c2_ ?_ ?_<;>(intro hb hb';try(exfalso;omega)))|exact bq_|fail)
  exact aS ⟨0,_,_,rfl,rfl,rfl,rfl,rfl,rfl,w_ rfl⟩
def SV :IC:=(zd_ [zz_ 2 (.mov (.k (.slice none 0 0)))] (zd_ [zw_ 9 0,zf_ 10 false 9,zz_ 11 (.mk 4 (.bool false) (.t 10)),zw_ 3 11] (.seq (zd_ [zk_ 4 0] (.block 0 (.loop (.seq (zd_ [zw_ 12 4,zw_ 13 0,zf_ 14 false 13,zl_ 15 .lss 12 14] (.cond (.t 15) .skip (.exit 0))) (.seq (.block 1 (zd_ [zz_ 18 (.brow true 3 1 0 false []),zw_ 19 0,zw_ 20 4,ze_ 21 1 19 20,zs_ 22 1 21,zz_ 23 (.app 3 1 (.t 18) (.t 22)),zw_ 5 23] (.seq (zd_ [zk_ 6 0] (.block 2 (.loop (.seq (zd_ [zw_ 24 6,zw_ 25 5,zf_ 26 false 25,zl_ 27 .lss 24 26] (.cond (.t 27) .skip (.exit 2))) (.seq (.block 3 (zd_ [zw_ 30 0,zw_ 31 5,zw_ 32 6,ze_ 33 1 31 32,zs_ 34 1 33,ze_ 35 1 30 34,zs_ 36 1 35,zw_ 7 36] (zd_ [zk_ 8 0] (.block 4 (.loop (.seq (zd_ [zw_ 37 8,zw_ 38 7,zf_ 39 false 38,zl_ 40 .lss 37 39] (.cond (.t 40) .skip (.exit 4))) (.seq (.block 5 (zd_ [zw_ 43 5,zw_ 44 7,zw_ 45 8,ze_ 46 1 44 45,zs_ 47 1 46,zp_ 48 85 43 47,zz_ 49 (.not (.t 48))] (.cond (.t 49) (.reg false [zw_ 50 5,zw_ 51 7,zw_ 52 8,ze_ 53 1 51 52,zs_ 54 1 53,zz_ 55 (.brow false 3 1 1 false [(.t 54)]),zz_ 56 (.app 3 1 (.t 50) (.t 55)),zw_ 5 56]) .skip))) (.reg false [zw_ 41 8,zm_ 42 .add 41 1,zw_ 8 42])))))))) (.reg false [zw_ 28 6,zm_ 29 .add 28 1,zw_ 6 29])))))) (.reg false [zw_ 57 3,zw_ 58 4,zw_ 59 5,zw_ 60 4,zp_ 61 85 59 60,ze_ 62 1 57 58,⟨none,none,.store 1 (.t 62) (.t 61)⟩])))) (.reg false [zw_ 16 4,zm_ 17 .add 16 1,zw_ 4 17])))))) (zd_ [zw_ 63 3,zw_ 2 63] .ret))))
theorem SS :ak Tryz.prog (Tryz.f82.body.getD .skip)=some SV:=by kernel_rfl
theorem OB(l:List GPart)(hw:l.length+D.wts (l.map GPart.toD)≤1048576):bZ Tryz.prog 82 [.sl (qE l l.length)] (JI l) 4 1:=by
 have hn:l.length≤1048576:=by omega
 have htl:=uI l l.length;have hlt:=Vd l false;refine fM (fn:=Tryz.f82) (t:=2) (hc:=SS) (h:= ?_);unfold SV;refine zb_ ?_;change AWP _ _ _ (st0 64 _);refine sS trivial ?_
 repeat' (first|(refine rg_ ?_;intro K hK)|(refine hq_ ?_;clear hK K)|refine ca_ ?_ ?_|refine sz_ (aiX @pkF htl) ?_|refine nv ?_|(refine c2_ ?_ ?_<;>(intro hb hb';try(exfalso;omega)))|exact bq_|fail)
 all_goals first
  |(simp only[htl];omega)
  |skip
 refine aQ (X:=Nat) (fun q=> [.k,.d,.d,.k,.v (.c false [.raw (.int .i64 (q:Nat))])]) (fun q=> [⟨Dj l q l.length,4,1,0,true⟩]) (fun q bs=>bs) (fun q=>q≤l.length) (fun q=>l.length - q) 0 (d_ _) ?_ ?_
 ·simp[aG,aU,aC,aF,AV.fits,AC.fits,FB,aB,WA l l.length]
 rintro i hi;have hi':i≤l.length:=hi;clear hi;simp only[FB,aB];by_cases hli:i<l.length
 ·have hti:=G9 l hli;have hdl:=JC l i;have hcl:=En l i l.length
  repeat' (first|(refine rg_ ?_;intro K hK)|(refine hq_ ?_;clear hK K)|refine ca_ ?_ ?_|refine sz_ (a4_ @pkF hti htl @yI) ?_|refine nv ?_|(refine c2_ ?_ ?_<;>(intro hb hb';try(exfalso;omega)))|exact bq_|fail)
  all_goals first
   |(simp only[r_,l_,g_,m_];omega)
   |exact rE _ _
   |skip
  refine aQ (X:=Nat×List Nat×Nat) (fun q=> [.k,.d,.d,.k,.k,.v (.c false [.own 1 q.2.2]),.v (.c false [.raw (.int .i64 (q.1:Nat))])]) (fun q=> [⟨Dj l i l.length,4,1,0,true⟩,⟨q.2.1.map ln,3,1,q.2.2,false⟩]) (fun q bs=>bs) (fun q=>AllInv l.length (nrI l false) (i:Int) q.1 q.2.1) (fun q=>l.length - q.1) (0,du l i,1) (by have:=AllInv.start hlt (z:=(i:Int)) (Ih l false (i:Int));rwa[X3,wu]at this) ?_ ?_
  ·simp[aG,aU,aC,aF,AV.fits,AC.fits,FB,aB]
  rintro⟨k,o,v⟩ hI0;have hI:AllInv l.length (nrI l false) (i:Int) k o:=hI0;clear hI0;have hol:=qR hI.nd hI.lt;have hkl:=hI.le;simp only[FB,aB];by_cases hlk:k<o.length
  ·have hok:=hI.lt o[k] (o_ hlk);have htk:=G9 l hok;have hml:=JC l o[k];have hJ0:=MoreInv.start hI hlk
   repeat' (first|(refine rg_ ?_;intro K hK)|(refine hq_ ?_;clear hK K)|refine ca_ ?_ ?_|refine sz_ (a4_ @pkF htk htl @yI) ?_|refine nv ?_|(refine c2_ ?_ ?_<;>(intro hb hb';try(exfalso;omega)))|exact bq_|fail)
   all_goals first
    |exact rE _ _
    |skip
   refine aQ (X:=Nat×List Nat×Nat) (fun q=> [.k,.d,.d,.k,.k,.v (.c false [.own 1 q.2.2]),.k,.k,.v (.c false [.raw (.int .i64 (q.1:Nat))])]) (fun q=> [⟨Dj l i l.length,4,1,0,true⟩,⟨q.2.1.map ln,3,1,q.2.2,false⟩]) (fun q bs=>bs) (fun q=>MoreInv l.length (nrI l false) (i:Int) k o[k] q.1 q.2.1) (fun q=>(du l o[k]).length - q.1) (0,o,v) hJ0 ?_ ?_
   ·simp[aG,aU,aC,aF,AV.fits,AC.fits,FB,aB]
   rintro⟨j,u,v2⟩ hJ1;have hJ:MoreInv l.length (nrI l false) (i:Int) k o[k] j u:=hJ1;clear hJ1;have hul:=qR hJ.nd hJ.lt;have hjl:=hJ.jle;have hfe:nrI l false ((o[k]:Nat):Int)=du l o[k]:=by rw[X3,wu]
   rw[hfe]at hjl;simp only[FB,aB];by_cases hlj:j<(du l o[k]).length
   ·have hlj':j<(nrI l false ((o[k]:Nat):Int)).length:=by rw[hfe];exact hlj
    have hge:(nrI l false ((o[k]:Nat):Int))[j]=(du l o[k])[j]:=List.getElem_of_eq hfe hlj';cases hh:pJ u (((du l o[k])[j]:Nat):Int)with
    | true=>
      have hc:u.contains (nrI l false ((o[k]:Nat):Int))[j]=true:=by rw[hge,← ku];exact hh
      have hsk:=hJ.skip hlj' hc
      repeat' (first|(refine rg_ ?_;intro K hK)|(refine hq_ ?_;clear hK K)|refine ca_ ?_ ?_|(refine cg_ ?_;first|refine cT_ (iI u (((du l o[k])[j]:Nat):Int) (by omega)) ?_)|refine sz_ (aiX @pkF hh) ?_|refine nv ?_|(refine c2_ ?_ ?_<;>(intro hb hb';try(exfalso;omega)))|exact bq_|fail)
      refine aP (j+1,u,v2) ?_ hsk (show(du l o[k]).length - (j+1)<(du l o[k]).length - j by omega);simp[aG,aU,aC,aF,AV.fits,AC.fits,FB,aB]
    | false=>
      have hc:u.contains (nrI l false ((o[k]:Nat):Int))[j]=false:=by rw[hge,← ku];exact hh
      have hpt:=hJ.put hlt hlj' hc;rw[hge]at hpt
      repeat' (first|(refine rg_ ?_;intro K hK)|(refine hq_ ?_;clear hK K)|refine ca_ ?_ ?_|(refine cg_ ?_;first|refine cT_ (iI u (((du l o[k])[j]:Nat):Int) (by omega)) ?_)|refine sz_ (aiX @pkF hh) ?_|refine nv ?_|(refine c2_ ?_ ?_<;>(intro hb hb';try(exfalso;omega)))|exact bq_|fail)
      all_goals first
       |(simp only[r_,l_,g_,m_];omega)
       | (refine aP (j+1,u++ [(du l o[k])[j]],v2+1) ?_ hpt (show(du l o[k]).length - (j+1)<(du l o[k]).length - j by omega)
          simp[aG,aU,aC,aF,AV.fits,AC.fits,FB,aB,ln,li]
          try rfl)
   ·obtain rfl:j=(du l o[k]).length:=by omega
    have hF:AllInv l.length (nrI l false) (i:Int) (k+1) u:=by
     have h9:MoreInv l.length (nrI l false) (i:Int) k o[k] (nrI l false ((o[k]:Nat):Int)).length u:=by rw[hfe];exact hJ
     exact h9.fin
    repeat' (first|(refine rg_ ?_;intro K hK)|(refine hq_ ?_;clear hK K)|refine ca_ ?_ ?_|refine sz_ (aiX @pkF htl) ?_|refine nv ?_|(refine c2_ ?_ ?_<;>(intro hb hb';try(exfalso;omega)))|exact bq_|fail)
    refine aP (k+1,u,v2) ?_ hF (show l.length - (k+1)<l.length - k by omega);simp[aG,aU,aC,aF,AV.fits,AC.fits,FB,aB]
  ·obtain rfl:k=o.length:=by omega
   have hfin:=afy hI.lt hI.fin;have hcs:=aaQ l hli
   repeat' (first|(refine rg_ ?_;intro K hK)|(refine hq_ ?_;clear hK K)|refine ca_ ?_ ?_|(refine cg_ ?_;first|refine cT_ (iI o (i:Int) (by omega)) ?_)|refine sz_ (a4_ @pkF hfin hcs @En) ?_|refine nv ?_|(refine c2_ ?_ ?_<;>(intro hb hb';try(exfalso;omega)))|exact bq_|fail)
   all_goals first
    |(simp only[En];omega)
    | (refine aP (i+1) ?_ (show i+1≤l.length by omega) (show l.length - (i+1)<l.length - i by omega)
       simp[aG,aU,aC,aF,AV.fits,AC.fits,FB,aB])
 ·obtain rfl:i=l.length:=by omega
  rw[aaR]
  repeat' (first|(refine rg_ ?_;intro K hK)|(refine hq_ ?_;clear hK K)|refine ca_ ?_ ?_|refine sz_ (aiX @pkF htl) ?_|refine nv ?_|(refine c2_ ?_ ?_<;>(intro hb hb';try(exfalso;omega)))|exact bq_|fail)
  exact aS ⟨0,_,_,rfl,rfl,rfl,rfl,rfl,rfl,w_ rfl⟩
noncomputable def rdy(l:List GPart)(o:List Int)(us:List Nat):Bool:=us.all fun u=> !(bI l (u:Int) && !fF o (u:Int))
theorem abW(l:List GPart)(o:List Int)(us:List Nat){k:Nat}(h:k<us.length):rdy l o (us.take (k+1))=(rdy l o (us.take k) && !(bI l (us[k]:Int) && !fF o (us[k]:Int))):=by
 unfold rdy;rw[e_ h,List.all_append];simp
theorem ahv{l:List GPart}{o:List Int}{us:List Nat}{k:Nat}(h:k<us.length)(e1:bI l (us[k]:Int)=true)(e2:fF o (us[k]:Int)=false):rdy l o us=false:=by
 rw[u_];intro hr;have:=p_.1 hr us[k] (o_ h);rw[e1,e2]at this;cases this
def adl :IC:=(zd_ [zj_ 6 false] (.seq (zd_ [zk_ 7 0] (.block 0 (.loop (.seq (zd_ [zw_ 8 7,zw_ 9 1,zf_ 10 false 9,zl_ 11 .lss 8 10] (.cond (.t 11) .skip (.exit 0))) (.seq (.block 1 (zd_ [zw_ 14 2,zw_ 15 1,zw_ 16 7,ze_ 17 1 15 16,zs_ 18 1 17,ze_ 19 1 14 18,zs_ 20 1 19,zw_ 21 20,zv_ 22 21 0,zv_ 23 21 1,zv_ 24 21 7,zy_ 25 21 (.iad 1 (.t 23) (.t 24)),zy_ 26 21 (.load 1 false (.t 25)),zy_ 27 21 (.call 85 [(.t 22),(.t 26)]),zy_ 28 21 (.not (.t 27)),zh_ 29 21 28 false] (.cond (.t 29) (zd_ [zj_ 6 false] .ret) .skip))) (.reg false [zw_ 12 7,zm_ 13 .add 12 1,zw_ 7 13])))))) (zd_ [zj_ 6 true] .ret)))
theorem aas :ak Tryz.prog (Tryz.f102.body.getD .skip)=some adl:=by kernel_rfl
theorem abV(l:List GPart)(us:List Nat)(o:List Int)(hu:∀u∈us,u<l.length)(h1:us.length≤4194304)(h2:o.length≤4194304):aI Tryz.prog 102 [.sl (o.map li),.sl (us.map ln),.sl (FQ l)] (.c false [.raw (.bool (rdy l o us))]):=by
 have hrl:=Qn l;refine aY (fn:=Tryz.f102) (t:=6) (hc:=aas) (h:= ?_);unfold adl;refine zb_ ?_;change AWP _ _ _ (st0 30 _);refine sS trivial ?_
 repeat' (first|(refine rg_ ?_;intro K hK)|(refine hq_ ?_;clear hK K)|refine ca_ ?_ ?_|refine gq_ ?_|(refine c2_ ?_ ?_<;>(intro hb hb';try(exfalso;omega)))|refine sz_ @pkF ?_|refine nv ?_|exact bq_|fail)
 refine aQ (X:=Nat) (fun q=> [.k,.k,.k,.d,.d,.d,.d,.v (.c false [.raw (.int .i64 (q:Nat))])]) (fun q=> []) (fun q bs=>bs) (fun q=>q≤us.length∧rdy l o (us.take q)=true) (fun q=>us.length - q) 0 ⟨d_ _,rfl⟩ ?_ ?_
 ·simp[aG,aU,aC,aF,AV.fits,AC.fits,FB,aB]
 rintro k ⟨hk,hr⟩;simp only[FB,aB];by_cases hlk:k<us.length
 ·have hlt:=hu us[k] (o_ hlk);have hrk:=Xu l hlt;have htk:=abW l o us hlk;rw[hr]at htk;have hhz:=nZ o ((us[k]:Nat):Int) h2;cases e1:bI l ((us[k]:Nat):Int)with
  | false=>
    rw[e1]at hrk htk
    repeat' (first|(refine rg_ ?_;intro K hK)|(refine hq_ ?_;clear hK K)|refine ca_ ?_ ?_|refine gq_ ?_|(refine c2_ ?_ ?_<;>(intro hb hb';try(exfalso;omega)))|(refine cg_ ?_;first|refine cT_ hhz ?_)|refine sz_ (a4_ @pkF hrk @Ac e1) ?_|refine nv ?_|exact bq_|fail)
    all_goals first
     |exact vN _
     | (refine aP (k+1) ?_ ⟨by omega,htk⟩ (show us.length - (k+1)<us.length - k by omega)
        simp[aG,aU,aC,aF,AV.fits,AC.fits,FB,aB])
  | true=>
    rw[e1]at hrk htk;cases e2:fF o ((us[k]:Nat):Int)with
    | true=>
      rw[e2]at htk hhz
      repeat' (first|(refine rg_ ?_;intro K hK)|(refine hq_ ?_;clear hK K)|refine ca_ ?_ ?_|refine gq_ ?_|(refine c2_ ?_ ?_<;>(intro hb hb';try(exfalso;omega)))|(refine cg_ ?_;first|refine cT_ hhz ?_)|refine sz_ (a4_ @pkF hrk @Ac e1) ?_|refine nv ?_|exact bq_|fail)
      all_goals first
       |exact vN _
       | (refine aP (k+1) ?_ ⟨by omega,htk⟩ (show us.length - (k+1)<us.length - k by omega)
          simp[aG,aU,aC,aF,AV.fits,AC.fits,FB,aB])
    | false=>
      have hf:=ahv hlk e1 e2;rw[e2]at hhz;rw[hf]
      repeat' (first|(refine rg_ ?_;intro K hK)|(refine hq_ ?_;clear hK K)|refine ca_ ?_ ?_|refine gq_ ?_|(refine c2_ ?_ ?_<;>(intro hb hb';try(exfalso;omega)))|(refine cg_ ?_;first|refine cT_ hhz ?_)|refine sz_ (a4_ @pkF hrk @Ac e1) ?_|refine nv ?_|exact bq_|fail)
      all_goals first
       |exact vN _
       |exact aS ⟨_,rfl,rfl,trivial⟩
 ·obtain rfl:k=us.length:=by omega
  rw[h_]at hr;rw[hr]
  repeat' (first|(refine rg_ ?_;intro K hK)|(refine hq_ ?_;clear hK K)|refine ca_ ?_ ?_|refine gq_ ?_|(refine c2_ ?_ ?_<;>(intro hb hb';try(exfalso;omega)))|refine sz_ @pkF ?_|refine nv ?_|exact bq_|fail)
  exact aS ⟨_,rfl,rfl,trivial⟩
def RV :IC:=(zd_ [zz_ 6 (.mov (.k (.slice none 0 0)))] (zd_ [zw_ 12 0,zf_ 13 false 12,zz_ 14 (.mk 4 (.bool false) (.t 13)),zw_ 7 14] (zd_ [zk_ 8 0] (.seq (zd_ [zk_ 9 0] (.block 0 (.loop (.seq (zd_ [zw_ 15 9,zw_ 16 0,zf_ 17 false 16,zl_ 18 .lss 15 17] (.cond (.t 18) .skip (.exit 0))) (.seq (.block 1 (zd_ [zw_ 21 7,zw_ 22 9,zw_ 23 2,zw_ 24 9,ze_ 25 1 23 24,zs_ 26 1 25,zz_ 27 (.not (.t 26)),zw_ 28 27,zv_ 29 28 0,zv_ 30 28 9,zy_ 31 28 (.call 101 [(.t 29),(.t 30)]),zy_ 32 28 (.not (.t 31)),zh_ 33 28 32 false,zw_ 34 33,zv_ 35 34 0,zv_ 36 34 9,zy_ 37 34 (.iad 14 (.t 35) (.t 36)),zy_ 38 34 (.fad 0 (.t 37)),zy_ 39 34 (.load 1 false (.t 38)),zy_ 40 34 (.bin .eql (.t 39) (.k (.int .i64 2))),zv_ 41 34 40,zu_ 42 41 0,zu_ 43 41 9,zx_ 44 41 (.iad 14 (.t 42) (.t 43)),zx_ 45 41 (.fad 0 (.t 44)),zx_ 46 41 (.load 1 false (.t 45)),zx_ 47 41 (.bin .eql (.t 46) (.k (.int .i64 3))),zy_ 48 34 (.pick (.t 41) (.k (.bool true)) (.t 47)),zh_ 49 34 48 false,ze_ 50 1 21 22,⟨none,none,.store 1 (.t 50) (.t 49)⟩] (zd_ [zw_ 51 7,zw_ 52 9,ze_ 53 1 51 52,zs_ 54 1 53] (.cond (.t 54) (.reg false [zw_ 55 8,zm_ 56 .add 55 1,zw_ 8 56]) .skip)))) (.reg false [zw_ 19 9,zm_ 20 .add 19 1,zw_ 9 20])))))) (zd_ [zz_ 57 (.brow true 3 1 0 false []),zw_ 10 57] (.seq (.block 2 (.loop (.seq (zd_ [zw_ 58 10,zf_ 59 false 58,zw_ 60 8,zl_ 61 .lss 59 60] (.cond (.t 61) .skip (.exit 2))) (.block 3 (zd_ [zk_ 11 0] (.block 4 (.loop (.seq (zd_ [zw_ 62 11,zw_ 63 0,zf_ 64 false 63,zl_ 65 .lss 62 64] (.cond (.t 65) .skip (.exit 4))) (.seq (.block 5 (zd_ [zw_ 68 7,zw_ 69 11,ze_ 70 1 68 69,zs_ 71 1 70,zw_ 72 71,zv_ 73 72 10,zv_ 74 72 11,zy_ 75 72 (.call 85 [(.t 73),(.t 74)]),zy_ 76 72 (.not (.t 75)),zh_ 77 72 76 false,zw_ 78 77,zv_ 79 78 10,zv_ 80 78 1,zv_ 81 78 11,zy_ 82 78 (.iad 1 (.t 80) (.t 81)),zy_ 83 78 (.load 1 false (.t 82)),zv_ 84 78 7,zy_ 85 78 (.call 102 [(.t 79),(.t 83),(.t 84)]),zh_ 86 78 85 false] (.cond (.t 86) (zd_ [zw_ 87 10,zw_ 88 11,zz_ 89 (.brow false 3 1 1 false [(.t 88)]),zz_ 90 (.app 3 1 (.t 87) (.t 89)),zw_ 10 90] (.exit 4)) .skip))) (.reg false [zw_ 66 11,zm_ 67 .add 66 1,zw_ 11 67])))))))))) (zd_ [zw_ 91 10,zw_ 6 91] .ret)))))))
theorem RU :ak Tryz.prog (Tryz.f81.body.getD .skip)=some RV:=by kernel_rfl
theorem ahM(l:List GPart){i:Nat}(hi:i<l.length):bI l (i:Int)=((l[i].kind==2 || l[i].kind==3) && !sK l (i:Int) && !onC l (i:Int)):=by
 have:=Gs l (z:=(i:Int)) (by omega) (by simpa using hi);simpa[kOk]using this
theorem QZ (l :List GPart)(hw:l.length+D.wts (l.map GPart.toD)≤1048576):bZ Tryz.prog 81 [.sl (l.map GPart.toD),.sl (qE l l.length),.sl (JI l)] ((iK l).map li) 3 1:=by
 have hn:l.length≤1048576:=by omega
 have htl:=uI l l.length;have hcl:=aen l;have hrl:=Qn l;refine fM (fn:=Tryz.f81) (t:=6) (hc:=RU) (h:= ?_);unfold RV;refine zb_ ?_;change AWP _ _ _ (st0 92 _);refine sS trivial ?_
 repeat' (first|(refine rg_ ?_;intro K hK)|(refine hq_ ?_;clear hK K)|refine ca_ ?_ ?_|refine gq_ ?_|(refine c2_ ?_ ?_<;>(intro hb hb';try(exfalso;omega)))|refine sz_ (a4_ @pkF htl hcl hrl) ?_|refine nv ?_|exact bq_|fail)
 refine aQ (X:=Nat) (fun q=> [.k,.k,.k,.d,.d,.d,.d,.k,.v (.c false [.raw (.int .i64 (F9 l q:Nat))]),.v (.c false [.raw (.int .i64 (q:Nat))])]) (fun q=> [⟨nU l q l.length,4,1,0,true⟩]) (fun q bs=>bs) (fun q=>q≤l.length) (fun q=>l.length - q) 0 (d_ _) ?_ ?_
 ·simp[aG,aU,aC,aF,AV.fits,AC.fits,FB,aB,U4 l l.length,F9,cO]
 rintro i hi;have hi':i≤l.length:=hi;clear hi;simp only[FB,aB];by_cases hli:i<l.length
 ·have hca := agm l hli;have hdup:=oh l (i:Int) hn;have hra:=ahM l hli;have hrkk:nU l i l.length=nU l i l.length:=rfl;have hcle:=Ph l i;cases c1:onC l (i:Int)with
  | true=>
    rw[c1]at hca;have hrb:bI l ((i:Nat):Int)=false:=by rw[hra];simp[c1]
    have hset:=uN l hli;rw[hrb]at hset;have hget:(nU l (i+1) l.length)[i]? =some (.leaf (.bool false)):=by
     unfold nU;rw[b_,c_ hli];simp[wz,hrb]
    have hcs:=vG l i;rw[hrb]at hcs;simp only[if_true,n_,if_false,s_]at hcs
    repeat' (first|(refine rg_ ?_;intro K hK)|(refine hq_ ?_;clear hK K)|refine ca_ ?_ ?_|refine gq_ ?_|(refine c2_ ?_ ?_<;>(intro hb hb';try(exfalso;omega)))|(refine cg_ ?_;first|refine cT_ hdup ?_)|refine sz_ (a7_ @pkF @c1 hset hget hca @JH @kG) ?_|refine nv ?_|exact bq_|fail)
    all_goals first
     |(simp only[kG];omega)
     |exact y8 _
     | (refine aP (i+1) ?_ (show i+1≤l.length by omega) (show l.length - (i+1)<l.length - i by omega)
        simp[aG,aU,aC,aF,AV.fits,AC.fits,FB,aB,hcs])
  | false =>
    rw[c1]at hca;cases c2:sK l (i:Int)with
    | true=>
      rw[c2]at hdup;have hrb:bI l ((i:Nat):Int)=false:=by rw[hra];simp[c1,c2]
      have hset:=uN l hli;rw[hrb]at hset;have hget:(nU l (i+1) l.length)[i]? =some (.leaf (.bool false)):=by
       unfold nU;rw[b_,c_ hli];simp[wz,hrb]
      have hcs:=vG l i;rw[hrb]at hcs;simp only[if_true,n_,if_false,s_]at hcs
      repeat' (first|(refine rg_ ?_;intro K hK)|(refine hq_ ?_;clear hK K)|refine ca_ ?_ ?_|refine gq_ ?_|(refine c2_ ?_ ?_<;>(intro hb hb';try(exfalso;omega)))|(refine cg_ ?_;first|refine cT_ hdup ?_)|refine sz_ (a8_ @pkF @c1 @c2 hset hget hca @JH @kG) ?_|refine nv ?_|exact bq_|fail)
      all_goals first
       |(simp only[kG];omega)
       |exact y8 _
       | (refine aP (i+1) ?_ (show i+1≤l.length by omega) (show l.length - (i+1)<l.length - i by omega)
          simp[aG,aU,aC,aF,AV.fits,AC.fits,FB,aB,hcs])
    | false =>
      rw[c2]at hdup;cases c3:(l[i].kind==2)with
      | true=>
        have hrb:bI l ((i:Nat):Int)=true:=by rw[hra];simp[c1,c2,c3]
        have hset:=uN l hli;rw[hrb]at hset;have hget:(nU l (i+1) l.length)[i]? =some (.leaf (.bool true)):=by
         unfold nU;rw[b_,c_ hli];simp[wz,hrb]
        have hcs:=vG l i;rw[hrb]at hcs;simp only[if_true,n_,if_false,s_]at hcs
        repeat' (first|(refine rg_ ?_;intro K hK)|(refine hq_ ?_;clear hK K)|refine ca_ ?_ ?_|refine gq_ ?_|(refine c2_ ?_ ?_<;>(intro hb hb';try(exfalso;omega)))|(refine cg_ ?_;first|refine cT_ hdup ?_)|refine sz_ (a9_ @pkF @c1 @c2 c3 hset hget hca @JH @kG) ?_|refine nv ?_|exact bq_|fail)
        all_goals first
         |(simp only[kG];omega)
         |exact y8 _
         | (refine aP (i+1) ?_ (show i+1≤l.length by omega) (show l.length - (i+1)<l.length - i by omega)
            simp[aG,aU,aC,aF,AV.fits,AC.fits,FB,aB,hcs])
      | false =>
        cases c4:(l[i].kind==3)with
        | true=>
          have hrb:bI l ((i:Nat):Int)=true:=by rw[hra];simp[c1,c2,c3,c4]
          have hset:=uN l hli;rw[hrb]at hset;have hget:(nU l (i+1) l.length)[i]? =some (.leaf (.bool true)):=by
           unfold nU;rw[b_,c_ hli];simp[wz,hrb]
          have hcs:=vG l i;rw[hrb]at hcs;simp only[if_true,n_,if_false,s_]at hcs
          repeat' (first|(refine rg_ ?_;intro K hK)|(refine hq_ ?_;clear hK K)|refine ca_ ?_ ?_|refine gq_ ?_|(refine c2_ ?_ ?_<;>(intro hb hb';try(exfalso;omega)))|(refine cg_ ?_;first|refine cT_ hdup ?_)|refine sz_ (WU @pkF @c1 @c2 c3 c4 hset hget hca @JH @kG) ?_|refine nv ?_|exact bq_|fail)
          all_goals first
           |(simp only[kG];omega)
           |exact y8 _
           | (refine aP (i+1) ?_ (show i+1≤l.length by omega) (show l.length - (i+1)<l.length - i by omega)
              simp[aG,aU,aC,aF,AV.fits,AC.fits,FB,aB,hcs])
        | false=>
          have hrb:bI l ((i:Nat):Int)=false:=by rw[hra];simp[c1,c2,c3,c4]
          have hset:=uN l hli;rw[hrb]at hset;have hget:(nU l (i+1) l.length)[i]? =some (.leaf (.bool false)):=by
           unfold nU;rw[b_,c_ hli];simp[wz,hrb]
          have hcs:=vG l i;rw[hrb]at hcs;simp only[if_true,n_,if_false,s_]at hcs
          repeat' (first|(refine rg_ ?_;intro K hK)|(refine hq_ ?_;clear hK K)|refine ca_ ?_ ?_|refine gq_ ?_|(refine c2_ ?_ ?_<;>(intro hb hb';try(exfalso;omega)))|(refine cg_ ?_;first|refine cT_ hdup ?_)|refine sz_ (WU @pkF @c1 @c2 c3 c4 hset hget hca @JH @kG) ?_|refine nv ?_|exact bq_|fail)
          all_goals first
           |(simp only[kG];omega)
           |exact y8 _
           | (refine aP (i+1) ?_ (show i+1≤l.length by omega) (show l.length - (i+1)<l.length - i by omega)
              simp[aG,aU,aC,aF,AV.fits,AC.fits,FB,aB,hcs])
 obtain rfl:i=l.length:=by omega
 rw[ZK]
 repeat' (first|(refine rg_ ?_;intro K hK)|(refine hq_ ?_;clear hK K)|refine ca_ ?_ ?_|refine gq_ ?_|(refine c2_ ?_ ?_<;>(intro hb hb';try(exfalso;omega)))|refine sz_ (a4_ @pkF htl hcl hrl) ?_|refine nv ?_|exact bq_|fail)
 refine aQ (X:=Nat×Nat) (fun q=> [.k,.k,.d,.d,.d,.d,.d,.k,.k,.d,.v (.c false [.own 1 q.2])]) (fun q=> [⟨FQ l,4,1,0,true⟩,⟨(dY l q.1).map li,3,1,q.2,true⟩]) (fun q bs=>bs) (fun q=>(dY l q.1).length=q.1∧lN (bI l) (uz l) (dY l q.1) (dY l q.1).length=true) (fun q=>l.length - q.1) (0,0) ⟨rfl,rfl⟩ ?_ ?_
 ·simp[aG,aU,aC,aF,AV.fits,AC.fits,FB,aB,dY]
 rintro⟨j,v⟩ ⟨hj,hok⟩;simp only at hj hok;have hjn:=DY hok;simp only[FB,aB];have hcle:=Ph l l.length;by_cases hmo:j<F9 l l.length
 ·have hmore :=abP (l:=l) (j:=j) (by omega);have hsome:=fun k=>Ad (l:=l) (j:=j) (k:=k)
  obtain⟨o,ho⟩:∃o,dY l j=o:=⟨_,rfl⟩
  rw[ho]at hj hok hjn hmore;simp only[ho]at hsome⊢
  repeat' (first|(refine rg_ ?_;intro K hK)|(refine hq_ ?_;clear hK K)|refine ca_ ?_ ?_|refine gq_ ?_|(refine c2_ ?_ ?_<;>(intro hb hb';try(exfalso;omega)))|refine sz_ (aiX @pkF hj) ?_|refine nv ?_|exact bq_|fail)
  refine aQ (X:=Nat) (fun q=> [.k,.k,.d,.d,.d,.d,.d,.k,.k,.d,.v (.c false [.own 1 v]),.v (.c false [.raw (.int .i64 (q:Nat))])]) (fun q=> [⟨FQ l,4,1,0,true⟩,⟨o.map li,3,1,v,true⟩]) (fun q bs=>bs) (fun q=>q≤l.length∧∀m,m<q→okR l o m=false) (fun q=>l.length - q) 0 ⟨d_ _,fun m hm=>by omega⟩ ?_ ?_
  ·simp[aG,aU,aC,aF,AV.fits,AC.fits,FB,aB]
  rintro k ⟨hk,hno⟩;simp only[FB,aB];by_cases hlt:k<l.length
  ·have hrk:=Xu l hlt;have htk:=G9 l hlt;have hhz:=nZ o ((k:Nat):Int) (by omega);have hdl:=JC l k;have hrd:=abV l (du l k) o (aeb l k) (by omega) (by omega);have hex:okR l o k=(!fF o (k:Int) && bI l (k:Int) && rdy l o (du l k)):=by unfold okR rdy;rw[ahu]
   cases h1:bI l (k:Int)with
   | false=>
     rw[h1]at hrk;have hnn:=uV hno (by rw[hex,h1];simp)
     repeat' (first|(refine rg_ ?_;intro K hK)|(refine hq_ ?_;clear hK K)|refine ca_ ?_ ?_|refine gq_ ?_|(refine c2_ ?_ ?_<;>(intro hb hb';try(exfalso;omega)))|(refine cg_ ?_;first|refine cT_ hhz ?_|refine cT_ hrd ?_)|refine sz_ (a6_ @pkF h1 hrk htk @Ac @yI) ?_|refine nv ?_|exact bq_|fail)
     all_goals first
      |exact vN _
      |exact rE _ _
      | (refine aP (k+1) ?_ ⟨by omega,hnn⟩ (show l.length - (k+1)<l.length - k by omega)
         simp[aG,aU,aC,aF,AV.fits,AC.fits,FB,aB])
   | true =>
     rw[h1]at hrk;cases h2:fF o (k:Int)with
     | true=>
       rw[h2]at hhz;have hnn:=uV hno (by rw[hex,h1,h2];simp)
       repeat' (first|(refine rg_ ?_;intro K hK)|(refine hq_ ?_;clear hK K)|refine ca_ ?_ ?_|refine gq_ ?_|(refine c2_ ?_ ?_<;>(intro hb hb';try(exfalso;omega)))|(refine cg_ ?_;first|refine cT_ hhz ?_|refine cT_ hrd ?_)|refine sz_ (a7_ @pkF h1 h2 hrk htk @Ac @yI) ?_|refine nv ?_|exact bq_|fail)
       all_goals first
        |exact vN _
        |exact rE _ _
        | (refine aP (k+1) ?_ ⟨by omega,hnn⟩ (show l.length - (k+1)<l.length - k by omega)
           simp[aG,aU,aC,aF,AV.fits,AC.fits,FB,aB])
     | false =>
       rw[h2]at hhz;cases h3:rdy l o (du l k)with
       | false=>
         rw[h3]at hrd;have hnn:=uV hno (by rw[hex,h1,h2,h3];simp)
         repeat' (first|(refine rg_ ?_;intro K hK)|(refine hq_ ?_;clear hK K)|refine ca_ ?_ ?_|refine gq_ ?_|(refine c2_ ?_ ?_<;>(intro hb hb';try(exfalso;omega)))|(refine cg_ ?_;first|refine cT_ hhz ?_|refine cT_ hrd ?_)|refine sz_ (a8_ @pkF h1 h2 h3 hrk htk @Ac @yI) ?_|refine nv ?_|exact bq_|fail)
         all_goals first
          |exact vN _
          |exact rE _ _
          | (refine aP (k+1) ?_ ⟨by omega,hnn⟩ (show l.length - (k+1)<l.length - k by omega)
             simp[aG,aU,aC,aF,AV.fits,AC.fits,FB,aB])
       | true=>
         rw[h3]at hrd;have hx:okR l o k=true:=by rw[hex,h1,h2,h3];rfl
         have hs:=hsome k (QG hlt hx hno);have hadd:=Ie hok hx
         repeat' (first|(refine rg_ ?_;intro K hK)|(refine hq_ ?_;clear hK K)|refine ca_ ?_ ?_|refine gq_ ?_|(refine c2_ ?_ ?_<;>(intro hb hb';try(exfalso;omega)))|(refine cg_ ?_;first|refine cT_ hhz ?_|refine cT_ hrd ?_)|refine sz_ (a6_ @pkF h1 hrk htk @Ac @yI) ?_|refine nv ?_|exact bq_|fail)
         all_goals first
          |exact vN _
          |exact rE _ _
          |(simp only[r_,l_,g_,m_];omega)
          | (refine aP (j+1,v+1) ?_ ⟨by simp only[hs];simp;omega,by simp only[hs];exact hadd⟩ (show l.length - (j+1)<l.length - j by omega)
             simp[aG,aU,aC,aF,AV.fits,AC.fits,FB,aB,hs,li])
  ·obtain rfl:k=l.length:=by omega
   exact absurd (xK.2 hno) hmore
 ·have hfin:=abQ hok hj hmo;rw[hfin]at hj⊢
  repeat' (first|(refine rg_ ?_;intro K hK)|(refine hq_ ?_;clear hK K)|refine ca_ ?_ ?_|refine gq_ ?_|(refine c2_ ?_ ?_<;>(intro hb hb';try(exfalso;omega)))|refine sz_ (aiX @pkF hj) ?_|refine nv ?_|exact bq_|fail)
  exact aS ⟨1,_,_,rfl,rfl,rfl,rfl,rfl,rfl,w_ rfl⟩
def Yt :IC:=(zd_ [zz_ 2 (.mov (.k (.slice none 0 0)))] (zd_ [zw_ 4 0,zq_ 5 80 4,zw_ 3 5] (zd_ [zw_ 6 0,zw_ 7 3,zw_ 8 3,zq_ 9 82 8,zo_ 10 81 6 7 9,zw_ 2 10] .ret)))
theorem VK :ak Tryz.prog (Tryz.f49.body.getD .skip)=some Yt:=by kernel_rfl
theorem uO(l:List GPart)(hw:l.length+D.wts (l.map GPart.toD)≤1048576):bZ Tryz.prog 49 [.sl (l.map GPart.toD)] ((iK l).map li) 3 1:=by
 have h1:=Q5 l hw;have h2:=OB l hw;have h3:=QZ l hw;refine fM (fn:=Tryz.f49) (t:=2) (hc:=VK) (h:= ?_);unfold Yt;refine zb_ ?_;change AWP _ _ _ (st0 11 _);refine sS trivial ?_
 repeat' (first|(refine rg_ ?_;intro K hK)|(refine hq_ ?_;clear hK K)|refine ca_ ?_ ?_|(refine cg_ ?_;first|(refine dA h1 (rE _ _) ?_ ?_)|(refine dA h2 (y8 _) ?_ ?_)|(refine dA h3 (eP _) ?_ ?_))|refine sz_ (aiX @pkF @uI) ?_|refine nv ?_|(refine c2_ ?_ ?_<;>(intro hb hb';try(exfalso;omega)))|exact bq_|fail)
 exact aS ⟨2,_,_,rfl,rfl,rfl,rfl,rfl,rfl,w_ rfl⟩
end
section
open Nat renaming le_refl→a_,zero_le→d_,add_zero→s_,lt_or_ge→B_,mul_one→Q_
open List renaming getElem?_map→b_,getElem?_range→c_,take_succ_eq_append_getElem→e_,length_cons→g_,take_length→h_,range→i_,length_append→l_,length_nil→m_,getElem_mem→o_,all_eq_true→p_,contains_iff_mem→q_,length_map→r_,find?_range_eq_some→v_,getElem?_eq_getElem→x_,mem_filter→y_,foldl_cons→z_,replicate→A_,mem_map→C_,mem_singleton→D_,ext_getElem→H_,nodup_cons→I_,mem_range→K_,mem_cons→N_
open Int renaming toNat_of_nonneg→f_,toNat_natCast→F_
open Lib renaming hid→j_
open Bool renaming and_eq_true→k_,false_eq_true→n_,eq_false_iff→u_,not_eq_true'→E_
open Lit renaming int→t_
open Or renaming inl→w_,inr→O_
def Rnk(w:World)(b n:Nat)(f:Int→Int):Prop:=∃D:DataW Unit,w.ownsMap Tryz.prog 3 (plainElem Tryz.prog 3) b n D∧Maps.IsMap D∧∀z:Int,(t_ .i64 z).wf=true→D.atKey (.int .i64 z) (.lit (.int .i64 0))= .lit (.int .i64 (f z))
def mi :TypeId:=78
theorem aiq :Tryz.prog.underlying mi=some (.map 3 3):=by kernel_rfl
theorem ais(w:World):(zeroValue 3).run Tryz.prog w= .ok (.int .i64 0) w:=by kernel_rfl
theorem Rnk.look{w:World}{b n:Nat}{f:Int→Int}(h:Rnk w b n f){z:Int}(hz:(t_ .i64 z).wf=true):(Instr.lookup mi (.map (some b)) (.int .i64 z) false).run Tryz.prog w= .ok (.int .i64 (f z)) w:=by
 obtain⟨D,h1,h2,h3⟩:=h;obtain⟨c,hrun,hv,_⟩:=h1.lookup_int (Maps.int_keyed zM) aiq zM (ais w) (Maps.keyOf_int_mk zM hz);rw[h3 z hz]at hv;have:c=f z:=by simpa using hv.symm
 rw[hrun,this]
theorem Rnk.put{w:World}{b n:Nat}{f:Int→Int}(h:Rnk w b n f){z a:Int}(hz:(t_ .i64 z).wf=true)(ha:(t_ .i64 a).wf=true)(hn:n<maxLen):
 ∃w',(Instr.mapUpdate mi (.map (some b)) (.int .i64 z) (.int .i64 a)).run Tryz.prog w= .ok () w'∧Rnk w' b (n+1) (fun y=>if y=z then a else f y)∧w.grownBy w' (some b):=by
 obtain⟨D,h1,h2,h3⟩:=h;obtain⟨w',hrun,g1,g2⟩:=h1.update (Maps.int_keyed zM) aiq hn (Maps.keyOf_int_mk zM hz) (plainElem_int zM ha);refine⟨w',hrun,⟨_,g1,h2.put _ _,fun y hy=> ?_⟩,g2⟩;by_cases e:y=z
 ·subst e;rw[Maps.atKey_put_same h2 (by simp[WideAt.IsKeyLit])];simp
 ·rw[Maps.atKey_put_other (fun h=>e (by simp only[Lit.int.injEq,true_and]at h;omega)),h3 y hy];simp[e]
theorem Rnk.mono{w:World}{b n m:Nat}{f:Int→Int}(h:Rnk w b n f)(hm:n≤m):Rnk w b m f:=by
 obtain⟨D,h1,h2,h3⟩:=h;exact⟨D,h1.mono hm,h2,h3⟩
theorem Rnk.congr{w:World}{b n:Nat}{f g:Int→Int}(h:Rnk w b n f)(hfg:∀z,f z=g z):Rnk w b n g:=by
 obtain⟨D,h1,h2,h3⟩:=h;exact⟨D,h1,h2,fun z hz=>by rw[h3 z hz,hfg]⟩
theorem Rnk.made(w:World):Rnk (w.alloc (.map #[] 0)) w.heap.size 0 (fun _=>0):=⟨.map [],World.ownsMap_made w _ _ _,Maps.isMap_empty,fun x _=>by simp[DataW.atKey]⟩
theorem Rnk.lt{w:World}{b n:Nat}{f:Int→Int}(h:Rnk w b n f):b<w.heap.size:=by
 obtain⟨D,h1,_⟩:=h;exact h1.lt
theorem Rnk.below{w w':World}{b n:Nat}{f:Int→Int}(h:Rnk w b n f)(hb:Below w.heap.size w w'):Rnk w' b n f:=by
 have hlt:=h.lt;obtain⟨D,⟨es,clock,h4,F,hs,hD⟩,h2,h3⟩:=h;exact⟨D,⟨es,clock,(hb.block b hlt).trans h4,F,hs,hD⟩,h2,h3⟩
theorem Sl.turned{w w':World}{l:List D}{fp:List Nat}{v:Value}{b:Nat}(h:Sl w l fp v)(hg:w.grownBy w' (some b))(hb:∀x∈fp,x≠b):Sl w' l fp v:=
 R.same h (fun x hx=>hg.block x (R.lt h x hx) (fun e=>hb x hx (by injection e))) hg.size
theorem Gj{x:Nat}(h:x≤4194304):(t_ .i64 (x:Int)).wf=true:=by
 have h1:IntKind.i64.min≤(x:Int):=by simp[IntKind.min,IntKind.signed,IntKind.bits]
 have h2:(x:Int)≤IntKind.i64.max:=by simp[IntKind.max,IntKind.signed,IntKind.bits];omega
 simp[Lit.wf,h1,h2];omega
noncomputable def fO(l:List GPart)(k:Nat)(z:Int):Int:=if fF ((iK l).take k) z then(wR l z:Int)else 0
noncomputable def fI(l:List GPart)(k x:Nat)(us:List Nat)(i:Nat)(z:Int):Int:=if z=(x:Int)then 1+(D6 (rk l) (us.take i):Int)else fO l k z
theorem ahO(l:List GPart)(z:Int):fO l (iK l).length z=(wR l z:Int):=by
 unfold fO;rw[h_];cases h:fF (iK l) z with
 |true=>simp
 | false=>
   cases h1:bI l z with
   |false=>rw[ZR h1];simp
   | true=>
     obtain⟨h0,hlt⟩:=lM l z h1;have:=BR l _ z.toNat (a_ _) (by rw[f_ h0];exact h1);rw[f_ h0,h]at this;cases this
theorem af7(l:List GPart){k x:Nat}(h:k<(iK l).length)(hx:(iK l)[k]=(x:Int))(hr:bI l (x:Int)=true)(z:Int):fI l k x (nd l x) (nd l x).length z=fO l (k+1) z:=by
 unfold fI fO;rw[h_,e_ h,hx];unfold fF;rw[List.any_append];by_cases e:z=(x:Int)
 ·subst e;rw[if_pos rfl,BN hr,agV l x];simp
 ·rw[if_neg e];have:((x:Int)==z)=false:=by rw[beq_eq_false_iff_ne];exact fun h=>e h.symm
  simp[this]
theorem af8(l:List GPart)(k x:Nat)(us:List Nat)(z:Int):(if z=(x:Int)then(1:Int)else fO l k z)=fI l k x us 0 z:=by
 unfold fI;simp[D6]
theorem aiU(l:List GPart)(k x:Nat)(us:List Nat)(i:Nat):fI l k x us i (x:Int)=((1+D6 (rk l) (us.take i):Nat):Int):=by unfold fI;rw[if_pos rfl];push_cast;rfl
theorem aiV(l:List GPart){k x u:Nat}(us:List Nat)(i:Nat)(hx:¬(x:Int)∈(iK l).take k)(hu:(u:Int)∈(iK l).take k)(hr:bI l (u:Int)=true):fI l k x us i (u:Int)=(rk l u:Int):=by
 unfold fI fO;rw[if_neg (fun e:(u:Int)=(x:Int)=>hx (e▸hu)),if_pos (rV.2 hu),BN hr]
theorem af9(l:List GPart)(k x:Nat)(us:List Nat){i:Nat}(h:i<us.length)(z:Int):(if z=(x:Int)then((max (1+D6 (rk l) (us.take i)) (1+rk l us[i]):Nat):Int)else fI l k x us i z)=fI l k x us (i+1) z:=by
 unfold fI;rw[aaj _ _ h];by_cases e:z=(x:Int)
 ·rw[if_pos e,if_pos e];omega
 ·rw[if_neg e,if_neg e,if_neg e]
theorem Og(l:List GPart)(z:Int)(hz:(t_ .i64 z).wf=true)(fp:List Nat)(v:Value)(w:World)(hS:Sl w (l.map GPart.toD) fp v)(hw:l.length+D.wts (l.map GPart.toD)≤1048576):
 Calls Tryz.prog 52 #[v,.int .i64 z] w (Ey (.int .i64 (wR l z:Nat)) w):=by
 have hn:=j_ (show l.length≤1048576 by omega);have hw':=j_ hw;have hRl:=DY (tu l).1;have hro0:=uP l hw;have hAt:=fun j (h:j<(iK l).length)=>XU l h
 have hNext:=fun k x (h:k<(iK l).length)=>af7 l (x:=x) h
 have hU0:=fun k x u us i=>aiV l (k:=k) (x:=x) (u:=u) us i
 have hEnd:=ahO l z;have hFirst:∀y,fO l 0 y=0:=fun y=>by unfold fO;simp[fF]
 obtain⟨R,hR0⟩:∃R,iK l=R:=⟨_,rfl⟩
 simp only[hR0]at hRl hro0 hAt hNext hU0 hEnd;rw[← hEnd];have hR0:=j_ hR0;clear hEnd;have hRl:=j_ hRl;obtain⟨A,c,rfl,hl,hc⟩:=hS.jk;clear hl hc hw;have hmm:= @run_makeMap Tryz.prog;have hS1:=hS.below ((Below.refl w.heap.size w).alloc (a_ _) (.map #[] 0));have hro:=of_own hro0 (MX _) (vs:= [.slice A l.length c]) (w:=w.alloc (.map #[] 0)) ⟨BM hS1,trivial⟩;have hmR:R.length≤9223372036854775807:=by have:=hRl.out;have:=hn.out;omega
 go_enter Tryz.func52,Tryz.ntmps52
 go_wp2_with (go_at_call 48;refine hro.mono ?_;rintro e w1 ⟨fR,vR,rfl,hR,hF,hb1⟩;obtain⟨A1,c1,rfl,hl1,hc1⟩:=hR.jk)
 clear hl1 hc1 hro hmm hS1 hro0;have hms:(w.alloc (.map #[] 0)).heap.size=w.heap.size+1:=by simp
 have hk1:Rnk w1 w.heap.size 0 (fO l 0):=((Rnk.made w).below hb1).congr (fun z=>(hFirst z).symm);have hG1:Below w.heap.size w w1:=((Below.refl w.heap.size w).alloc (a_ _) (.map #[] 0)).trans (hb1.mono (by omega));have hne:∀x∈fR,x≠w.heap.size:=fun x hx e=>by have:=(hF.2 x hx).1;omega
 clear hF hb1;have hms:=j_ hms
 go_loopw [14] (fun iv wr=>∃k n,k≤R.length∧iv= .int .i64 (k:Nat)∧n≤k*1048577∧Rnk wr w.heap.size n (fO l k)∧Sl wr (R.map li) fR (.slice A1 R.length c1)∧Below w.heap.size w wr) (fun iv _=>R.length - (intOf iv).toNat)
 case atStart=>exact⟨0,0,by omega,rfl,by omega,hk1,hR,hG1⟩
 case round=>
  clear hk1 hR hG1;obtain⟨k,n,hk,rfl,hnk,hrk,hR,hb⟩:=hrel;by_cases hlt:k<R.length
  ·have hd:(R.map li)[k]? =some (li R[k]):=by rw[b_,x_ hlt];rfl
   obtain⟨x,hx,hrun,hnot,hnds⟩:=hAt k hlt;obtain⟨b,o,fi,ci,rfl,hbb,hbf,hri,hfi,hat⟩:=hR.elem Oz hd;obtain⟨rfl,rfl⟩:=hri;simp only[Q_,hx]at hat;have q0:wr.cell? ⟨b,o+k,none⟩=some (.int .i64 (x:Int)):=hat.head;have hxl:=(lM l _ hrun).2;have hx2:x≤4194304:=by have:=hn.out;omega
   have hwx:=Gj hx2;obtain⟨wa,hput,hka,hga⟩:=hrk.put hwx (a:=1) (by decide) (by have:=hn.out;have:=hRl.out;unfold maxLen;omega);have hba:Below w.heap.size w wa:=hb.grown hga hb.size (fun b h=>by have h:=Option.some.inj h;omega);have hRa:=hR.turned hga hne;have hka2:=hka.congr (fun z=>af8 l k x (nd l x) z);have hus:=of_own (uy l (x:Int) hw'.out) (afT _) (vs:= [.slice A l.length c,.int .i64 (x:Int)]) (w:=wa) ⟨BM (hS.below hba),U7 _,trivial⟩;have hnl:=j_ (yP l (x:Int));change Calls _ _ _ _ (wJ ((nd l x).map ln) _)at hus;have hnd:∀u∈nd l x,bI l (u:Int)=true:=fun u hu=>Vf hu
   change Hid ((nd l x).length≤l.length)at hnl;have hnx:=fun z=>hNext k x hlt hx hrun z
   obtain⟨us,hus0⟩:∃us,nd l x=us:=⟨_,rfl⟩
   rw[hus0]at hus hnl hnd hnds hka2;simp only[hus0]at hnx;have hmU:us.length≤9223372036854775807:=by have:=hnl.out;have:=hn.out;omega
   have hlt':=j_ hlt;have hnk':=j_ hnk;have hx2':=j_ hx2;unfold mi at hput;clear hat hd hrk hka hga hR hx hlt hnk hxl hbb hbf hx2
   go_wp2_with (go_at_call 79;refine hus.mono ?_;rintro e w2 ⟨fU,vU,rfl,hU,hFU,hb2⟩;obtain⟨A2,c2,rfl,hl2,hc2⟩:=hU.jk)
   have hk2:=hka2.below hb2;have hRb:=hRa.below hb2;have hbb2:=hba.trans (hb2.mono hba.size);have hltm:=hka2.lt;have hneU:∀y∈fU,y≠w.heap.size:=fun y hy e=>by have:=(hFU.2 y hy).1;omega
   have hnn:=j_ (show n+1+us.length<maxLen by have:=hnk'.out;have:=hnl.out;have:=hn.out;have:=hRl.out;have:=hlt'.out;unfold maxLen;omega);clear hus hput q0 hka2 hRa hl2 hc2 hb2 hba hFU hltm
   go_loopw [24] (fun iv ws=>∃i n2,i≤us.length∧iv= .int .i64 (i:Nat)∧n2≤n+1+i∧Rnk ws w.heap.size n2 (fI l k x us i)∧Sl ws (us.map ln) fU (.slice A2 us.length c2)∧Sl ws (R.map li) fR (.slice (some ⟨b,o,none⟩) R.length c1)∧Below w.heap.size w ws) (fun iv _=>us.length - (intOf iv).toNat)
   case atStart=>exact⟨0,n+1,by omega,rfl,by omega,hk2,hU,hRb,hbb2⟩
   case round=>
    clear hk2 hU hRb hbb2;obtain⟨i,n2,hi,rfl,hn2,hk3,hU3,hR3,hb3⟩:=hrel;by_cases hli:i<us.length
    ·have hd:(us.map ln)[i]? =some (ln us[i]):=by rw[b_,x_ hli];rfl
     obtain⟨b2,o2,fi,ci,rfl,hbb,hbf,hri,hfi,hat⟩:=hU3.elem Vh hd;obtain⟨rfl,rfl⟩:=hri;simp only[Q_]at hat;have q0:wr.cell? ⟨b2,o2+i,none⟩=some (.int .i64 ((us[i]:Nat):Int)):=hat.head;have hmem:=o_ hli;have hru:=hnd us[i] hmem;have hul:=(lM l _ hru).2;have hwu:=Gj (x:=us[i]) (by have:=hn.out;simp only[F_]at hul;omega);have hl1:=hk3.look hwx;rw[aiU]at hl1;have hl2:=hk3.look hwu;rw[hU0 k x us[i] us i hnot (hnds us[i] hmem) hru]at hl2;have hrl:=agU l us[i];have hml:D6 (rk l) (us.take i)≤l.length+1:=Jv (fun u _=>agU l u) (d_ _);have hnx2:=fun z=>af9 l k x us hli z
     obtain⟨r,hr0⟩:∃r,rk l us[i]=r:=⟨_,rfl⟩
     obtain⟨a,ha0⟩:∃a,1+D6 (rk l) (us.take i)=a:=⟨_,rfl⟩
     have ha1:a≤l.length+2:=by omega
     rw[hr0]at hl2 hrl;rw[ha0]at hl1;simp only[hr0,ha0]at hnx2;have hmx:max (a:Int) (1+(r:Int))=((max a (1+r):Nat):Int):=by omega
     obtain⟨wb,hput,hkb,hgb⟩:=hk3.put hwx (a:=max (a:Int) (1+(r:Int))) (by rw[hmx];exact Gj (by have:=hn.out;omega)) (by have:=hnn.out;omega);have hbw:Below w.heap.size w wb:=hb3.grown hgb hb3.size (fun b h=>by have h:=Option.some.inj h;omega);have hUb:=hU3.turned hgb hneU;have hRb:=hR3.turned hgb hne;have hkb2:Rnk wb w.heap.size (n2+1) (fI l k x us (i+1)):=hkb.congr (fun y=>by rw[hmx];exact hnx2 y);have hab:a≤4194304∧r≤4194303:=by have:=hn.out;omega
     have hn2':=j_ hn2;unfold mi at hput hl1 hl2;clear hd hat hk3 hkb hgb hU3 hR3 hb3 hr0 ha0 hml hrl hul hbb hbf ha1 hn2 hmx hnx2
     go_wp2_with fail
     go_roundw
     case rel=>exact⟨i+1,n2+1,by omega,by go_num,by have:=hn2'.out;omega,hkb2,hUb,hRb,hbw⟩
     case measure=>(simp[intOf]<;>omega)
    ·have hf:=j_ (show i=us.length by omega);have hk4:Rnk wr w.heap.size n2 (fO l (k+1)):=hk3.congr (fun y=>by rw[hf.out];exact hnx y);have hn2':=j_ hn2;clear hk3 hn2
     go_wp2_with fail
     go_roundw
     case rel=>exact⟨k+1,n2,by have:=hlt'.out;omega,by go_num,by have:=hn2'.out;have:=hnk'.out;have:=hf.out;have:=hnl.out;have:=hn.out;omega,hk4,hR3,hb3⟩
     case measure=>(have:=hlt'.out;simp[intOf]<;>omega)
  ·have hf:=j_ (show k=R.length by omega);have hl1:=hrk.look hz;rw[hf.out]at hl1;unfold mi at hl1;clear hrk hR hnk
   go_wp2_with fail
   go_ret
   exact⟨rfl,hb⟩
theorem BQ(l:List GPart):qL l (iK l)=true:=by
 unfold qL;rw[(tu l).1,Bool.true_and,Dp];intro x hx;cases h:bI l (x:Int)with
 |false=>rfl
 |true=>rw[BR l _ x (a_ _) h];rfl
theorem acO{l:List GPart}{o:List Int}(h:qL l o=true):lN (bI l) (uz l) o o.length=true∧Gh (bI l) o l.length=true:=by
 unfold qL at h;simpa only[k_]using h
theorem Om{l:List GPart}{o:List Int}(h:qL l o=true):o.length=F9 l l.length:=by
 obtain⟨h1,h2⟩:=acO h;have h3:=Yg (lM l) h1;rw[h2,decide_eq_true_iff]at h3;exact h3.symm
theorem acN{l:List GPart}{o:List Int}(h:qL l o=true):o.length=(iK l).length:=(Om h).trans (Om (BQ l)).symm
theorem Z8{l:List GPart}{o:List Int}(h:qL l o=true):o.Nodup:=by
 have:=(BX (a_ _) (acO h).1).1;rwa[h_]at this
theorem ahV{o:List Int}(h:o.Nodup):∀z∈o,o.count z=1:=by
 induction o with
 |nil=>intro z hz;simp at hz
 | cons a o ih=>
   intro z hz;rw[I_]at h;rw[List.count_cons];rcases N_.1 hz with rfl|hz
   ·rw[List.count_eq_zero.2 h.1];simp
   ·rw[ih h.2 z hz];have:(a==z)=false:=by
     rw[beq_eq_false_iff_ne];rintro rfl;exact h.1 hz
    simp[this]
theorem aft{l:List GPart}{o:List Int}(h:qL l o=true){k:Nat}(hk:k<o.length):o.count o[k]=1:=ahV (Z8 h) _ (o_ hk)
theorem acP(l:List GPart){k:Nat}(hk:k<(iK l).length):bI l (iK l)[k]=true:=by
 obtain⟨x,h1,h2,_⟩:=XU l hk;rw[h1];exact h2
theorem ag1{g:Nat→Nat}{u:Nat}:∀{us:List Nat} {a:Nat},(u∈us∨g u≤a)→g u≤us.foldl (fun a u=>max a (g u)) a
 | [],a,h=>by
   rcases h with h|h
   ·simp at h
   ·exact h
 | x::us,a,h=>by
   rw[z_];refine ag1 ?_;rcases h with h|h
   ·rcases N_.1 h with rfl|h
    ·exact O_ (Nat.le_max_right _ _)
    ·exact w_ h
   ·exact O_ (Nat.le_trans h (Nat.le_max_left _ _))
theorem afh{l:List GPart}{z:Int}{u:Nat}(hz:bI l z=true)(hu:u∈duI l z)(h:bI l (u:Int)=true):wR l (u:Int)<wR l z:=by
 obtain⟨h0,_⟩:=lM l _ hz;obtain⟨k,rfl⟩:∃k:Nat,z=(k:Int):=⟨z.toNat,by omega⟩
 rw[BN h,BN hz,agV l k];have h1:rk l u≤D6 (rk l) (nd l k):=ag1 (w_ (y_.2 ⟨hu,h⟩));omega
theorem Z9{l:List GPart}(h:qL l []=false)(h2:iK l= []):False:=by
 have:=BQ l;rw[h2,h]at this;cases this
theorem Ib(l:List GPart):(iK l).length≤l.length:=by
 rw[Om (BQ l)];exact Ph l _
end
section
open Nat renaming le_refl→a_,zero_le→d_,add_zero→s_,lt_or_ge→B_,mul_one→Q_
open List renaming getElem?_map→b_,getElem?_range→c_,take_succ_eq_append_getElem→e_,length_cons→g_,take_length→h_,range→i_,length_append→l_,length_nil→m_,getElem_mem→o_,all_eq_true→p_,contains_iff_mem→q_,length_map→r_,find?_range_eq_some→v_,getElem?_eq_getElem→x_,mem_filter→y_,foldl_cons→z_,replicate→A_,mem_map→C_,mem_singleton→D_,ext_getElem→H_,nodup_cons→I_,mem_range→K_,mem_cons→N_
open Int renaming toNat_of_nonneg→f_,toNat_natCast→F_
open Lib renaming hid→j_
open Bool renaming and_eq_true→k_,false_eq_true→n_,eq_false_iff→u_,not_eq_true'→E_
open Lit renaming int→t_
open Or renaming inl→w_,inr→O_
attribute [local irreducible] sw sd sn
theorem bZ.pF{P:Program}{f:Nat}{l:List GPart}{ds r:List D}{e s:Nat}(h:bZ P f (.sl (l.map GPart.toD)::ds) r e s):bZ P f (.sl (l.map Go.Proofs.YtfjmoicellpnhaaGreat.pF)::ds) r e s:=fun w vs hr ht=>h w vs (abX hr) ht
theorem ZN(l:List GPart)(hw:l.length+D.wts (l.map GPart.toD)≤1048576):bZ Tryz.prog 49 [.sl (l.map pF)] ((iK l).map li) 3 1:=bZ.pF (uO l hw)
theorem ZO(l:List GPart)(hw:l.length+D.wts (l.map GPart.toD)≤1048576):aI Tryz.prog 49 [.sl (l.map pF)] (.c false [.sl true ((iK l).map li)]):=aI.pF (U1 (uO l hw))
theorem Vo(l:List GPart)(o:List Int)(hw:l.length+D.wts (l.map GPart.toD)≤1048576)(ho:o.length≤1048576):aI Tryz.prog 54 [.sl (l.map pF),.sl (o.map li)] (.c false [.raw (.bool (qL l o))]):=aI.pF (Az l o hw (by omega))
theorem Lp(l:List GPart)(hw:l.length+D.wts (l.map GPart.toD)≤1048576):aI Tryz.prog 48 [.sl (l.map pF)] (.c false [.sl true ((iK l).map li)]):=aI.pF (U1 (uP l hw))
theorem Iz(l:List GPart)(o:List Int)(hw:l.length+D.wts (l.map GPart.toD)≤1048576)(ho:o.length≤1048576):aI Tryz.prog 50 [.sl (l.map pF),.sl (o.map li)] (.c false [.raw (.bool (qL l o))]):=aI.pF (AA l o hw (by omega))
theorem Ht(l:List GPart)(z:Int)(hw:l.length+D.wts (l.map GPart.toD)≤1048576):aI Tryz.prog 51 [.sl (l.map pF),li z] (.c false [.raw (.bool (bI l z))]):=aI.pF (iQ l z hw)
theorem EM(l:List GPart)(z:Int)(hz:(t_ .i64 z).wf=true)(hw:l.length+D.wts (l.map GPart.toD)≤1048576):aI Tryz.prog 52 [.sl (l.map pF),li z] (.c false [.raw (.int .i64 (wR l z:Nat))]):=aI.pF (sU fun w vs hr=>by
 obtain⟨v,u,rfl,h1,h2⟩:=Qq hr;obtain⟨fp,hS⟩:=xI h1;obtain rfl:=pX h2;exact Og l z hz fp v w hS hw)
theorem abb{l:List GPart}{z:Int}(hn:l.length≤1048576)(h:bI l z=true):(t_ .i64 z).wf=true:=by
 obtain⟨h0,h1⟩:=lM l z h;have:=Gj (x:=z.toNat) (by omega);rwa[f_ h0]at this
def MH :IC:=(zd_ [zz_ 2 (.mov (.k (.slice none 0 0))),zk_ 3 0] (zd_ [zw_ 5 0,zq_ 6 56 5,zw_ 4 6] (.seq (zd_ [zw_ 7 4,zn_ 8 83 7 2] (.cond (.t 8) (zd_ [zw_ 9 4,zq_ 10 55 9,zw_ 11 4,zn_ 12 76 11 9,zm_ 13 .sub 12 1,zw_ 2 10,zw_ 3 13] .ret) .skip)) (zd_ [zw_ 14 4,zq_ 15 65 14,zw_ 16 4,zn_ 17 76 16 9,zm_ 18 .sub 17 1,zw_ 2 15,zw_ 3 18] .ret))))
theorem OV :ak Tryz.prog (Tryz.f77.body.getD .skip)=some MH:=by kernel_rfl
theorem aeg(l:List UInt8)(n:Bool)(hl:l.length≤1048576):jv Tryz.prog 77 [.c false [.sl n (l.map lu8)]] [] [] (fun r os' bs'=>∃(ps:List GPart) (i h:Int),ps.length≤9∧(∀p∈ps,p.toD.wt≤60000)∧(∃z:Int,r= .tup [(false,[.sl false (ps.map pF)]),(false,[.raw (.int .i64 z)])])∧os'= []∧bs'= [[.sl false (l.map lu8),.raw (.int .i64 i),.raw (.int .i64 h)]]):=by
 refine Uh (fn:=Tryz.f77) (t:=2) (u:=3) (hc:=OV) (h:= ?_);unfold MH;refine zb_ ?_;change dH _ _ _ _ (stS 19 _ _ _);refine sS tdX ?_
 repeat' (first|(refine rg_ ?_;intro K hK)|(refine hq_ ?_;clear hK K)|refine ca_ ?_ ?_|(refine cg_ ?_;first|((refine Dk (ag0 l _ _ _ hl (by simp[AC.fits]) (by simp[AC.fits])) ?_);rintro _ _ _ ⟨rfl,rfl,h,rfl⟩)|(refine ay false (h:=(lV l _ _ 2 (by first|assumption|omega) (by first|assumption|omega) hl (by decide))) (hK:= ?_);rintro _ _ _ ⟨⟨_|_,rfl⟩,rfl,i,h,hi0,hi1,rfl⟩)|(refine ay false (h:=(ZW l _ _ (by first|assumption|omega) (by first|assumption|omega) hl)) (hK:= ?_);rintro _ _ _ ⟨⟨ps,hp1,hp2,rfl⟩,rfl,i,h,hi0,hi1,rfl⟩)|(refine ay false (h:=(Lr l _ _ (by first|assumption|omega) (by first|assumption|omega) hl)) (hK:= ?_);rintro _ _ _ ⟨⟨ps,hp1,hp2,rfl⟩,rfl,i,h,hi0,hi1,rfl⟩)|(refine ay false (h:=(oO l _ _ 9 (by first|assumption|omega) (by first|assumption|omega) hl (by decide) (by decide))) (hK:= ?_);rintro _ _ _ ⟨⟨k,hk,rfl⟩,rfl,i,h,hi0,hi1,rfl⟩))|refine sz_ tdE ?_|refine nv ?_|(refine c2_ ?_ ?_<;>(intro hb hb';try(exfalso;omega)))|exact bq_|fail)
 all_goals exact⟨_,_,rfl,rfl,d_ _,d_ _,ps,_,_,hp1,hp2,⟨_,rfl⟩,rfl,rfl⟩
def MG :IC:=(zd_ [zz_ 2 (.mov (.k (.slice none 0 0)))] (zd_ [zw_ 6 0,zq_ 7 77 6,zw_ 5 7,zz_ 8 (.ext 0 (.t 5)),zz_ 9 (.ext 1 (.t 5)),zw_ 3 8,zw_ 4 9] (zd_ [zw_ 10 3,zw_ 2 10] .ret)))
theorem OU :ak Tryz.prog (Tryz.f47.body.getD .skip)=some MG:=by kernel_rfl
theorem aef(l:List UInt8)(n:Bool)(hl:l.length≤1048576):jv Tryz.prog 47 [.c false [.sl n (l.map lu8)]] [] [] (fun r os' bs'=>∃(ps:List GPart) (i h:Int),ps.length≤9∧(∀p∈ps,p.toD.wt≤60000)∧(r= .c false [.sl false (ps.map pF)])∧os'= []∧bs'= [[.sl false (l.map lu8),.raw (.int .i64 i),.raw (.int .i64 h)]]):=by
 refine Ze (fn:=Tryz.f47) (rs:= [.tmp 2]) (hc:=OU) (h:= ?_);unfold MG;refine zb_ ?_;change dH _ _ _ _ (stS 11 _ _ _);refine sS tdX ?_
 repeat' (first|(refine rg_ ?_;intro K hK)|(refine hq_ ?_;clear hK K)|refine ca_ ?_ ?_|(refine cg_ ?_;first|((refine Dk (aeg l _ hl) ?_);rintro _ _ _ ⟨ps,i,h,hp1,hp2,⟨z,rfl⟩,rfl,rfl⟩))|refine sz_ tdE ?_|refine nv ?_|(refine c2_ ?_ ?_<;>(intro hb hb';try(exfalso;omega)))|exact bq_|fail)
 all_goals exact⟨_,_,_,⟨ps,_,_,hp1,hp2,rfl,rfl,rfl⟩,d_ _,d_ _,trivial,⟨rfl,trivial⟩,rfl,rfl,rfl⟩
end
end Go.Proofs.YtfjmoicellpnhaaGreat
