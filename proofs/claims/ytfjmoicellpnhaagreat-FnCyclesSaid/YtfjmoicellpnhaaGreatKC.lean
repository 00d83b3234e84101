/-
  Texts joined: Far FarC.
-/
import Derived.Test.YtfjmoicellpnhaaGreatJZ
set_option maxHeartbeats 8000000
namespace Go.Proofs.YtfjmoicellpnhaaGreat
open Go.RowKit
open List renaming length_replicate→a_,length_append→b_,take_succ_eq_append_getElem→c_,length_cons→d_,mem_singleton→e_,length_map→f_,length_nil→g_,replicate→h_,getElem_mem→i_,mem_append→k_,eq_nil_of_length_eq_zero→l_,mem_append_left→p_,replicate_succ'→q_,map_set→r_,cons_ne_nil→s_,take_length→t_,length_set→u_,range→w_
open Classical renaming choose_spec→j_
open Nat renaming lt_or_ge→m_,le_refl→n_,zero_le→o_
set_option linter.unusedSimpArgs false
set_option linter.unusedVariables false
def Way(f:Nat→List Nat)(i:Nat):Nat→Nat→Prop
 |0,u=>u=i
 |k+1,u=>∃v∈f u,Way f i k v
theorem Xa{P:Nat→Prop}:(∃n,P n)→∃n,P n∧∀m,P m→n≤m:=by
 rintro⟨n,hn⟩
 induction n using Nat.strongRecOn with
 | ind n ih=>
   by_cases h:∃m,m<n∧P m
   ·obtain⟨m,h1,h2⟩:=h
    exact ih m h1 h2
   ·exact⟨n,hn,fun m hm=>by
     rcases m_ m n with h'|h'
     ·exact absurd ⟨m,h',hm⟩ h
     ·exact h'⟩
noncomputable def dst(f:Nat→List Nat)(i u:Nat):Nat:= @dite _ (∃n,1≤n∧Way f i n u) (Classical.propDecidable _) (fun h=>Classical.choose (Xa h)) (fun _=>0)
theorem yB{f:Nat→List Nat}{i u:Nat}(h:1≤dst f i u):Way f i (dst f i u) u:=by
 unfold dst at h⊢
 split
 ·next hx=>exact(j_ (Xa hx)).1.2
 ·next hx=>rw[dif_neg hx]at h;omega
theorem IB{f:Nat→List Nat}{i u n:Nat}(h1:1≤n)(h:Way f i n u):1≤dst f i u∧dst f i u≤n:=by
 have hx:∃n,1≤n∧Way f i n u:=⟨n,h1,h⟩
 unfold dst
 rw[dif_pos hx]
 exact⟨(j_ (Xa hx)).1.1,(j_ (Xa hx)).2 n ⟨h1,h⟩⟩
theorem Bz{f:Nat→List Nat}{i u n:Nat}(h1:1≤n)(h:dst f i u=n+1):∃v∈f u,dst f i v=n:=by
 have hw:=yB (f:=f) (i:=i) (u:=u) (by omega)
 rw[h]at hw
 obtain⟨v,hv,hv2⟩:=hw
 have h2:=IB h1 hv2
 refine⟨v,hv, ?_⟩
 have h3:=yB h2.1
 have h4:=IB (f:=f) (i:=i) (u:=u) (n:=dst f i v+1) (by omega) ⟨v,hv,h3⟩
 omega
theorem Ya{f:Nat→List Nat}{i u:Nat}:dst f i u=1↔i∈f u:=by
 constructor
 ·intro h
  have hw:=yB (f:=f) (i:=i) (u:=u) (by omega)
  rw[h]at hw
  obtain⟨v,hv,hv2⟩:=hw
  have:v=i:=hv2
  exact this▸hv
 ·intro h
  have:=IB (f:=f) (i:=i) (u:=u) (n:=1) (by omega) ⟨i,h,rfl⟩
  omega
theorem acX{f:Nat→List Nat}{i u v n:Nat}(h1:1≤n)(hv:v∈f u)(h:dst f i v=n):1≤dst f i u∧dst f i u≤n+1:=
 IB (by omega) ⟨v,hv,h▸yB (by omega)⟩
theorem RV{f:Nat→List Nat}{i n:Nat}(h1:1≤n)(h:∀u,dst f i u≠n):∀m u,dst f i u≠n+m
 |0,u=>h u
 | m+1,u=>fun e=>by
   obtain⟨v,_,hv⟩:=Bz (n:=n+m) (by omega) (show dst f i u=n+m+1 by omega)
   exact RV h1 h m v hv
noncomputable def fvT(f:Nat→List Nat)(i n u:Nat):Int:=if 1≤dst f i u∧dst f i u<n then(dst f i u:Int)else -1
noncomputable def fvI(f:Nat→List Nat)(i u:Nat):Int:=if 1≤dst f i u then(dst f i u:Int)else -1
noncomputable def Bq(f:Nat→List Nat)(N i:Nat):List Int:=(w_ N).map (fvI f i)
theorem Iu(f:Nat→List Nat)(N i:Nat):(Bq f N i).length=N:=by simp[Bq]
theorem NY(f:Nat→List Nat)(N i k:Nat)(h:k<(Bq f N i).length):(Bq f N i)[k]=fvI f i k:=by simp[Bq]
noncomputable def unk(f:Nat→List Nat)(N i n:Nat):Nat:=gq (fun u=>decide (¬(1≤dst f i u∧dst f i u<n))) (fun _=>1) N
theorem FT{p q:Nat→Bool}(h:∀x,p x=true→q x=true):∀n,gq p (fun _=>1) n≤gq q (fun _=>1) n
 |0=>n_ _
 | n+1=>by
   have:=FT h n
   have h2:=h n
   simp only[gq]
   cases hp:p n<;>cases hq:q n<;>simp_all<;>omega
theorem VR{p q:Nat→Bool}(h:∀x,p x=true→q x=true){k:Nat}(hp:p k=false)(hq:q k=true):∀n,k<n→gq p (fun _=>1) n+1≤gq q (fun _=>1) n
 |0,hk=>by omega
 | n+1,hk=>by
   have h2:=h n
   simp only[gq]
   rcases m_ k n with h'|h'
   ·have:=VR h hp hq n h'
    cases hp:p n<;>cases hq:q n<;>simp_all<;>omega
   ·obtain rfl:k=n:=by omega
    have:=FT h k
    rw[hp,hq]
    simp
    omega
theorem OO(p:Nat→Bool):∀n,gq p (fun _=>1) n≤n
 |0=>n_ _
 |n+1=>by have:=OO p n;simp only[gq];split<;>omega
theorem aaj(f:Nat→List Nat)(N i n:Nat):unk f N i (n+1)≤unk f N i n:=FT (fun x hx=>by simp only[decide_eq_true_eq]at hx⊢;omega) N
theorem afT(f:Nat→List Nat)(N i n:Nat){u:Nat}(h1:1≤n)(hu:u<N)(h:dst f i u=n):unk f N i (n+1)+1≤unk f N i n:=
 VR (fun x hx=>by simp only[decide_eq_true_eq]at hx⊢;omega) (k:=u) (by simp;omega) (by simp;omega) N hu
structure FarInv (f:Nat→List Nat) (N i:Nat) (n:Nat) (far:List Int) (list:List Nat):Prop where
 n1:1≤n
 len:far.length=N
 far:∀u (h:u<far.length),far[u]=fvT f i n u
 nx:∀u,u<N→(dst f i u=n↔(¬(1≤dst f i u∧dst f i u<n)∧∃v∈list,v∈f u))
 lt:∀v∈list,v<N
 nd:list.Nodup
 bd:n+unk f N i n+(if list= []then 0 else 1)≤N+2
theorem FarInv.start{f:Nat→List Nat}{N i:Nat}(hi:i<N):FarInv f N i 1 (h_ N (-1)) [i] where
 n1:=n_ _
 len:=by simp
 far:=fun u h=>by rw[List.getElem_replicate];unfold fvT;rw[if_neg (by omega)]
 nx:=fun u hu=>by
  rw[Ya]
  simp only[e_,exists_eq_left]
  refine⟨fun h=>⟨by omega,h⟩,fun h=>h.2⟩
 lt:=by simpa using hi
 nd:=by simp
 bd:=by
  have:=OO (fun u=>decide (¬(1≤dst f i u∧dst f i u<1))) N
  unfold unk
  simp only[s_,if_false]
  omega
structure RndInv (f:Nat→List Nat) (N i:Nat) (n:Nat) (list:List Nat) (k:Nat) (far:List Int) (next:List Nat):Prop where
 len:far.length=N
 far:∀u (h:u<far.length),far[u]=if u∈next then(n:Int)else fvT f i n u
 nxt:∀u∈next,u<N∧dst f i u=n
 dn:∀v∈list.take k,∀u,u<N→v∈f u→dst f i u=n→u∈next
 nd:next.Nodup
 le:k≤list.length
theorem FarInv.round{f:Nat→List Nat}{N i n:Nat}{far:List Int}{list:List Nat}(h:FarInv f N i n far list):RndInv f N i n list 0 far [] where
 len:=h.len
 far:=fun u hu=>by rw[h.far u hu];simp
 nxt:=by simp
 dn:=by simp
 nd:=List.nodup_nil
 le:=o_ _
theorem RndInv.fin{f:Nat→List Nat}{N i n:Nat}{far0 far:List Int}{list next:List Nat}(hF:∀u,∀v∈f u,v<N)(h0:FarInv f N i n far0 list)(hne:0<list.length)(h:RndInv f N i n list list.length far next):FarInv f N i (n+1) far next:=by
 have hn1:=h0.n1
 have hm:∀u,u<N→(u∈next↔dst f i u=n):=fun u hu=>⟨fun hx=>(h.nxt u hx).2,fun hd=>by
  obtain⟨_,v,hv,hvu⟩:=(h0.nx u hu).1 hd
  exact h.dn v (by rw[t_];exact hv) u hu hvu hd⟩
 refine{n1:=by omega,len:=h.len,far:=fun u hu=> ?_,nx:=fun u hu=> ?_,lt:=fun v hv=>(h.nxt v hv).1,nd:=h.nd,bd:= ?_}
 ·rw[h.far u hu]
  have:=hm u (by rw[← h.len];exact hu)
  by_cases hd:dst f i u=n
  ·rw[if_pos (this.2 hd)];unfold fvT;rw[if_pos (by omega),hd]
  ·rw[if_neg (fun hx=>hd (this.1 hx))]
   unfold fvT
   by_cases h2:1≤dst f i u∧dst f i u<n
   ·rw[if_pos h2,if_pos (by omega)]
   ·rw[if_neg h2,if_neg (by omega)]
 ·constructor
  ·intro hd
   obtain⟨v,hv,hv2⟩:=Bz hn1 hd
   exact⟨by omega,v,(hm v (hF u v hv)).2 hv2,hv⟩
  ·rintro⟨h1,v,hv,hvu⟩
   have:=acX hn1 hvu (h.nxt v hv).2
   omega
 ·have h1:=h0.bd
  rw[if_neg (by intro e;rw[e]at hne;simp at hne)]at h1
  cases next with
  | nil=>
    have:=aaj f N i n
    simp only[if_true]
    omega
  | cons u next=>
    have h2:=h.nxt u (by simp)
    have:=afT f N i n hn1 h2.1 h2.2
    simp only[s_,if_false]
    omega
structure UsrInv (f:Nat→List Nat) (N i:Nat) (n:Nat) (list:List Nat) (k:Nat) (us:List Nat) (j:Nat) (far:List Int) (next:List Nat):Prop extends RndInv f N i n list k far next where
 klt:k<list.length
 c:∀u∈us.take j,dst f i u=n→u∈next
 jle:j≤us.length
theorem RndInv.users{f:Nat→List Nat}{N i n:Nat}{far:List Int}{list next:List Nat}{k:Nat}(us:List Nat)(h:RndInv f N i n list k far next)(hk:k<list.length):UsrInv f N i n list k us 0 far next:=
 {h with klt:=hk,c:=by simp,jle:=o_ _}
theorem UsrInv.skip{f:Nat→List Nat}{N i n:Nat}{far:List Int}{list next us:List Nat}{k j:Nat}(h:UsrInv f N i n list k us j far next)(hj:j<us.length)(hlt:us[j]<far.length)(hc:¬far[us[j]]<0):UsrInv f N i n list k us (j+1) far next:=by
 have h9:∀u∈us.take (j+1),dst f i u=n→u∈next:=by
  intro u hu hd
  rw[c_ hj,k_,e_]at hu
  rcases hu with hu|rfl
  ·exact h.c u hu hd
  ·rw[h.far _ hlt]at hc
   by_cases hm:us[j]∈next
   ·exact hm
   ·rw[if_neg hm]at hc
    unfold fvT at hc
    rw[if_neg (by omega)]at hc
    exact absurd (show(-1:Int)<0 by omega) hc
 exact{h with c:=h9,jle:=hj}
theorem UsrInv.put{f:Nat→List Nat}{N i n:Nat}{far0 far:List Int}{list next us:List Nat}{k j:Nat}(h0:FarInv f N i n far0 list)(h:UsrInv f N i n list k us j far next)(hus:∀u∈us,u<N∧list[k]'h.klt∈f u)(hj:j<us.length)(hlt:us[j]<far.length)(hc:far[us[j]]<0):UsrInv f N i n list k us (j+1) (far.set us[j] (n:Int)) (next++ [us[j]]):=by
 have hn1:=h0.n1
 have hm:=hus us[j] (i_ hj)
 rw[h.far _ hlt]at hc
 have hnm:us[j]∉next:=fun hx=>by rw[if_pos hx]at hc;omega
 rw[if_neg hnm]at hc
 have hd:dst f i us[j]=n:=(h0.nx _ hm.1).2 ⟨fun hx=>by unfold fvT at hc;rw[if_pos hx]at hc;omega,_,i_ h.klt,hm.2⟩
 refine{len:=by rw[u_];exact h.len,far:=fun u hu=> ?_,nxt:=fun u hu=> ?_,dn:=fun v hv u hu hvu hdu=>p_ _ (h.dn v hv u hu hvu hdu),nd:=zA h.nd hnm,le:=h.le,klt:=h.klt,c:=fun u hu hdu=> ?_,jle:=hj}
 ·rw[u_]at hu
  by_cases e:us[j]=u
  ·subst e
   rw[List.getElem_set_self,if_pos (by simp)]
  ·rw[List.getElem_set_ne e,h.far u hu]
   have:(u∈next++ [us[j]])↔u∈next:=by simp;intro e2;exact absurd e2.symm e
   simp only[this]
 ·rw[k_,e_]at hu
  rcases hu with hu|rfl
  ·exact h.nxt u hu
  ·exact⟨hm.1,hd⟩
 ·rw[c_ hj,k_,e_]at hu
  rcases hu with hu|rfl
  ·exact p_ _ (h.c u hu hdu)
  ·simp
theorem UsrInv.fin{f:Nat→List Nat}{N i n:Nat}{far:List Int}{list next us:List Nat}{k:Nat}(h:UsrInv f N i n list k us us.length far next)(hus:∀u,u<N→list[k]'h.klt∈f u→u∈us):RndInv f N i n list (k+1) far next:=
 { len:=h.len,far:=h.far,nxt:=h.nxt,nd:=h.nd,le:=h.klt
   dn:=fun v hv u hu hvu hd=>by
    rw[c_ h.klt,k_,e_]at hv
    rcases hv with hv|rfl
    ·exact h.dn v hv u hu hvu hd
    ·exact h.c u (by rw[t_];exact hus u hu hvu) hd}
theorem FarInv.fin{f:Nat→List Nat}{N i n:Nat}{far:List Int}(hF:∀u,∀v∈f u,v<N)(hN:∀u,N≤u→f u= [])(h:FarInv f N i n far []):far=Bq f N i:=by
 refine List.ext_getElem (by rw[h.len,Iu]) (fun u h1 h2=> ?_)
 rw[h.far u h1,NY]
 have hno:∀u,dst f i u≠n:=fun u e=>by
  rcases m_ u N with hu|hu
  ·obtain⟨_,v,hv,_⟩:=(h.nx u hu).1 e
   simp at hv
  ·have hw:=yB (f:=f) (i:=i) (u:=u) (by have:=h.n1;omega)
   have hn1:=h.n1
   obtain⟨m,hm⟩:∃m,dst f i u=m+1:=⟨dst f i u - 1,by omega⟩
   rw[hm]at hw
   obtain⟨v,hv,_⟩:=hw
   rw[hN u hu]at hv
   simp at hv
 unfold fvT fvI
 by_cases h3:1≤dst f i u
 ·have h4:dst f i u<n:=by
   rcases m_ (dst f i u) n with h4|h4
   ·exact h4
   ·exact absurd (show dst f i u=n+(dst f i u - n) by omega) (RV h.n1 hno _ u)
  rw[if_pos ⟨h3,h4⟩,if_pos h3]
 ·rw[if_neg (by omega),if_neg h3]
theorem FarInv.agT{f:Nat→List Nat}{N i n:Nat}{far:List Int}{list:List Nat}(h:FarInv f N i n far list):n≤N+2:=by have:=h.bd;omega
theorem FarInv.agS{f:Nat→List Nat}{N i n:Nat}{far:List Int}{list:List Nat}(h:FarInv f N i n far list)(h0:0<list.length):n≤N+1:=by
 have:=h.bd
 rw[if_neg (by intro e;rw[e]at h0;simp at h0)]at this
 omega
theorem FarInv.afA{f:Nat→List Nat}{N i n:Nat}{far:List Int}{list:List Nat}(h:FarInv f N i n far list):list.length≤N:=o8 h.nd h.lt
theorem RndInv.x_len{f:Nat→List Nat}{N i n:Nat}{far:List Int}{list next:List Nat}{k:Nat}(h:RndInv f N i n list k far next):next.length≤N:=o8 h.nd fun u hu=>(h.nxt u hu).1
def Ru(p:Nat→Bool)(d:Nat):List Nat→Nat
 | []=>d
 |x::l=>if p x then x else Ru p d l
theorem XO(p:Nat→Bool)(d:Nat):∀(l:List Nat) {k:Nat} (h:k<l.length),(∀m (hm:m<k),p (l[m]'(by omega))=false)→p l[k]=true→Ru p d l=l[k]
 | x::l,0,h,_,e=>by
   have e':p x=true:=e
   unfold Ru
   rw[if_pos e']
   rfl
 | x::l,k+1,h,h1,e=>by
   have h0:=h1 0 (by omega)
   unfold Ru
   rw[if_neg (by simpa using h0)]
   exact XO p d l (by simpa using h) (fun m hm=>h1 (m+1) (by omega)) e
theorem Ie(p:Nat→Bool)(d:Nat):∀(l:List Nat),(∃x∈l,p x=true)→Ru p d l∈l∧p (Ru p d l)=true
 | [],h=>by simp at h
 | x ::l,h=>by
   unfold Ru
   by_cases e:p x=true
   ·rw[if_pos e];exact⟨by simp,e⟩
   ·rw[if_neg e]
    have:=Ie p d l (by
     obtain⟨y,hy,h2⟩:=h
     rcases List.mem_cons.1 hy with rfl|hy
     ·exact absurd h2 e
     ·exact⟨y,hy,h2⟩)
    exact⟨List.mem_cons_of_mem _ this.1,this.2⟩
noncomputable def isN(f:Nat→List Nat)(i n k:Nat):Bool:=decide (k≠i) && (fvI f i k==(n:Int) - 1)
noncomputable def wk(f:Nat→List Nat)(i:Nat):Nat→Nat
 |0=>i
 |j+1=>Ru (isN f i (dst f i i - j)) 0 (f (wk f i j))
theorem Cb{f:Nat→List Nat}{i:Nat}(h1:1≤dst f i i):∀j,j<dst f i i→dst f i (wk f i j)=dst f i i - j∧(∀h:j+1<dst f i i,∃x∈f (wk f i j),isN f i (dst f i i - j) x=true)
 | 0,hj=>by
   refine⟨by simp[wk],fun h=> ?_⟩
   obtain⟨v,hv,h2⟩:=Bz (f:=f) (i:=i) (u:=i) (n:=dst f i i - 1) (by omega) (by omega)
   refine⟨v,hv, ?_⟩
   have hne:v≠i:=fun e=>by subst e;omega
   simp[isN,hne,fvI,h2]
   rw[if_pos (by omega)]
   omega
 | j+1,hj=>by
   have ih:=Cb h1 j (by omega)
   have hx:=Ie (isN f i (dst f i i - j)) 0 (f (wk f i j)) (ih.2 hj)
   have hd:dst f i (wk f i (j+1))=dst f i i - (j+1):=by
    have h2:=hx.2
    change isN f i (dst f i i - j) (wk f i (j+1))=true at h2
    simp only[isN,fvI,Bool.and_eq_true,beq_iff_eq]at h2
    have h3:=h2.2
    split at h3<;>omega
   refine⟨hd,fun h=> ?_⟩
   obtain⟨v,hv,h2⟩:=Bz (f:=f) (i:=i) (u:=wk f i (j+1)) (n:=dst f i i - (j+1) - 1) (by omega) (by omega)
   refine⟨v,hv, ?_⟩
   have hne:v≠i:=fun e=>by subst e;omega
   simp[isN,hne,fvI,h2]
   rw[if_pos (by omega)]
   omega
theorem Z5{f:Nat→List Nat}{i:Nat}(h1:1≤dst f i i){j:Nat}(hj:j+1<dst f i i):wk f i (j+1)∈f (wk f i j):=(Ie _ 0 _ ((Cb h1 j (by omega)).2 hj)).1
theorem Ox{f:Nat→List Nat}{i:Nat}(h1:1≤dst f i i){j:Nat}(hj:j+1<dst f i i)(h:∀m (hm:m<(f (wk f i j)).length),isN f i (dst f i i - j) (f (wk f i j))[m]=false):False:=by
 obtain⟨x,hx,h2⟩:=(Cb h1 j (by omega)).2 hj
 obtain⟨m,hm,rfl⟩:=List.mem_iff_getElem.1 hx
 rw[h m hm]at h2
 cases h2
theorem afm{f:Nat→List Nat}{i j k:Nat}(hk:k<(f (wk f i j)).length)(h:∀m (hm:m<k),isN f i (dst f i i - j) ((f (wk f i j))[m]'(by omega))=false)(e:isN f i (dst f i i - j) (f (wk f i j))[k]=true):wk f i (j+1)=(f (wk f i j))[k]:=XO _ 0 _ hk h e
theorem Z7{f:Nat→List Nat}{N i:Nat}(hF:∀u,∀v∈f u,v<N)(hi:i<N)(h1:1≤dst f i i):∀{j:Nat},j<dst f i i→wk f i j<N
 |0,_=>hi
 |j+1,hj=>hF _ _ (Z5 h1 hj)
noncomputable def wkL(f:Nat→List Nat)(i j:Nat):List Nat:=(w_ j).map (wk f i)
theorem Ac(f:Nat→List Nat)(i j:Nat):(wkL f i j).length=j:=by simp[wkL]
theorem Oy(f:Nat→List Nat)(i j:Nat):wkL f i (j+1)=wkL f i j++ [wk f i j]:=by simp[wkL,List.range_succ]
theorem TF(f:Nat→List Nat)(i j k:Nat)(h:k<(wkL f i j).length):(wkL f i j)[k]=wk f i k:=by simp[wkL]
theorem Z8{f:Nat→List Nat}{N i:Nat}(hF:∀u,∀v∈f u,v<N)(hi:i<N)(h1:1≤dst f i i){j:Nat}(hj:j≤dst f i i):∀x∈wkL f i j,x<N:=fun x hx=>by
 obtain⟨k,hk,rfl⟩:=List.mem_map.1 hx
 rw[List.mem_range]at hk
 exact Z7 hF hi h1 (by omega)
theorem adZ{f:Nat→List Nat}{g:Int→List Nat}(hg:∀k:Nat,g (k:Int)=f k){i u x:Nat}(h:Rch g (u:Int) x):∃n,1≤n∧Way f x n u:=by
 have app:∀n u y x,Way f y n u→x∈f y→Way f x (n+1) u:=by
  intro n
  induction n with
  | zero=>
    intro u y x h1 h2
    have:u=y:=h1
    exact⟨x,this▸h2,rfl⟩
  | succ n ih=>
    rintro u y x ⟨v,hv,h1⟩ h2
    exact⟨v,hv,ih v y x h1 h2⟩
 induction h with
 |one h=>exact⟨1,n_ _,_,by rw[hg]at h;exact h,rfl⟩
 | more _ h ih=>
   obtain⟨n,h1,h2⟩:=ih
   rw[hg]at h
   exact⟨n+1,by omega,app n _ _ _ h2 h⟩
theorem adL{f:Nat→List Nat}{g:Int→List Nat}(hg:∀k:Nat,g (k:Int)=f k){x:Nat}:∀n u,Way f x (n+1) u→Rch g (u:Int) x:=by
 have con:∀{u v:Nat} {x:Nat},v∈f u→Rch g (v:Int) x→Rch g (u:Int) x:=by
  intro u v x hv h
  induction h with
  |one h=>exact .more (.one (by rw[hg];exact hv)) h
  |more _ h ih=>exact .more ih h
 intro n
 induction n with
 | zero=>
   rintro u ⟨v,hv,h⟩
   have:v=x:=h
   subst this
   exact .one (by rw[hg];exact hv)
 | succ n ih=>
   rintro u ⟨v,hv,h⟩
   exact con hv (ih v h)
theorem aeP{f:Nat→List Nat}{g:Int→List Nat}(hg:∀k:Nat,g (k:Int)=f k){i u:Nat}:1≤dst f i u↔Rch g (u:Int) i:=by
 constructor
 ·intro h
  have hw:=yB h
  obtain⟨m,hm⟩:∃m,dst f i u=m+1:=⟨dst f i u - 1,by omega⟩
  rw[hm]at hw
  exact adL hg m u hw
 ·intro h
  obtain⟨n,h1,h2⟩:=adZ (i:=i) hg h
  exact(IB h1 h2).1
end Go.Proofs.YtfjmoicellpnhaaGreat
namespace Go.Proofs.YtfjmoicellpnhaaGreat
open Go.RowKit
open List renaming length_replicate→a_,length_append→b_,take_succ_eq_append_getElem→c_,length_cons→d_,mem_singleton→e_,length_map→f_,length_nil→g_,replicate→h_,getElem_mem→i_,mem_append→k_,eq_nil_of_length_eq_zero→l_,mem_append_left→p_,replicate_succ'→q_,map_set→r_,cons_ne_nil→s_,take_length→t_,length_set→u_,range→w_
open Classical renaming choose_spec→j_
open Nat renaming lt_or_ge→m_,le_refl→n_,zero_le→o_
set_option linter.unusedSimpArgs false
set_option linter.unusedVariables false
attribute [local irreducible] sw sd sn
theorem acV(l:List GPart){i:Nat}(h:l.length≤i):du l i= []:=by unfold du;rw[List.getElem?_eq_none h]
theorem WU{l:List GPart}{v u:Nat}:u∈usI l (v:Int)↔u<l.length∧v∈du l u:=by unfold usI;rw[kG,mO,List.contains_iff_mem]
theorem pkF :type_of% (aho @aY (aho @aU (aho @aH (aho @GPart.bn (aho @GPart.aQ (aho @GPart.aZ @GPart.el)))))):=aho @aY (aho @aU (aho @aH (aho @GPart.bn (aho @GPart.aQ (aho @GPart.aZ @GPart.el)))))
theorem ML(l:List Int)(k:Nat)(z:Int):(l.map li).set k (li z)=(l.set k z).map li:=by rw[r_]
def D6 :IC:=(zd_ [zz_ 4 (.mov (.k (.slice none 0 0)))] (zd_ [zz_ 13 (.brow true 3 1 0 false []),zw_ 5 13] (.seq (zd_ [zk_ 6 0] (.block 0 (.loop (.seq (zd_ [zw_ 14 6,zw_ 15 0,zf_ 16 false 15,zl_ 17 .lss 14 16] (.cond (.t 17) .skip (.exit 0))) (.seq (.block 1 (.reg false [zw_ 20 5,zz_ 21 (.brow false 3 1 1 false [(.k (.int .i64 (-1)))]),zz_ 22 (.app 3 1 (.t 20) (.t 21)),zw_ 5 22])) (.reg false [zw_ 18 6,zm_ 19 .add 18 1,zw_ 6 19])))))) (zd_ [zw_ 23 1,zz_ 24 (.brow true 3 1 1 false [(.t 23)]),zw_ 7 24] (.seq (zd_ [zk_ 8 1] (.block 2 (.loop (.seq (zd_ [zw_ 25 7,zf_ 26 false 25,zm_ 27 .gtr 26 0] (.cond (.t 27) .skip (.exit 2))) (.seq (.block 3 (zd_ [zz_ 30 (.brow true 3 1 0 false []),zw_ 9 30] (.seq (zd_ [zk_ 10 0] (.block 4 (.loop (.seq (zd_ [zw_ 31 10,zw_ 32 7,zf_ 33 false 32,zl_ 34 .lss 31 33] (.cond (.t 34) .skip (.exit 4))) (.seq (.block 5 (zd_ [zw_ 37 0,zw_ 38 7,zw_ 39 10,ze_ 40 1 38 39,zs_ 41 1 40,zp_ 42 106 37 41,zw_ 11 42] (zd_ [zk_ 12 0] (.block 6 (.loop (.seq (zd_ [zw_ 43 12,zw_ 44 11,zf_ 45 false 44,zl_ 46 .lss 43 45] (.cond (.t 46) .skip (.exit 6))) (.seq (.block 7 (zd_ [zw_ 49 5,zw_ 50 11,zw_ 51 12,ze_ 52 1 50 51,zs_ 53 1 52,ze_ 54 1 49 53,zs_ 55 1 54,zm_ 56 .lss 55 0] (.cond (.t 56) (zd_ [zw_ 57 5,zw_ 58 11,zw_ 59 12,ze_ 60 1 58 59,zs_ 61 1 60,zw_ 62 8,ze_ 63 1 57 61,⟨none,none,.store 1 (.t 63) (.t 62)⟩] (.reg false [zw_ 64 9,zw_ 65 11,zw_ 66 12,ze_ 67 1 65 66,zs_ 68 1 67,zz_ 69 (.brow false 3 1 1 false [(.t 68)]),zz_ 70 (.app 3 1 (.t 64) (.t 69)),zw_ 9 70])) .skip))) (.reg false [zw_ 47 12,zm_ 48 .add 47 1,zw_ 12 48])))))))) (.reg false [zw_ 35 10,zm_ 36 .add 35 1,zw_ 10 36])))))) (.reg false [zw_ 71 9,zw_ 7 71])))) (.reg false [zw_ 28 8,zm_ 29 .add 28 1,zw_ 8 29])))))) (zd_ [zw_ 72 5,zw_ 4 72] .ret))))))
theorem Hr :ay Tryz.prog (Tryz.f92.body.getD .skip)=some D6:=by kernel_rfl
theorem RJ(l:List GPart)(i:Nat)(hi:i<l.length)(hw:l.length+D.wts (l.map GPart.toD)≤1048576):dA Tryz.prog 92 [.sl (l.map GPart.toD),li (i:Int)] ((Bq (du l) l.length i).map li) 3 1:=by
 have hn:l.length≤1048576:=by omega
 have hF:=y9 l
 have hN:∀u,l.length≤u→du l u= []:=fun u h=>acV l h
 refine fK (fn:=Tryz.f92) (t:=4) (hc:=Hr) (h:= ?_)
 unfold D6;refine zb_ ?_
 change AWP _ _ _ (st0 73 _)
 refine sS trivial ?_
 repeat' (first|(refine rg_ ?_;intro K hK)|(refine hq_ ?_;clear hK K)|refine ca_ ?_ ?_|((with_reducible refine ak ?_);refine ss @pkF ?_)|refine nv ?_|exact aA|exact au)
 refine aW (X:=Nat×Nat) (fun q=> [.k,.k,.d,.d,.d,.v (.c false [.own 0 q.2]),.v (.c false [.raw (.int .i64 (q.1:Nat))]),.d,.d,.d,.d,.d,.d,.d,.d,.d,.d,.d,.d,.d,.d,.d,.d,.d,.d,.d,.d,.d,.d,.d,.d,.d,.d,.d,.d,.d,.d,.d,.d,.d,.d,.d,.d,.d,.d,.d,.d,.d,.d,.d,.d,.d,.d,.d,.d,.d,.d,.d,.d,.d,.d,.d,.d,.d,.d,.d,.d,.d,.d,.d,.d,.d,.d]) (fun q=> [⟨(h_ q.1 (-1:Int)).map li,3,1,q.2,true⟩]) (fun q bs=>bs) (fun q=>q.1≤l.length) (fun q=>l.length - q.1) (0,0) (o_ _) ?_ ?_
 ·simp[aO,aX,aK,aN,AV.fits,AC.fits,FB,aG]
 rintro⟨k,v⟩ hk
 have hk':k≤l.length:=hk
 clear hk
 simp only[FB,aG]
 by_cases hlk:k<l.length
 ·repeat' (first|(refine rg_ ?_;intro K hK)|(refine hq_ ?_;clear hK K)|refine ca_ ?_ ?_|((with_reducible refine ak ?_);refine ss @pkF ?_)|refine nv ?_|exact aA|exact au)
  all_goals first
   |(simp only[f_,b_,d_,g_,a_];omega)
   | (refine aS (k+1,v+1) ?_ (show k+1≤l.length by omega) (show l.length - (k+1)<l.length - k by omega)
      simp[aO,aX,aK,aN,AV.fits,AC.fits,FB,aG,q_,li])
 obtain rfl:k=l.length:=by omega
 repeat' (first|(refine rg_ ?_;intro K hK)|(refine hq_ ?_;clear hK K)|refine ca_ ?_ ?_|((with_reducible refine ak ?_);refine ss @pkF ?_)|refine nv ?_|exact aA|exact au)
 refine uJ (X:=Nat×List Int×List Nat×Nat) (fun q=> [.k,.d,.d,.d,.d,.k,.d,.v (.c false [.own 1 q.2.2.2]),.v (.c false [.raw (.int .i64 (q.1:Nat))]),.d,.d,.d,.d,.d,.d,.d,.d,.d,.d,.d,.d,.d,.d,.d,.d,.d,.d,.d,.d,.d,.d,.d,.d,.d,.d,.d,.d,.d,.d,.d,.d,.d,.d,.d,.d,.d,.d,.d,.d,.d,.d,.d,.d,.d,.d,.d,.d,.d,.d,.d,.d,.d,.d,.d,.d,.d,.d,.d,.d,.d,.d,.d,.d]) (fun q=> [⟨q.2.1.map li,3,1,v,true⟩,⟨q.2.2.1.map ln,3,1,q.2.2.2,true⟩]) (fun q bs=>bs) (fun q=>FarInv (du l) l.length i q.1 q.2.1 q.2.2.1) (fun q=>l.length+2 - q.1) (1,h_ l.length (-1),[i],0) [0,1] (FarInv.start hi) ?_ ?_
 ·simp[jR,jW,jm,iT,AV.ren,AC.ren,AV.fits,AC.fits,FB,aG,ln,li]
 rintro⟨n,far,list,v1⟩ hinv
 have hI:FarInv (du l) l.length i n far list:=hinv
 clear hinv
 have hnle:=hI.agT
 have hll:=hI.afA
 have hfl:=hI.len
 simp only[FB,aG]
 by_cases hne:0<list.length
 ·have hnlt:=hI.agS hne
  have hltn:=hI.lt
  repeat' (first|(refine rg_ ?_;intro K hK)|(refine hq_ ?_;clear hK K)|refine ca_ ?_ ?_|((with_reducible refine ak ?_);refine ss @pkF ?_)|refine nv ?_|exact aA|exact au)
  refine aW (X:=Nat×List Int×List Nat×Nat) (fun q=> [.k,.d,.d,.d,.d,.k,.d,.k,.k,.v (.c false [.own 2 q.2.2.2]),.v (.c false [.raw (.int .i64 (q.1:Nat))]),.d,.d,.d,.d,.d,.d,.d,.d,.d,.d,.d,.d,.d,.d,.d,.d,.d,.d,.d,.d,.d,.d,.d,.d,.d,.d,.d,.d,.d,.d,.d,.d,.d,.d,.d,.d,.d,.d,.d,.d,.d,.d,.d,.d,.d,.d,.d,.d,.d,.d,.d,.d,.d,.d,.d,.d,.d,.d,.d,.d,.d,.d]) (fun q=> [⟨q.2.1.map li,3,1,v,true⟩,⟨list.map ln,3,1,v1,true⟩,⟨q.2.2.1.map ln,3,1,q.2.2.2,true⟩]) (fun q bs=>bs) (fun q=>RndInv (du l) l.length i n list q.1 q.2.1 q.2.2.1) (fun q=>list.length - q.1) (0,far,[],0) hI.round ?_ ?_
  ·simp[aO,aX,aK,aN,AV.fits,AC.fits,FB,aG]
  rintro⟨k,far2,next,v2⟩ hinv
  have hR:RndInv (du l) l.length i n list k far2 next:=hinv
  clear hinv
  have hxl:=hR.x_len
  have hf2:=hR.len
  have hkl:=hR.le
  simp only[FB,aG]
  by_cases hk2:k<list.length
  ·have hus:=yQ l (list[k]:Int) hw
   have hul:=Mc l (list[k]:Int)
   have hmu:∀u,u∈usI l (list[k]:Int)↔u<l.length∧list[k]∈du l u:=fun u=>WU
   obtain⟨us,hus0⟩:∃us,usI l (list[k]:Int)=us:=⟨_,rfl⟩
   rw[hus0]at hus hul hmu
   clear hus0
   repeat' (first|(refine rg_ ?_;intro K hK)|(refine hq_ ?_;clear hK K)|refine ca_ ?_ ?_|((with_reducible refine aB ?_);first|(refine bG hus (aU _) ?_ ?_))|((with_reducible refine ak ?_);refine ss @pkF ?_)|refine nv ?_|exact aA|exact au)
   refine aW (X:=Nat×List Int×List Nat×Nat) (fun q=> [.k,.d,.d,.d,.d,.k,.d,.k,.k,.v (.c false [.own 2 q.2.2.2]),.k,.k,.v (.c false [.raw (.int .i64 (q.1:Nat))]),.d,.d,.d,.d,.d,.d,.d,.d,.d,.d,.d,.d,.d,.d,.d,.d,.d,.d,.d,.d,.d,.d,.d,.d,.d,.d,.d,.d,.d,.d,.d,.d,.d,.d,.d,.d,.d,.d,.d,.d,.d,.d,.d,.d,.d,.d,.d,.d,.d,.d,.d,.d,.d,.d,.d,.d,.d,.d,.d,.d]) (fun q=> [⟨q.2.1.map li,3,1,v,true⟩,⟨list.map ln,3,1,v1,true⟩,⟨q.2.2.1.map ln,3,1,q.2.2.2,true⟩,⟨us.map ln,3,1,0,true⟩]) (fun q bs=>bs) (fun q=>UsrInv (du l) l.length i n list k us q.1 q.2.1 q.2.2.1) (fun q=>us.length - q.1) (0,far2,next,v2) (hR.users us hk2) ?_ ?_
   ·simp[aO,aX,aK,aN,AV.fits,AC.fits,FB,aG]
   rintro⟨j,far3,next3,v3⟩ hinv
   have hU:UsrInv (du l) l.length i n list k us j far3 next3:=hinv
   clear hinv
   have hxl3:=hU.x_len
   have hf3:=hU.len
   have hjl:=hU.jle
   simp only[FB,aG]
   by_cases hj:j<us.length
   ·have hub:=((hmu us[j]).1 (i_ hj)).1
    have hlt3:us[j]<far3.length:=by omega
    by_cases hneg:far3[us[j]]<0
    ·have hput:=hU.put hI (fun u hu=>(hmu u).1 hu) hj hlt3 hneg
     repeat' (first|(refine rg_ ?_;intro K hK)|(refine hq_ ?_;clear hK K)|refine ca_ ?_ ?_|((with_reducible refine ak ?_);refine ss (aho @pkF @ML) ?_)|refine nv ?_|exact aA|exact au)
     all_goals first
      |(simp only[f_,b_,d_,g_,a_];omega)
      | (refine aS (j+1,far3.set us[j] (n:Int),next3++ [us[j]],v3+1) ?_ hput (show us.length - (j+1)<us.length - j by omega)
         simp[aO,aX,aK,aN,AV.fits,AC.fits,FB,aG,r_,ln,li])
    ·have hskip:=hU.skip hj hlt3 hneg
     repeat' (first|(refine rg_ ?_;intro K hK)|(refine hq_ ?_;clear hK K)|refine ca_ ?_ ?_|((with_reducible refine ak ?_);refine ss (aho @pkF @ML) ?_)|refine nv ?_|exact aA|exact au)
     all_goals first
      |(simp only[f_,b_,d_,g_,a_];omega)
      | (refine aS (j+1,far3,next3,v3) ?_ hskip (show us.length - (j+1)<us.length - j by omega)
         simp[aO,aX,aK,aN,AV.fits,AC.fits,FB,aG])
   ·obtain rfl:j=us.length:=by omega
    have hfin:=hU.fin (fun u h1 h2=>(hmu u).2 ⟨h1,h2⟩)
    repeat' (first|(refine rg_ ?_;intro K hK)|(refine hq_ ?_;clear hK K)|refine ca_ ?_ ?_|((with_reducible refine ak ?_);refine ss @pkF ?_)|refine nv ?_|exact aA|exact au)
    refine aS (k+1,far3,next3,v3) ?_ hfin (show list.length - (k+1)<list.length - k by omega)
    simp[aO,aX,aK,aN,AV.fits,AC.fits,FB,aG]
  ·obtain rfl:k=list.length:=by omega
   have hfin:=hR.fin hF hI hne
   repeat' (first|(refine rg_ ?_;intro K hK)|(refine hq_ ?_;clear hK K)|refine ca_ ?_ ?_|((with_reducible refine ak ?_);refine ss @pkF ?_)|refine nv ?_|exact aA|exact au)
   refine ng (n+1,far2,next,v2) [0,2] ?_ hfin (show l.length+2 - (n+1)<l.length+2 - n by omega)
   simp[jR,jW,jm,iT,AV.ren,AC.ren,AV.fits,AC.fits,FB,aG]
 ·obtain rfl:list= []:=l_ (by omega)
  have hfin:=hI.fin hF hN
  rw[← hfin]
  repeat' (first|(refine rg_ ?_;intro K hK)|(refine hq_ ?_;clear hK K)|refine ca_ ?_ ?_|((with_reducible refine ak ?_);refine ss @pkF ?_)|refine nv ?_|exact aA|exact au)
  exact bC ⟨0,_,_,rfl,rfl,rfl,rfl,rfl,rfl,Or.inl rfl⟩
def D7 :IC:=(zd_ [zz_ 4 (.mov (.k (.slice none 0 0)))] (zd_ [zz_ 13 (.brow true 3 1 0 false []),zw_ 5 13] (.seq (zd_ [zw_ 14 0,zf_ 15 false 14,zk_ 16 0] (.block 0 (.loop (zd_ [zl_ 17 .lss 16 15] (.seq (.cond (.t 17) .skip (.exit 0)) (.seq (.block 1 (.reg false [zw_ 18 5,zz_ 19 (.brow false 3 1 1 false [(.k (.int .i64 (-1)))]),zz_ 20 (.app 3 1 (.t 18) (.t 19)),zw_ 5 20])) (.reg false [zm_ 21 .add 16 1,zw_ 16 21]))))))) (zd_ [zw_ 22 1,zz_ 23 (.brow true 3 1 1 false [(.t 22)]),zw_ 6 23] (.seq (zd_ [zk_ 7 1] (.block 2 (.loop (.seq (zd_ [zw_ 24 6,zf_ 25 false 24,zm_ 26 .gtr 25 0] (.cond (.t 26) .skip (.exit 2))) (.seq (.block 3 (zd_ [zz_ 29 (.brow true 3 1 0 false []),zw_ 8 29] (.seq (zd_ [zw_ 30 6,zf_ 31 false 30,zk_ 32 0] (.block 4 (.loop (zd_ [zl_ 33 .lss 32 31] (.seq (.cond (.t 33) .skip (.exit 4)) (.seq (.block 5 (zd_ [ze_ 34 1 30 32,zs_ 35 1 34,zw_ 10 35] (zd_ [zw_ 36 0,zw_ 37 10,zp_ 38 42 36 37,zf_ 39 false 38,zk_ 40 0] (.block 6 (.loop (zd_ [zl_ 41 .lss 40 39] (.seq (.cond (.t 41) .skip (.exit 6)) (.seq (.block 7 (zd_ [ze_ 42 1 38 40,zs_ 43 1 42,zw_ 12 43] (zd_ [zw_ 44 5,zw_ 45 12,ze_ 46 1 44 45,zs_ 47 1 46,zm_ 48 .lss 47 0] (.cond (.t 48) (zd_ [zw_ 49 5,zw_ 50 12,zw_ 51 7,ze_ 52 1 49 50,⟨none,none,.store 1 (.t 52) (.t 51)⟩] (.reg false [zw_ 53 8,zw_ 54 12,zz_ 55 (.brow false 3 1 1 false [(.t 54)]),zz_ 56 (.app 3 1 (.t 53) (.t 55)),zw_ 8 56])) .skip)))) (.reg false [zm_ 57 .add 40 1,zw_ 40 57]))))))))) (.reg false [zm_ 58 .add 32 1,zw_ 32 58]))))))) (.reg false [zw_ 59 8,zw_ 6 59])))) (.reg false [zw_ 27 7,zm_ 28 .add 27 1,zw_ 7 28])))))) (zd_ [zw_ 60 5,zw_ 4 60] .ret))))))
theorem Ht :ay Tryz.prog (Tryz.f59.body.getD .skip)=some D7:=by kernel_rfl
theorem RN(l:List GPart)(i:Nat)(hi:i<l.length)(hw:l.length+D.wts (l.map GPart.toD)≤1048576):dA Tryz.prog 59 [.sl (l.map GPart.toD),li (i:Int)] ((Bq (du l) l.length i).map li) 3 1:=by
 have hn:l.length≤1048576:=by omega
 have hF:=y9 l
 have hN:∀u,l.length≤u→du l u= []:=fun u h=>acV l h
 refine fK (fn:=Tryz.f59) (t:=4) (hc:=Ht) (h:= ?_)
 unfold D7;refine zb_ ?_
 change AWP _ _ _ (st0 61 _)
 refine sS trivial ?_
 repeat' (first|(refine rg_ ?_;intro K hK)|(refine hq_ ?_;clear hK K)|refine ca_ ?_ ?_|((with_reducible refine ak ?_);refine ss @pkF ?_)|refine nv ?_|exact aA|exact au)
 refine aW (X:=Nat×Nat) (fun q=> [.k,.k,.d,.d,.d,.v (.c false [.own 0 q.2]),.d,.d,.d,.d,.d,.d,.d,.d,.d,.k,.v (.c false [.raw (.int .i64 (q.1:Nat))]),.d,.d,.d,.d,.d,.d,.d,.d,.d,.d,.d,.d,.d,.d,.d,.d,.d,.d,.d,.d,.d,.d,.d,.d,.d,.d,.d,.d,.d,.d,.d,.d,.d,.d,.d,.d,.d,.d,.d,.d,.d,.d,.d,.d]) (fun q=> [⟨(h_ q.1 (-1:Int)).map li,3,1,q.2,true⟩]) (fun q bs=>bs) (fun q=>q.1≤l.length) (fun q=>l.length - q.1) (0,0) (o_ _) ?_ ?_
 ·simp[aO,aX,aK,aN,AV.fits,AC.fits,FB,aG]
 rintro⟨k,v⟩ hk
 have hk':k≤l.length:=hk
 clear hk
 simp only[FB,aG]
 by_cases hlk:k<l.length
 ·repeat' (first|(refine rg_ ?_;intro K hK)|(refine hq_ ?_;clear hK K)|refine ca_ ?_ ?_|((with_reducible refine ak ?_);refine ss @pkF ?_)|refine nv ?_|exact aA|exact au)
  all_goals first
   |(simp only[f_,b_,d_,g_,a_];omega)
   | (refine aS (k+1,v+1) ?_ (show k+1≤l.length by omega) (show l.length - (k+1)<l.length - k by omega)
      simp[aO,aX,aK,aN,AV.fits,AC.fits,FB,aG,q_,li])
 obtain rfl:k=l.length:=by omega
 repeat' (first|(refine rg_ ?_;intro K hK)|(refine hq_ ?_;clear hK K)|refine ca_ ?_ ?_|((with_reducible refine ak ?_);refine ss @pkF ?_)|refine nv ?_|exact aA|exact au)
 refine uJ (X:=Nat×List Int×List Nat×Nat) (fun q=> [.k,.d,.d,.d,.d,.k,.v (.c false [.own 1 q.2.2.2]),.v (.c false [.raw (.int .i64 (q.1:Nat))]),.d,.d,.d,.d,.d,.d,.d,.d,.d,.d,.d,.d,.d,.d,.d,.d,.d,.d,.d,.d,.d,.d,.d,.d,.d,.d,.d,.d,.d,.d,.d,.d,.d,.d,.d,.d,.d,.d,.d,.d,.d,.d,.d,.d,.d,.d,.d,.d,.d,.d,.d,.d,.d]) (fun q=> [⟨q.2.1.map li,3,1,v,true⟩,⟨q.2.2.1.map ln,3,1,q.2.2.2,true⟩]) (fun q bs=>bs) (fun q=>FarInv (du l) l.length i q.1 q.2.1 q.2.2.1) (fun q=>l.length+2 - q.1) (1,h_ l.length (-1),[i],0) [0,1] (FarInv.start hi) ?_ ?_
 ·simp[jR,jW,jm,iT,AV.ren,AC.ren,AV.fits,AC.fits,FB,aG,ln,li]
 rintro⟨n,far,list,v1⟩ hinv
 have hI:FarInv (du l) l.length i n far list:=hinv
 clear hinv
 have hnle:=hI.agT
 have hll:=hI.afA
 have hfl:=hI.len
 simp only[FB,aG]
 by_cases hne:0<list.length
 ·have hnlt:=hI.agS hne
  have hltn:=hI.lt
  repeat' (first|(refine rg_ ?_;intro K hK)|(refine hq_ ?_;clear hK K)|refine ca_ ?_ ?_|((with_reducible refine ak ?_);refine ss @pkF ?_)|refine nv ?_|exact aA|exact au)
  refine aW (X:=Nat×List Int×List Nat×Nat) (fun q=> [.k,.d,.d,.d,.d,.k,.d,.k,.v (.c false [.own 2 q.2.2.2]),.d,.d,.d,.d,.d,.d,.d,.d,.d,.d,.d,.d,.d,.d,.d,.d,.d,.d,.d,.d,.d,.k,.k,.v (.c false [.raw (.int .i64 (q.1:Nat))]),.d,.d,.d,.d,.d,.d,.d,.d,.d,.d,.d,.d,.d,.d,.d,.d,.d,.d,.d,.d,.d,.d,.d,.d,.d,.d,.d,.d]) (fun q=> [⟨q.2.1.map li,3,1,v,true⟩,⟨list.map ln,3,1,v1,true⟩,⟨q.2.2.1.map ln,3,1,q.2.2.2,true⟩]) (fun q bs=>bs) (fun q=>RndInv (du l) l.length i n list q.1 q.2.1 q.2.2.1) (fun q=>list.length - q.1) (0,far,[],0) hI.round ?_ ?_
  ·simp[aO,aX,aK,aN,AV.fits,AC.fits,FB,aG]
  rintro⟨k,far2,next,v2⟩ hinv
  have hR:RndInv (du l) l.length i n list k far2 next:=hinv
  clear hinv
  have hxl:=hR.x_len
  have hf2:=hR.len
  have hkl:=hR.le
  simp only[FB,aG]
  by_cases hk2:k<list.length
  ·have hus:=yR l (list[k]:Int) hw
   have hul:=Mc l (list[k]:Int)
   have hmu:∀u,u∈usI l (list[k]:Int)↔u<l.length∧list[k]∈du l u:=fun u=>WU
   obtain⟨us,hus0⟩:∃us,usI l (list[k]:Int)=us:=⟨_,rfl⟩
   rw[hus0]at hus hul hmu
   clear hus0
   repeat' (first|(refine rg_ ?_;intro K hK)|(refine hq_ ?_;clear hK K)|refine ca_ ?_ ?_|((with_reducible refine aB ?_);first|(refine bG hus (aU _) ?_ ?_))|((with_reducible refine ak ?_);refine ss @pkF ?_)|refine nv ?_|exact aA|exact au)
   refine aW (X:=Nat×List Int×List Nat×Nat) (fun q=> [.k,.d,.d,.d,.d,.k,.d,.k,.v (.c false [.own 2 q.2.2.2]),.d,.d,.d,.d,.d,.d,.d,.d,.d,.d,.d,.d,.d,.d,.d,.d,.d,.d,.d,.d,.d,.k,.k,.k,.d,.d,.d,.d,.d,.k,.k,.v (.c false [.raw (.int .i64 (q.1:Nat))]),.d,.d,.d,.d,.d,.d,.d,.d,.d,.d,.d,.d,.d,.d,.d,.d,.d,.d,.d,.d]) (fun q=> [⟨q.2.1.map li,3,1,v,true⟩,⟨list.map ln,3,1,v1,true⟩,⟨q.2.2.1.map ln,3,1,q.2.2.2,true⟩,⟨us.map ln,3,1,0,true⟩]) (fun q bs=>bs) (fun q=>UsrInv (du l) l.length i n list k us q.1 q.2.1 q.2.2.1) (fun q=>us.length - q.1) (0,far2,next,v2) (hR.users us hk2) ?_ ?_
   ·simp[aO,aX,aK,aN,AV.fits,AC.fits,FB,aG]
   rintro⟨j,far3,next3,v3⟩ hinv
   have hU:UsrInv (du l) l.length i n list k us j far3 next3:=hinv
   clear hinv
   have hxl3:=hU.x_len
   have hf3:=hU.len
   have hjl:=hU.jle
   simp only[FB,aG]
   by_cases hj:j<us.length
   ·have hub:=((hmu us[j]).1 (i_ hj)).1
    have hlt3:us[j]<far3.length:=by omega
    by_cases hneg:far3[us[j]]<0
    ·have hput:=hU.put hI (fun u hu=>(hmu u).1 hu) hj hlt3 hneg
     repeat' (first|(refine rg_ ?_;intro K hK)|(refine hq_ ?_;clear hK K)|refine ca_ ?_ ?_|((with_reducible refine ak ?_);refine ss (aho @pkF @ML) ?_)|refine nv ?_|exact aA|exact au)
     all_goals first
      |(simp only[f_,b_,d_,g_,a_];omega)
      | (refine aS (j+1,far3.set us[j] (n:Int),next3++ [us[j]],v3+1) ?_ hput (show us.length - (j+1)<us.length - j by omega)
         simp[aO,aX,aK,aN,AV.fits,AC.fits,FB,aG,r_,ln,li])
    ·have hskip:=hU.skip hj hlt3 hneg
     repeat' (first|(refine rg_ ?_;intro K hK)|(refine hq_ ?_;clear hK K)|refine ca_ ?_ ?_|((with_reducible refine ak ?_);refine ss (aho @pkF @ML) ?_)|refine nv ?_|exact aA|exact au)
     all_goals first
      |(simp only[f_,b_,d_,g_,a_];omega)
      | (refine aS (j+1,far3,next3,v3) ?_ hskip (show us.length - (j+1)<us.length - j by omega)
         simp[aO,aX,aK,aN,AV.fits,AC.fits,FB,aG])
   ·obtain rfl:j=us.length:=by omega
    have hfin:=hU.fin (fun u h1 h2=>(hmu u).2 ⟨h1,h2⟩)
    repeat' (first|(refine rg_ ?_;intro K hK)|(refine hq_ ?_;clear hK K)|refine ca_ ?_ ?_|((with_reducible refine ak ?_);refine ss @pkF ?_)|refine nv ?_|exact aA|exact au)
    refine aS (k+1,far3,next3,v3) ?_ hfin (show list.length - (k+1)<list.length - k by omega)
    simp[aO,aX,aK,aN,AV.fits,AC.fits,FB,aG]
  ·obtain rfl:k=list.length:=by omega
   have hfin:=hR.fin hF hI hne
   repeat' (first|(refine rg_ ?_;intro K hK)|(refine hq_ ?_;clear hK K)|refine ca_ ?_ ?_|((with_reducible refine ak ?_);refine ss @pkF ?_)|refine nv ?_|exact aA|exact au)
   refine ng (n+1,far2,next,v2) [0,2] ?_ hfin (show l.length+2 - (n+1)<l.length+2 - n by omega)
   simp[jR,jW,jm,iT,AV.ren,AC.ren,AV.fits,AC.fits,FB,aG]
 ·obtain rfl:list= []:=l_ (by omega)
  have hfin:=hI.fin hF hN
  rw[← hfin]
  repeat' (first|(refine rg_ ?_;intro K hK)|(refine hq_ ?_;clear hK K)|refine ca_ ?_ ?_|((with_reducible refine ak ?_);refine ss @pkF ?_)|refine nv ?_|exact aA|exact au)
  exact bC ⟨0,_,_,rfl,rfl,rfl,rfl,rfl,rfl,Or.inl rfl⟩
end Go.Proofs.YtfjmoicellpnhaaGreat
