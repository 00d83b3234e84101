/-
  Texts joined: Far FarC.
-/
import Derived.Test.YtfjmoicellpnhaaGreatJZ
set_option linter.unusedSimpArgs false
set_option linter.unusedVariables false
namespace Go.Proofs.YtfjmoicellpnhaaGreat
open Go.RowKit
section
open List renaming take_succ_eq_append_getElem→a_,mem_singleton→b_,mem_append→d_,mem_append_left→f_,cons_ne_nil→h_,take_length→i_,getElem_mem→j_,length_set→k_,range→m_
open Classical renaming choose_spec→c_
open Nat renaming lt_or_ge→e_,le_refl→g_
def Way(f:Nat→List Nat)(i:Nat):Nat→Nat→Prop
 |0,u=>u=i
 |k+1,u=>∃v∈f u,Way f i k v
theorem Ye{P:Nat→Prop}:(∃n,P n)→∃n,P n∧∀m,P m→n≤m:=by
 rintro⟨n,hn⟩
 induction n using Nat.strongRecOn with
 | ind n ih=>
   by_cases h:∃m,m<n∧P m
   ·obtain⟨m,h1,h2⟩:=h;exact ih m h1 h2
   ·exact⟨n,hn,fun m hm=>by
     rcases e_ m n with h'|h'
     ·exact absurd ⟨m,h',hm⟩ h
     ·exact h'⟩
noncomputable def dst(f:Nat→List Nat)(i u:Nat):Nat:= @dite _ (∃n,1≤n∧Way f i n u) (Classical.propDecidable _) (fun h=>Classical.choose (Ye h)) (fun _=>0)
theorem Dh{f:Nat→List Nat}{i u:Nat}(h:1≤dst f i u):Way f i (dst f i u) u:=by
 unfold dst at h⊢;split
 ·next hx=>exact(c_ (Ye hx)).1.2
 ·next hx=>rw[dif_neg hx]at h;omega
theorem O8{f:Nat→List Nat}{i u n:Nat}(h1:1≤n)(h:Way f i n u):1≤dst f i u∧dst f i u≤n:=by
 have hx:∃n,1≤n∧Way f i n u:=⟨n,h1,h⟩
 unfold dst;rw[dif_pos hx];exact⟨(c_ (Ye hx)).1.1,(c_ (Ye hx)).2 n ⟨h1,h⟩⟩
theorem TW{f:Nat→List Nat}{i u n:Nat}(h1:1≤n)(h:dst f i u=n+1):∃v∈f u,dst f i v=n:=by
 have hw:=Dh (f:=f) (i:=i) (u:=u) (by omega);rw[h]at hw;obtain⟨v,hv,hv2⟩:=hw;have h2:=O8 h1 hv2;refine⟨v,hv, ?_⟩;have h3:=Dh h2.1;have h4:=O8 (f:=f) (i:=i) (u:=u) (n:=dst f i v+1) (by omega) ⟨v,hv,h3⟩;omega
theorem agj{f:Nat→List Nat}{i u:Nat}:dst f i u=1↔i∈f u:=by
 constructor
 ·intro h;have hw:=Dh (f:=f) (i:=i) (u:=u) (by omega);rw[h]at hw;obtain⟨v,hv,hv2⟩:=hw;have:v=i:=hv2;exact this▸hv
 ·intro h;have:=O8 (f:=f) (i:=i) (u:=u) (n:=1) (by omega) ⟨i,h,rfl⟩;omega
theorem aee{f:Nat→List Nat}{i u v n:Nat}(h1:1≤n)(hv:v∈f u)(h:dst f i v=n):1≤dst f i u∧dst f i u≤n+1:=
 O8 (by omega) ⟨v,hv,h▸Dh (by omega)⟩
theorem TY{f:Nat→List Nat}{i n:Nat}(h1:1≤n)(h:∀u,dst f i u≠n):∀m u,dst f i u≠n+m
 |0,u=>h u
 | m+1,u=>fun e=>by
   obtain⟨v,_,hv⟩:=TW (n:=n+m) (by omega) (show dst f i u=n+m+1 by omega);exact TY h1 h m v hv
noncomputable def fvT(f:Nat→List Nat)(i n u:Nat):Int:=if 1≤dst f i u∧dst f i u<n then(dst f i u:Int)else -1
noncomputable def fvI(f:Nat→List Nat)(i u:Nat):Int:=if 1≤dst f i u then(dst f i u:Int)else -1
noncomputable def aaL(f:Nat→List Nat)(N i:Nat):List Int:=(m_ N).map (fvI f i)
theorem adO(f:Nat→List Nat)(N i:Nat):(aaL f N i).length=N:=by simp[aaL]
theorem af6(f:Nat→List Nat)(N i k:Nat)(h:k<(aaL f N i).length):(aaL f N i)[k]=fvI f i k:=by simp[aaL]
noncomputable def unk(f:Nat→List Nat)(N i n:Nat):Nat:=cO (fun u=>decide (¬(1≤dst f i u∧dst f i u<n))) (fun _=>1) N
theorem Hf{p q:Nat→Bool}(h:∀x,p x=true→q x=true):∀n,cO p (fun _=>1) n≤cO q (fun _=>1) n
 |0=>g_ _
 | n+1=>by
   have:=Hf h n;have h2:=h n;simp only[cO];cases hp:p n<;>cases hq:q n<;>simp_all<;>omega
theorem Xj{p q:Nat→Bool}(h:∀x,p x=true→q x=true){k:Nat}(hp:p k=false)(hq:q k=true):∀n,k<n→cO p (fun _=>1) n+1≤cO q (fun _=>1) n
 |0,hk=>by omega
 | n+1,hk=>by
   have h2:=h n;simp only[cO];rcases e_ k n with h'|h'
   ·have:=Xj h hp hq n h';cases hp:p n<;>cases hq:q n<;>simp_all<;>omega
   ·obtain rfl:k=n:=by omega
    have:=Hf h k;rw[hp,hq];simp;omega
theorem Hg(p:Nat→Bool):∀n,cO p (fun _=>1) n≤n
 |0=>g_ _
 |n+1=>by have:=Hg p n;simp only[cO];split<;>omega
theorem abl(f:Nat→List Nat)(N i n:Nat):unk f N i (n+1)≤unk f N i n:=Hf (fun x hx=>by simp only[decide_eq_true_eq]at hx⊢;omega) N
theorem ahl(f:Nat→List Nat)(N i n:Nat){u:Nat}(h1:1≤n)(hu:u<N)(h:dst f i u=n):unk f N i (n+1)+1≤unk f N i n:=
 Xj (fun x hx=>by simp only[decide_eq_true_eq]at hx⊢;omega) (k:=u) (by simp;omega) (by simp;omega) N hu
structure FarInv (f:Nat→List Nat) (N i:Nat) (n:Nat) (far:List Int) (list:List Nat):Prop where
 n1:1≤n
 len:far.length=N
 far:∀u (h:u<far.length),far[u]=fvT f i n u
 nx:∀u,u<N→(dst f i u=n↔(¬(1≤dst f i u∧dst f i u<n)∧∃v∈list,v∈f u))
 lt:∀v∈list,v<N
 nd:list.Nodup
 bd:n+unk f N i n+(if list= []then 0 else 1)≤N+2
theorem FarInv.start{f:Nat→List Nat}{N i:Nat}(hi:i<N):FarInv f N i 1 (List.replicate N (-1)) [i] where
 n1:=g_ _
 len:=by simp
 far:=fun u h=>by rw[List.getElem_replicate];unfold fvT;rw[if_neg (by omega)]
 nx:=fun u hu=>by
  rw[agj];simp only[b_,exists_eq_left];refine⟨fun h=>⟨by omega,h⟩,fun h=>h.2⟩
 lt:=by simpa using hi
 nd:=by simp
 bd:=by
  have:=Hg (fun u=>decide (¬(1≤dst f i u∧dst f i u<1))) N;unfold unk;simp only[h_,if_false];omega
structure RndInv (f:Nat→List Nat) (N i:Nat) (n:Nat) (list:List Nat) (k:Nat) (far:List Int) (next:List Nat):Prop where
 len:far.length=N
 far:∀u (h:u<far.length),far[u]=if u∈next then(n:Int)else fvT f i n u
 nxt:∀u∈next,u<N∧dst f i u=n
 dn:∀v∈list.take k,∀u,u<N→v∈f u→dst f i u=n→u∈next
 nd:next.Nodup
 le:k≤list.length
theorem FarInv.round{f:Nat→List Nat}{N i n:Nat}{far:List Int}{list:List Nat}(h:FarInv f N i n far list):RndInv f N i n list 0 far [] where
 len:=h.len
 far:=fun u hu=>by rw[h.far u hu];simp
 nxt:=by simp
 dn:=by simp
 nd:=List.nodup_nil
 le:=Nat.zero_le _
theorem RndInv.fin{f:Nat→List Nat}{N i n:Nat}{far0 far:List Int}{list next:List Nat}(hF:∀u,∀v∈f u,v<N)(h0:FarInv f N i n far0 list)(hne:0<list.length)(h:RndInv f N i n list list.length far next):FarInv f N i (n+1) far next:=by
 have hn1:=h0.n1;have hm:∀u,u<N→(u∈next↔dst f i u=n):=fun u hu=>⟨fun hx=>(h.nxt u hx).2,fun hd=>by
  obtain⟨_,v,hv,hvu⟩:=(h0.nx u hu).1 hd;exact h.dn v (by rw[i_];exact hv) u hu hvu hd⟩
 refine{n1:=by omega,len:=h.len,far:=fun u hu=> ?_,nx:=fun u hu=> ?_,lt:=fun v hv=>(h.nxt v hv).1,nd:=h.nd,bd:= ?_}
 ·rw[h.far u hu];have:=hm u (by rw[← h.len];exact hu);by_cases hd:dst f i u=n
  ·rw[if_pos (this.2 hd)];unfold fvT;rw[if_pos (by omega),hd]
  ·rw[if_neg (fun hx=>hd (this.1 hx))];unfold fvT;by_cases h2:1≤dst f i u∧dst f i u<n
   ·rw[if_pos h2,if_pos (by omega)]
   ·rw[if_neg h2,if_neg (by omega)]
 ·constructor
  ·intro hd;obtain⟨v,hv,hv2⟩:=TW hn1 hd;exact⟨by omega,v,(hm v (hF u v hv)).2 hv2,hv⟩
  ·rintro⟨h1,v,hv,hvu⟩;have:=aee hn1 hvu (h.nxt v hv).2;omega
 ·have h1:=h0.bd;rw[if_neg (by intro e;rw[e]at hne;simp at hne)]at h1;cases next with
  | nil=>
    have:=abl f N i n;simp only[if_true];omega
  | cons u next=>
    have h2:=h.nxt u (by simp);have:=ahl f N i n hn1 h2.1 h2.2;simp only[h_,if_false];omega
structure UsrInv (f:Nat→List Nat) (N i:Nat) (n:Nat) (list:List Nat) (k:Nat) (us:List Nat) (j:Nat) (far:List Int) (next:List Nat):Prop extends RndInv f N i n list k far next where
 klt:k<list.length
 c:∀u∈us.take j,dst f i u=n→u∈next
 jle:j≤us.length
theorem UsrInv.skip{f:Nat→List Nat}{N i n:Nat}{far:List Int}{list next us:List Nat}{k j:Nat}(h:UsrInv f N i n list k us j far next)(hj:j<us.length)(hlt:us[j]<far.length)(hc:¬far[us[j]]<0):UsrInv f N i n list k us (j+1) far next:=by
 have h9:∀u∈us.take (j+1),dst f i u=n→u∈next:=by
  intro u hu hd;rw[a_ hj,d_,b_]at hu;rcases hu with hu|rfl
  ·exact h.c u hu hd
  ·rw[h.far _ hlt]at hc;by_cases hm:us[j]∈next
   ·exact hm
   ·rw[if_neg hm]at hc;unfold fvT at hc;rw[if_neg (by omega)]at hc;exact absurd (show(-1:Int)<0 by omega) hc
 exact{h with c:=h9,jle:=hj}
theorem UsrInv.put{f:Nat→List Nat}{N i n:Nat}{far0 far:List Int}{list next us:List Nat}{k j:Nat}(h0:FarInv f N i n far0 list)(h:UsrInv f N i n list k us j far next)(hus:∀u∈us,u<N∧list[k]'h.klt∈f u)(hj:j<us.length)(hlt:us[j]<far.length)(hc:far[us[j]]<0):UsrInv f N i n list k us (j+1) (far.set us[j] (n:Int)) (next++ [us[j]]):=by
 have hn1:=h0.n1;have hm:=hus us[j] (j_ hj);rw[h.far _ hlt]at hc;have hnm:us[j]∉next:=fun hx=>by rw[if_pos hx]at hc;omega
 rw[if_neg hnm]at hc;have hd:dst f i us[j]=n:=(h0.nx _ hm.1).2 ⟨fun hx=>by unfold fvT at hc;rw[if_pos hx]at hc;omega,_,j_ h.klt,hm.2⟩;refine{len:=by rw[k_];exact h.len,far:=fun u hu=> ?_,nxt:=fun u hu=> ?_,dn:=fun v hv u hu hvu hdu=>f_ _ (h.dn v hv u hu hvu hdu),nd:=Ak h.nd hnm,le:=h.le,klt:=h.klt,c:=fun u hu hdu=> ?_,jle:=hj}
 ·rw[k_]at hu;by_cases e:us[j]=u
  ·subst e;rw[List.getElem_set_self,if_pos (by simp)]
  ·rw[List.getElem_set_ne e,h.far u hu];have:(u∈next++ [us[j]])↔u∈next:=by simp;intro e2;exact absurd e2.symm e
   simp only[this]
 ·rw[d_,b_]at hu;rcases hu with hu|rfl
  ·exact h.nxt u hu
  ·exact⟨hm.1,hd⟩
 ·rw[a_ hj,d_,b_]at hu;rcases hu with hu|rfl
  ·exact f_ _ (h.c u hu hdu)
  ·simp
theorem UsrInv.fin{f:Nat→List Nat}{N i n:Nat}{far:List Int}{list next us:List Nat}{k:Nat}(h:UsrInv f N i n list k us us.length far next)(hus:∀u,u<N→list[k]'h.klt∈f u→u∈us):RndInv f N i n list (k+1) far next:=
 { len:=h.len,far:=h.far,nxt:=h.nxt,nd:=h.nd,le:=h.klt
   dn:=fun v hv u hu hvu hd=>by
    rw[a_ h.klt,d_,b_]at hv;rcases hv with hv|rfl
    ·exact h.dn v hv u hu hvu hd
    ·exact h.c u (by rw[i_];exact hus u hu hvu) hd}
theorem FarInv.fin{f:Nat→List Nat}{N i n:Nat}{far:List Int}(hF:∀u,∀v∈f u,v<N)(hN:∀u,N≤u→f u= [])(h:FarInv f N i n far []):far=aaL f N i:=by
 refine List.ext_getElem (by rw[h.len,adO]) (fun u h1 h2=> ?_);rw[h.far u h1,af6];have hno:∀u,dst f i u≠n:=fun u e=>by
  rcases e_ u N with hu|hu
  ·obtain⟨_,v,hv,_⟩:=(h.nx u hu).1 e;simp at hv
  ·have hw:=Dh (f:=f) (i:=i) (u:=u) (by have:=h.n1;omega);have hn1:=h.n1;obtain⟨m,hm⟩:∃m,dst f i u=m+1:=⟨dst f i u - 1,by omega⟩
   rw[hm]at hw;obtain⟨v,hv,_⟩:=hw;rw[hN u hu]at hv;simp at hv
 unfold fvT fvI;by_cases h3:1≤dst f i u
 ·have h4:dst f i u<n:=by
   rcases e_ (dst f i u) n with h4|h4
   ·exact h4
   ·exact absurd (show dst f i u=n+(dst f i u - n) by omega) (TY h.n1 hno _ u)
  rw[if_pos ⟨h3,h4⟩,if_pos h3]
 ·rw[if_neg (by omega),if_neg h3]
def ait(p:Nat→Bool)(d:Nat):List Nat→Nat
 | []=>d
 |x::l=>if p x then x else ait p d l
noncomputable def isN(f:Nat→List Nat)(i n k:Nat):Bool:=decide (k≠i) && (fvI f i k==(n:Int) - 1)
noncomputable def wk(f:Nat→List Nat)(i:Nat):Nat→Nat
 |0=>i
 |j+1=>ait (isN f i (dst f i i - j)) 0 (f (wk f i j))
noncomputable def wkL(f:Nat→List Nat)(i j:Nat):List Nat:=(m_ j).map (wk f i)
end
section
open List renaming take_succ_eq_append_getElem→a_,mem_singleton→b_,mem_append→d_,mem_append_left→f_,cons_ne_nil→h_,take_length→i_,getElem_mem→j_,length_set→k_,range→m_
open Classical renaming choose_spec→c_
open Nat renaming lt_or_ge→e_,le_refl→g_
attribute [local irreducible] sw sd sn
theorem pkF :type_of% (aiX @aJ (aiX @aO (aiX @au (aiX @GPart.aV (aiX @GPart.aK (aiX @GPart.aW @GPart.el)))))):=aiX @aJ (aiX @aO (aiX @au (aiX @GPart.aV (aiX @GPart.aK (aiX @GPart.aW @GPart.el)))))
end
end Go.Proofs.YtfjmoicellpnhaaGreat
