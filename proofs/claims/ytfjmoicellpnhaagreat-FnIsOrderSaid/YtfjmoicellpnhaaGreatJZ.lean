/-
  Texts joined: Gr Rch Set Sorted Dep Reach Cyc Lgd.
-/
import Derived.Test.YtfjmoicellpnhaaGreatJE
import Derived.Test.YtfjmoicellpnhaaGreatProg
import Derived.Test.YtfjmoicellpnhaaGreatJV
import Derived.Maps.OwnOps
import Derived.Test.YtfjmoicellpnhaaGreatJY
import Derived.Test.YtfjmoicellpnhaaGreatJX
set_option maxHeartbeats 8000000
set_option maxRecDepth 20000
set_option linter.unusedSimpArgs false
set_option linter.unusedVariables false
namespace Go.Proofs.YtfjmoicellpnhaaGreat
open Go.RowKit
section
open List renaming length_cons→a_,take_succ_eq_append_getElem→b_,length_nil→c_,cons_append→d_,length_map→e_,replicate→f_,contains_iff_mem→g_,mem_append→h_,nil_append→i_,map_cons→j_,mem_singleton→k_,length_append→l_,map_nil→o_,getElem?_eq_getElem→p_,take_length→q_,mem_of_mem_drop→t_,length_drop→u_,getElem_mem→v_,mem_cons→x_,mem_append_left→y_,mem_map→B_,getElem?_eq_none→E_,mem_cons_of_mem→G_,getElem?_map→H_,getElem?_take_of_lt→I_,map_append→K_,append_nil→L_,take_of_length_le→M_,filterMap_append→N_,mem_iff_getElem→O_,mem_of_mem_take→P_,pairwise_cons→Q_,map_map→R_,nodup_append→S_,length_take→V_,any_append→X_,mem_range→Z_,nodup_nil→a_a,map_drop→a_e
open Nat renaming reduceAdd→m_,reduceSub→n_,zero_le→s_,le_refl→z_,lt_or_ge→a_f
open Or renaming inl→r_,inr→D_
open Bool renaming eq_iff_iff→w_,or_eq_true→W_
open Int renaming ofNat→A_
open Value renaming int→C_
open Lib renaming hid→F_
def ln(k:Nat):D:=li (k:Int)
def jh(n:Nat)(p:Nat→Bool):List Nat:=(List.range n).filter p
theorem kT(n:Nat)(p:Nat→Bool):(jh n p).Pairwise (· < ·):=List.Pairwise.filter _ List.pairwise_lt_range
theorem nY{n:Nat}{p:Nat→Bool}{x:Nat}:x∈jh n p↔x<n∧p x=true:=by
 unfold jh;rw[List.mem_filter,Z_]
theorem xC(n:Nat)(p:Nat→Bool):(jh n p).length≤n:=by
 have:=List.length_filter_le p (List.range n);rwa[List.length_range]at this
theorem zY{n:Nat}{p q:Nat→Bool}(h:∀x,x<n→p x=q x):jh n p=jh n q:=by
 unfold jh;refine List.filter_congr fun x hx=>h x (Z_.1 hx)
theorem zV :∀{l m:List Nat},l.Pairwise (· < ·)→m.Pairwise (· < ·)→(∀x,x∈l↔x∈m)→l=m
 | [],[],_,_,_=>rfl
 | [],y::m,_,_,h=>by have:=(h y).2 (by simp);simp at this
 |x::l,[],_,_,h=>by have:=(h x).1 (by simp);simp at this
 | x ::l,y::m,hl,hm,h=>by
   rw[Q_]at hl hm;have e:x=y:=by
    rcases x_.1 ((h x).1 (by simp))with e|h1
    ·exact e
    ·rcases x_.1 ((h y).2 (by simp))with e|h2
     ·exact e.symm
     ·have a1:=hm.1 x h1;have a2:=hl.1 y h2;omega
   subst e;rw[zV hl.2 hm.2 (fun z=> ?_)];constructor
   ·intro hz;rcases x_.1 ((h z).1 (G_ _ hz))with e|h1
    ·have:=hl.1 z hz;omega
    ·exact h1
   ·intro hz;rcases x_.1 ((h z).2 (G_ _ hz))with e|h1
    ·have:=hm.1 z hz;omega
    ·exact h1
theorem ade{n x pos:Nat}{p:Nat→Bool}{s:List Nat}(hs:s.Pairwise (· < ·))(hy2:∀y,y∈s↔y<n∧p y=true)(hx:x<n)(hp:p x=false)(hat:pos≤s.length)(h1:∀(j:Nat) (h:j<pos),s[j]'(by omega)<x)(h2:∀(h:pos<s.length),x≤s[pos]):
 s.take pos++x::s.drop pos=jh n (fun k=>p k || k==x):=by
 have hm:∀y∈s,y≠x:=fun y hy e=>by
  subst e;rw[((hy2 y).1 hy).2]at hp;cases hp
 have hlow:∀y∈s.take pos,y<x:=fun y hy=>by
  obtain⟨j,hj,rfl⟩:=O_.1 hy;rw[List.getElem_take];exact h1 j (by rw[V_]at hj;omega)
 have hhigh:∀y∈s.drop pos,x<y:=fun y hy=>by
  have hne:=hm y (t_ hy);obtain⟨j,hj,rfl⟩:=O_.1 hy;rw[List.getElem_drop]at hne⊢;rw[u_]at hj;have h3:=h2 (by omega);rcases Nat.eq_zero_or_pos j with rfl|hj0
  ·simp only[Nat.add_zero]at hne⊢;omega
  ·have:=List.pairwise_iff_getElem.1 hs pos (pos+j) (by omega) (by omega) (by omega);omega
 refine zV ?_ (kT _ _) (fun y=> ?_)
 ·rw[List.pairwise_append];refine⟨hs.sublist (List.take_sublist _ _), ?_,fun a ha b hb=> ?_⟩
  ·rw[Q_];exact⟨hhigh,hs.sublist (List.drop_sublist _ _)⟩
  ·have:=hlow a ha;rcases x_.1 hb with rfl|hb
   ·exact this
   ·have:=hhigh b hb;omega
 ·have hy:y∈s↔y∈s.take pos∨y∈s.drop pos:=by rw[← h_,List.take_append_drop]
  rw[nY,h_,x_];simp only[W_,beq_iff_eq];constructor
  ·rintro(h|h|h)
   ·have:=(hy2 y).1 (hy.2 (r_ h));exact⟨this.1,r_ this.2⟩
   ·subst h;exact⟨hx,D_ rfl⟩
   ·have:=(hy2 y).1 (hy.2 (D_ h));exact⟨this.1,r_ this.2⟩
  ·rintro⟨h,h'|h'⟩
   ·rcases hy.1 ((hy2 y).2 ⟨h,h'⟩)with h3|h3
    ·exact r_ h3
    ·exact D_ (D_ h3)
   ·exact D_ (r_ h')
theorem afM{n x pos:Nat}{p:Nat→Bool}(hx:x<n)(hp:p x=false)(hat:pos≤(jh n p).length)(h1:∀(j:Nat) (h:j<pos),(jh n p)[j]'(by omega)<x)(h2:∀(h:pos<(jh n p).length),x≤(jh n p)[pos]):
 (jh n p).take pos++x::(jh n p).drop pos=jh n (fun k=>p k || k==x):=ade (kT n p) (fun y=>nY) hx hp hat h1 h2
def jP(n:Nat)(l:List Nat):List Nat:=jh n (fun k=>l.contains k)
theorem Qh(n:Nat):jP n []= []:=by simp[jP,jh]
theorem xP{n:Nat}{l:List Nat}{x:Nat}:x∈jP n l↔x<n∧x∈l:=by
 unfold jP;rw[nY];simp
theorem Xm{n:Nat}{l m:List Nat}(hs:m.Pairwise (· < ·))(hm:∀x,x∈m↔x<n∧x∈l):m=jP n l:=zV hs (kT _ _) (fun x=>by rw[hm];exact xP.symm)
def pJ(l:List Nat)(z:Int):Bool:=l.any fun x=>(x:Int)==z
theorem Tn{l:List Nat}{z:Int}:pJ l z=true↔∃x∈l,(x:Int)=z:=by simp[pJ]
theorem ku{l:List Nat}{k:Nat}:pJ l (k:Int)=l.contains k:=by
 rw[w_,Tn,g_];constructor
 ·rintro⟨x,hx,e⟩;have:x=k:=by omega
  exact this▸hx
 ·intro h;exact⟨k,h,rfl⟩
theorem MN(l:List Nat)(z:Int){k:Nat}(h:k<l.length):pJ (l.take (k+1)) z=(pJ (l.take k) z ||(((l[k]:Nat):Int)==z)):=by
 unfold pJ;rw[b_ h,X_];simp
theorem YP{l:List Nat}{z:Int}{k:Nat}(h:k<l.length)(e:(((l[k]:Nat):Int)==z)=true):pJ l z=true:=Tn.2 ⟨l[k],v_ h,by simpa using e⟩
theorem aO(l:List Nat):El 1 (l.map ln):=fun d h=>by obtain⟨x,_,rfl⟩:=B_.1 h;exact⟨rfl,rfl⟩
theorem vC(l:List Nat)(k:Nat):El 1 ((l.map ln).take k):=fun d h=>aO l d (P_ h)
theorem wV(l:List Nat)(j k:Nat):El 1 (((l.map ln).take j).drop k):=fun d h=>vC l j d (t_ h)
theorem afT(l:List Nat):jR (l.map ln):=lS (g:=ln) (fun x w f cs h=>(show f= []∧_ from h).1) l
theorem au{α:Type}{f:α→D}{l:List α}{k:Nat}(h:k<l.length):(l.map f)[k]? =some (f l[k]):=by
 rw[H_,p_ h];rfl
theorem aJ(b:Bool)(n:Nat):(ln n).acs b= [.raw (.int .i64 (n:Int))]:=rfl
theorem abG{n:Nat}{l:List Nat}{k:Nat}(hk:k<l.length)(hx:l[k]<n)(h:(jP n (l.take k)).contains l[k]=true):jP n (l.take (k+1))=jP n (l.take k):=by
 refine zY fun x hxn=> ?_
 rw[b_ hk];rw[g_,xP]at h;rw[w_];simp only[g_,h_,k_];constructor
 ·rintro(h'|rfl)
  ·exact h'
  ·exact h.2
 ·exact r_
theorem abE{n:Nat}{l:List Nat}{k pos:Nat}(hk:k<l.length)(hx:l[k]<n)(h:(jP n (l.take k)).contains l[k]=false)(hat:pos≤(jP n (l.take k)).length)(h1:∀(j:Nat) (h:j<pos),(jP n (l.take k))[j]'(by omega)<l[k])
 (h2:∀(h:pos<(jP n (l.take k)).length),l[k]≤(jP n (l.take k))[pos]):(jP n (l.take k)).take pos++l[k]::(jP n (l.take k)).drop pos=jP n (l.take (k+1)):=by
 have hp:(l.take k).contains l[k]=false:=by
  rw[Bool.eq_false_iff]at h⊢;intro h';apply h;rw[g_,xP];rw[g_]at h';exact⟨hx,h'⟩
 rw[jP,afM hx hp hat h1 h2];refine zY fun x hxn=> ?_
 rw[b_ hk,w_];simp only[W_,g_,beq_iff_eq,h_,k_]
def cO(p:Nat→Bool)(g:Nat→Nat):Nat→Nat
 |0=>0
 |n+1=>cO p g n+if p n then g n else 0
theorem zU{p q:Nat→Bool}{g:Nat→Nat}:∀{n:Nat},(∀x,x<n→p x=q x)→cO p g n=cO q g n
 |0,_=>rfl
 | n+1,h=>by
   simp only[cO];rw[zU (fun x hx=>h x (by omega)),h n (by omega)]
theorem xw{p q:Nat→Bool}{g:Nat→Nat}{k:Nat}(hp:p k=true)(hq:q k=false)(ho:∀x,x≠k→p x=q x):∀{n:Nat},k<n→cO p g n=cO q g n+g k
 |0,h=>by omega
 | n+1,h=>by
   simp only[cO];rcases a_f k n with h'|h'
   ·rw[xw hp hq ho h',ho n (by omega)];omega
   ·obtain rfl:k=n:=by omega
    rw[zU (q:=q) (fun x hx=>ho x (by omega)),hp,hq];simp
theorem Xk{p:Nat→Bool}{g:Nat→Nat}:∀(n:Nat),cO p g n≤cO (fun _=>true) g n
 |0=>z_ _
 | n+1=>by
   have:=Xk (p:=p) (g:=g) n;simp only[cO];split<;>simp<;>omega
def kN(l:List Nat)(x:Nat):Bool:= !l.contains x
theorem LQ{l:List Nat}{k:Nat}(h:k∉l){g:Nat→Nat}{n:Nat}(hk:k<n):cO (kN l) g n=cO (kN (l++ [k])) g n+g k:=by
 refine xw (by simp[kN,h]) (by simp[kN]) (fun x hx=> ?_) hk;simp[kN,hx]
theorem Vj{l:List Nat}{k:Nat}(h:k∉l){g:Nat→Nat}{n:Nat}(hk:k<n):cO (kN l) g n=cO (kN (k::l)) g n+g k:=by
 refine xw (by simp[kN,h]) (by simp[kN]) (fun x hx=> ?_) hk;simp[kN,hx]
theorem yQ{n:Nat}:∀{l:List Nat},l.Nodup→(∀x∈l,x<n)→cO (kN l) (fun _=>1) n+l.length=n
 | [],_,_=>by
   have:∀m,cO (kN []) (fun _=>1) m=m:=by
    intro m
    induction m with
    |zero=>rfl
    |succ m ih=>simp only[cO,ih];simp[kN]
   simp[this]
 | k::l,hn,hb=>by
   rw[List.nodup_cons]at hn;have h1:=yQ hn.2 (fun x hx=>hb x (G_ _ hx));have h2:=Vj hn.1 (g:=fun _=>1) (hb k (by simp));simp only[a_];omega
theorem qR{n:Nat}{l:List Nat}(h:l.Nodup)(hb:∀x∈l,x<n):l.length≤n:=by
 have:=yQ h hb;omega
theorem Ak{l:List Nat}{k:Nat}(h:l.Nodup)(hk:k∉l):(l++ [k]).Nodup:=by
 rw[S_];refine⟨h,by simp,fun a ha b hb e=> ?_⟩;rw[k_]at hb;subst hb e;exact hk ha
theorem vP{l:List Nat}(h:l.Pairwise (· < ·)):l.Nodup:=h.imp fun hab=>by omega
inductive Rch (f:Int→List Nat) (z:Int):Nat→Prop
 |one {x:Nat}:x∈f z→Rch f z x
 |more {x y:Nat}:Rch f z x→y∈f (x:Int)→Rch f z y
noncomputable def afg(f:Int→List Nat)(z:Int)(x:Nat):Bool:= @decide (Rch f z x) (Classical.propDecidable _)
theorem uS{f:Int→List Nat}{z:Int}{x:Nat}:afg f z x=true↔Rch f z x:=by
 unfold afg;exact @decide_eq_true_iff _ (Classical.propDecidable _)
noncomputable def cl(n:Nat)(f:Int→List Nat)(z:Int):List Nat:=jh n (afg f z)
theorem aeu(n:Nat)(f:Int→List Nat)(z:Int):(cl n f z).length≤n:=xC _ _
theorem ahI{n:Nat}{f:Int→List Nat}{z:Int}{x:Nat}:x∈cl n f z↔x<n∧Rch f z x:=by
 unfold cl;rw[nY,uS]
theorem ahb{n:Nat}{f:Int→List Nat}{z:Int}{l:List Nat}(h1:∀x∈l,x<n∧Rch f z x)(h2:∀x∈f z,x∈l)(h3:∀y∈l,∀x∈f (y:Int),x∈l):jP n l=cl n f z:=by
 unfold jP cl;refine zY fun x hx=> ?_
 rw[w_,uS,g_];refine⟨fun h=>(h1 x h).2,fun h=> ?_⟩;clear hx
 induction h with
 |one h=>exact h2 _ h
 |more _ h ih=>exact h3 _ ih _ h
structure AllInv (n:Nat) (f:Int→List Nat) (z:Int) (k:Nat) (out:List Nat):Prop where
 nd:out.Nodup
 lt:∀x∈out,x<n
 r:∀x∈out,Rch f z x
 a:∀x∈f z,x∈out
 b:∀y∈out.take k,∀x∈f (y:Int),x∈out
 le:k≤out.length
structure MoreInv (n:Nat) (f:Int→List Nat) (z:Int) (k:Nat) (y:Nat) (j:Nat) (out:List Nat):Prop extends AllInv n f z k out where
 lt1:k<out.length
 at1:out[k]? =some y
 c:∀x∈(f (y:Int)).take j,x∈out
 jle:j≤(f (y:Int)).length
theorem MoreInv.start{n:Nat}{f:Int→List Nat}{z:Int}{k:Nat}{out:List Nat}(h:AllInv n f z k out)(hk:k<out.length):MoreInv n f z k out[k] 0 out:=
 {h with lt1:=hk,at1:=p_ hk,c:=by simp,jle:=s_ _}
theorem MoreInv.skip{n:Nat}{f:Int→List Nat}{z:Int}{k y j:Nat}{out:List Nat}(h:MoreInv n f z k y j out)(hj:j<(f (y:Int)).length)(hc:out.contains (f (y:Int))[j]=true):MoreInv n f z k y (j+1) out:=by
 have h9:∀x∈(f (y:Int)).take (j+1),x∈out:=by
  intro x hx;rw[b_ hj,h_,k_]at hx;rcases hx with hx|rfl
  ·exact h.c x hx
  ·simpa using hc
 exact{h with c:=h9,jle:=hj}
theorem MoreInv.put{n:Nat}{f:Int→List Nat}(hf:∀z,∀x∈f z,x<n){z:Int}{k y j:Nat}{out:List Nat}(h:MoreInv n f z k y j out)(hj:j<(f (y:Int)).length)(hc:out.contains (f (y:Int))[j]=false):MoreInv n f z k y (j+1) (out++ [(f (y:Int))[j]]):=
 have hy:y∈out:=List.mem_of_getElem? h.at1;have hm:=v_ hj
 { nd:=Ak h.nd (by simpa using hc)
   lt:=fun x hx=>by
    rw[h_,k_]at hx;rcases hx with hx|rfl
    ·exact h.lt x hx
    ·exact hf _ _ hm
   r:=fun x hx=>by
    rw[h_,k_]at hx;rcases hx with hx|rfl
    ·exact h.r x hx
    ·exact .more (h.r y hy) hm
   a:=fun x hx=>y_ _ (h.a x hx)
   b:=fun w hw x hx=>by
    rw[List.take_append_of_le_length h.le]at hw;exact y_ _ (h.b w hw x hx)
   le:=by have:=h.le;simp;omega
   lt1:=by have:=h.lt1;simp;omega
   at1:=by rw[List.getElem?_append_left h.lt1];exact h.at1
   c:=fun x hx=>by
    rw[b_ hj,h_,k_]at hx;rcases hx with hx|rfl
    ·exact y_ _ (h.c x hx)
    ·simp
   jle:=hj}
theorem MoreInv.fin{n:Nat}{f:Int→List Nat}{z:Int}{k y:Nat}{out:List Nat}(h:MoreInv n f z k y (f (y:Int)).length out):AllInv n f z (k+1) out:=by
 have h9:∀w∈out.take (k+1),∀x∈f (w:Int),x∈out:=by
  intro w hw x hx;rw[b_ h.lt1,h_,k_]at hw;rcases hw with hw|rfl
  ·exact h.b w hw x hx
  ·have:=h.at1;rw[p_ h.lt1]at this;injection this with this
   rw[this]at hx;exact h.c x (by rw[q_];exact hx)
 exact{h with b:=h9,le:=h.lt1}
theorem AllInv.start{n:Nat}{f:Int→List Nat}(hf:∀z,∀x∈f z,x<n){z:Int}(hs:(f z).Pairwise (· < ·)):AllInv n f z 0 (f z):=
 {nd:=vP hs,lt:=hf z,r:=fun x h=> .one h,a:=fun x h=>h,b:=by simp,le:=s_ _}
theorem AllInv.fin{n:Nat}{f:Int→List Nat}{z:Int}{out:List Nat}(h:AllInv n f z out.length out):jP n out=cl n f z:=
 ahb (fun x hx=>⟨h.lt x hx,h.r x hx⟩) h.a (fun y hy x hx=>h.b y (by rw[q_];exact hy) x hx)
structure TodoInv (n:Nat) (f:Int→List Nat) (z:Int) (out todo:List Nat):Prop where
 nd:out.Nodup
 lt:∀x∈out,x<n
 r:∀x∈out,Rch f z x
 lt':∀x∈todo,x<n
 r':∀x∈todo,Rch f z x
 a:∀x∈f z,x∈out∨x∈todo
 b:∀y∈out,∀x∈f (y:Int),x∈out∨x∈todo
 t:todo.length+cO (kN out) (fun x=>(f (x:Int)).length) n≤(f z).length+cO (fun _=>true) (fun x=>(f (x:Int)).length) n
theorem TodoInv.start{n:Nat}{f:Int→List Nat}(hf:∀z,∀x∈f z,x<n){z:Int}:TodoInv n f z [] (f z):=
 {nd:=a_a,lt:=by simp,r:=by simp,lt':=hf z,r':=fun x h=> .one h,a:=fun x h=>D_ h,b:=by simp,t:=by have:=Xk (p:=kN []) (g:=fun x=>(f (x:Int)).length) n;omega}
theorem MK{l:List Nat}(h:0<l.length):l=l[0]::l.drop 1:=by
 cases l with
 |nil=>simp at h
 |cons x l=>rfl
theorem TodoInv.skip{n:Nat}{f:Int→List Nat}{z:Int}{out todo:List Nat}(h:TodoInv n f z out todo)(h0:0<todo.length)(hc:out.contains todo[0]=true):TodoInv n f z out (todo.drop 1):=by
 have he:=MK h0;have hm:todo[0]∈out:=by simpa using hc
 have key:∀x,x∈out∨x∈todo→x∈out∨x∈todo.drop 1:=fun x hx=>by
  rcases hx with hx|hx
  ·exact r_ hx
  ·rw[he]at hx;rcases x_.1 hx with rfl|hx
   ·exact r_ hm
   ·exact D_ hx
 exact{h with lt':=fun x hx=>h.lt' x (t_ hx),r':=fun x hx=>h.r' x (t_ hx),a:=fun x hx=>key x (h.a x hx),b:=fun y hy x hx=>key x (h.b y hy x hx),t:=by have:=h.t;rw[u_];omega}
theorem TodoInv.put{n:Nat}{f:Int→List Nat}(hf:∀z,∀x∈f z,x<n){z:Int}{out todo:List Nat}(h:TodoInv n f z out todo)(h0:0<todo.length)(hc:out.contains todo[0]=false):TodoInv n f z (out++ [todo[0]]) (todo.drop 1++f (todo[0]:Int)):=by
 have he:=MK h0;have hm:todo[0]∉out:=by simpa using hc
 have ht:=v_ h0;have key:∀x,x∈out∨x∈todo→x∈out++ [todo[0]]∨x∈todo.drop 1++f (todo[0]:Int):=fun x hx=>by
  rcases hx with hx|hx
  ·exact r_ (y_ _ hx)
  ·rw[he]at hx;rcases x_.1 hx with rfl|hx
   ·exact r_ (by simp)
   ·exact D_ (y_ _ hx)
 refine{nd:=Ak h.nd hm,lt:=fun x hx=> ?_,r:=fun x hx=> ?_,lt':=fun x hx=> ?_,r':=fun x hx=> ?_,a:=fun x hx=>key x (h.a x hx),b:=fun y hy x hx=> ?_,t:= ?_}
 ·rw[h_,k_]at hx;rcases hx with hx|rfl
  ·exact h.lt x hx
  ·exact h.lt' _ ht
 ·rw[h_,k_]at hx;rcases hx with hx|rfl
  ·exact h.r x hx
  ·exact h.r' _ ht
 ·rcases h_.1 hx with hx|hx
  ·exact h.lt' x (t_ hx)
  ·exact hf _ _ hx
 ·rcases h_.1 hx with hx|hx
  ·exact h.r' x (t_ hx)
  ·exact .more (h.r' _ ht) hx
 ·rw[h_,k_]at hy;rcases hy with hy|rfl
  ·exact key x (h.b y hy x hx)
  ·exact D_ (List.mem_append_right _ hx)
 ·have h1:=h.t;have h2:=LQ hm (g:=fun x=>(f (x:Int)).length) (h.lt' _ ht);rw[l_,u_];omega
theorem TodoInv.fin{n:Nat}{f:Int→List Nat}{z:Int}{out:List Nat}(h:TodoInv n f z out []):jP n out=cl n f z:=
 ahb (fun x hx=>⟨h.lt x hx,h.r x hx⟩) (fun x hx=>(h.a x hx).elim id (by simp)) (fun y hy x hx=>(h.b y hy x hx).elim id (by simp))
def G8(n:Nat)(f:Int→List Nat)(out todo:List Nat):Nat:=todo.length+cO (kN out) (fun x=>(f (x:Int)).length) n
theorem UQ{n:Nat}{f:Int→List Nat}{out todo:List Nat}(h0:0<todo.length):G8 n f out (todo.drop 1)<G8 n f out todo:=by
 unfold G8;rw[u_];omega
theorem Zt{n:Nat}{f:Int→List Nat}{z:Int}{out todo:List Nat}(h:TodoInv n f z out todo)(h0:0<todo.length)(hc:out.contains todo[0]=false):G8 n f (out++ [todo[0]]) (todo.drop 1++f (todo[0]:Int))<G8 n f out todo:=by
 have hm:todo[0]∉out:=by simpa using hc
 have h2:=LQ hm (g:=fun x=>(f (x:Int)).length) (h.lt' _ (v_ h0));unfold G8;rw[l_,u_];omega
theorem MR{pk:List Nat}{n m:Nat}:∀(fr:List AV),yG pk n m fr (f_ fr.length .any)
 | []=>trivial
 |x::fr=>⟨r_ rfl,MR fr⟩
theorem MP{pk:List Nat}{n m:Nat}{x:AV}(hx:x.fits n m=true):∀(fr:List AV) (t:Nat),fr.getD t .any=x.ren pk→yG pk n m fr ((f_ fr.length AV.any).set t x)
 | [],t,_=>trivial
 |y::fr,0,h=>⟨D_ ⟨h,hx⟩,MR fr⟩
 |y::fr,t+1,h=>⟨r_ rfl,MP hx fr t (by simpa using h)⟩
def ahg(t:Nat)(l:List D)(e s:Nat)(bs':List (List AC))(st:St):Prop:=
 ∃k i,st.fr.getD t .any= .c false [.own k i]∧st.owns[k]? =some ⟨l,e,s,i,true⟩∧i=0∧st.boxes=bs'
theorem aex{P:Program}{f:Nat}{fn:Func}{code:Code}{ic:IC}{avs:List AV}{bs bs':List (List AC)}{t:Nat}{l:List D}{e s:Nat}(hf:P.funcs[f]? =some fn:=by kernel_rfl)(hb:fn.body=some code:=by kernel_rfl)(hr:fn.results= #[.tmp t]:=by kernel_rfl)(hc:ak P code=some ic)
 (h2:bs.length≤bs'.length) (hbr:∀pk,uH pk bs' bs') (hbf:(bs'.all fun xs=>xs.all (AC.fits 1 bs'.length))=true) (h:dH (0,bs.length) P ic (iG (ahg t l e s bs')) (stS fn.ntmps avs [] bs)):gZ P f avs [] bs (.c false [.own 0 0]) [⟨l,e,s,0,true⟩] bs':=by
 intro B Xs G w0 fr E a w vs hR hv;have hol:=hR.olen;have hbl:=hR.blen;simp only at hol hbl;refine calls_of_wp hf hb ?_;have:=h code hc B Xs ⟨E,[],w⟩ w0 ⟨Nat.le_refl _,by simp only;omega⟩ E _ w (rG hR hv fn.ntmps);refine wp_mono this ?_;rintro e' a' w' ⟨st',E',g1,g2⟩;have fin:ahg t l e s bs' st'→∃v,(results fn a'.tmps).run P w'= .ok v w'∧∃v' E',Ending.returned v= .returned v'∧Rel B Xs ⟨E,[],w⟩ w0 ⟨[],[⟨l,e,s,0,true⟩],bs'⟩ E' {tmps:= #[],defers:= []} w'∧AV.ok E' [⟨l,e,s,0,true⟩] w' (.c false [.own 0 0]) v':=by
  rintro⟨k,i,q1,q2,rfl,q4⟩;have drop:∀{fr':List AV} {E'':Env},Rel B Xs ⟨E,[],w⟩ w0 ⟨fr',[⟨l,e,s,0,true⟩],bs'⟩ E'' a' w'→Rel B Xs ⟨E,[],w⟩ w0 ⟨[],[⟨l,e,s,0,true⟩],bs'⟩ E'' {tmps:= #[],defers:= []} w':=fun hh=>
   {eb:=hh.eb,ex:=hh.ex,sim:=hh.sim,defers:=rfl,size:=rfl,fr:=fun t y hy=>by simp at hy,olen:=hh.olen,own:=hh.own,blen:=hh.blen,box:=hh.box,nodup:=hh.nodup,lin:=hh.lin,unf:=hh.unf,below:=hh.below,base:=hh.base}
  have hle:wW [k] st' ⟨(List.replicate st'.fr.length .any).set t (.c false [.own 0 0]),[⟨l,e,s,0,true⟩],bs'⟩:=⟨by simp,MP (by simp[AV.fits,AC.fits]) _ _ (by rw[q1];rfl),⟨by rw[q2];exact⟨rfl,rfl,rfl,rfl,rfl⟩,trivial⟩,by rw[q4];exact hbr _,by simpa using hbf⟩
  obtain⟨E'',hh⟩:=g1.PN hle rfl (by simp only;omega);refine⟨_,results_tmp hr _ P w',_,E'',rfl,drop hh, ?_⟩;have hlt:t<st'.fr.length:=by
   rcases Nat.lt_or_ge t st'.fr.length with hlt|hge
   ·exact hlt
   ·rw[List.getD_eq_getElem?_getD,List.getElem?_eq_none hge]at q1;cases q1
  exact hh.fr t _ (by simp only;rw[List.getElem?_set_self (by simpa using hlt)])
 cases e' with
 | normal=>
   obtain⟨v,h3,h4⟩:=fin g2;exact⟨g1.defers,v,h3,h4⟩
 | ret=>
   obtain⟨v,h3,h4⟩:=fin g2;exact⟨g1.defers,v,h3,h4⟩
 |_=>exact g2.elim
end
section
open List renaming length_cons→a_,take_succ_eq_append_getElem→b_,length_nil→c_,cons_append→d_,length_map→e_,replicate→f_,contains_iff_mem→g_,mem_append→h_,nil_append→i_,map_cons→j_,mem_singleton→k_,length_append→l_,map_nil→o_,getElem?_eq_getElem→p_,take_length→q_,mem_of_mem_drop→t_,length_drop→u_,getElem_mem→v_,mem_cons→x_,mem_append_left→y_,mem_map→B_,getElem?_eq_none→E_,mem_cons_of_mem→G_,getElem?_map→H_,getElem?_take_of_lt→I_,map_append→K_,append_nil→L_,take_of_length_le→M_,filterMap_append→N_,mem_iff_getElem→O_,mem_of_mem_take→P_,pairwise_cons→Q_,map_map→R_,nodup_append→S_,length_take→V_,any_append→X_,mem_range→Z_,nodup_nil→a_a,map_drop→a_e
open Nat renaming reduceAdd→m_,reduceSub→n_,zero_le→s_,le_refl→z_,lt_or_ge→a_f
open Or renaming inl→r_,inr→D_
open Bool renaming eq_iff_iff→w_,or_eq_true→W_
open Int renaming ofNat→A_
open Value renaming int→C_
open Lib renaming hid→F_
attribute [local irreducible] sw sd sn
def xZ :IC:=(zd_ [zj_ 4 false] (.seq (zd_ [zk_ 5 0] (.block 0 (.loop (.seq (zd_ [zw_ 6 5,zw_ 7 0,zf_ 8 false 7,zl_ 9 .lss 6 8] (.cond (.t 9) .skip (.exit 0))) (.seq (.block 1 (zd_ [zw_ 12 0,zw_ 13 5,ze_ 14 1 12 13,zs_ 15 1 14,zw_ 16 1,zl_ 17 .eql 15 16] (.cond (.t 17) (zd_ [zj_ 4 true] .ret) .skip))) (.reg false [zw_ 10 5,zm_ 11 .add 10 1,zw_ 5 11])))))) (zd_ [zj_ 4 false] .ret)))
theorem xY :ak Tryz.prog (Tryz.f85.body.getD .skip)=some xZ:=by kernel_rfl
theorem iI(l:List Nat)(z:Int)(hn:l.length≤4194304):aI Tryz.prog 85 [.sl (l.map ln),li z] (.c false [.raw (.bool (pJ l z))]):=by
 refine aY (fn:=Tryz.f85) (t:=4) (hc:=xY) (h:= ?_);unfold xZ;refine zb_ ?_;change AWP _ _ _ (st0 18 _);simp only[undef,stS,st0,stN,D.av,D.avN,dD,bf,dG,dF,dK,bV,bP,bM,aJ,aO,au,j_,o_,f_,d_,i_,a_,c_,m_,n_]
 repeat' (first|(refine rg_ ?_;intro K hK)|(refine hq_ ?_;clear hK K)|refine ca_ ?_ ?_|refine sz_ (a3_ @aJ @aO @au) ?_|refine nv ?_|(refine c2_ ?_ ?_<;>(intro hb hb';try(exfalso;omega)))|exact bq_|fail)
 refine aQ (X:=Nat) (fun q=> [.k,.k,.d,.d,.d,.v (.c false [.raw (.int .i64 (q:Nat))])]) (fun q=> []) (fun q bs=> []) (fun q=>q≤l.length∧pJ (l.take q) z=false) (fun q=>l.length - q) 0 ⟨s_ _,by simp[pJ]⟩ ?_ ?_
 ·simp[aG,aU,aC,aF,AV.fits,AC.fits,FB,aB]
 rintro k ⟨hk,hf⟩;simp only[FB,aB];by_cases hlt:k<l.length
 ·cases he:(((l[k]:Nat):Int)==z)with
  | true=>
    have ht:=YP hlt he
    repeat' (first|(refine rg_ ?_;intro K hK)|(refine hq_ ?_;clear hK K)|refine ca_ ?_ ?_|refine sz_ (a4_ @aJ @aO @au he) ?_|refine nv ?_|(refine c2_ ?_ ?_<;>(intro hb hb';try(exfalso;omega)))|exact bq_|fail)
    exact aS ⟨_,rfl,by rw[ht];rfl,trivial⟩
  | false=>
    have ht:=MN l z hlt;rw[hf,he]at ht
    repeat' (first|(refine rg_ ?_;intro K hK)|(refine hq_ ?_;clear hK K)|refine ca_ ?_ ?_|refine sz_ (a4_ @aJ @aO @au he) ?_|refine nv ?_|(refine c2_ ?_ ?_<;>(intro hb hb';try(exfalso;omega)))|exact bq_|fail)
    refine aP (k+1) ?_ ⟨by omega,ht⟩ (show l.length - (k+1)<l.length - k by omega);simp[aG,aU,aC,aF,AV.fits,AC.fits,FB,aB]
 ·obtain rfl:k=l.length:=by omega
  rw[q_]at hf
  repeat' (first|(refine rg_ ?_;intro K hK)|(refine hq_ ?_;clear hK K)|refine ca_ ?_ ?_|refine sz_ (a3_ @aJ @aO @au) ?_|refine nv ?_|(refine c2_ ?_ ?_<;>(intro hb hb';try(exfalso;omega)))|exact bq_|fail)
  exact aS ⟨_,rfl,by rw[hf];rfl,trivial⟩
def Ee :IC:=(zd_ [zj_ 4 false] (.seq (zd_ [zw_ 7 0,zf_ 8 false 7,zk_ 9 0] (.block 0 (.loop (zd_ [zl_ 10 .lss 9 8] (.seq (.cond (.t 10) .skip (.exit 0)) (.seq (.block 1 (zd_ [ze_ 11 1 7 9,zs_ 12 1 11,zw_ 6 12] (zd_ [zw_ 13 6,zw_ 14 1,zl_ 15 .eql 13 14] (.cond (.t 15) (zd_ [zj_ 4 true] .ret) .skip)))) (.reg false [zm_ 16 .add 9 1,zw_ 9 16]))))))) (zd_ [zj_ 4 false] .ret)))
theorem CU :ak Tryz.prog (Tryz.f58.body.getD .skip)=some Ee:=by kernel_rfl
theorem Ef(l:List Nat)(z:Int)(hn:l.length≤4194304):aI Tryz.prog 58 [.sl (l.map ln),li z] (.c false [.raw (.bool (pJ l z))]):=by
 refine aY (fn:=Tryz.f58) (t:=4) (hc:=CU) (h:= ?_);unfold Ee;refine zb_ ?_;change AWP _ _ _ (st0 17 _);simp only[undef,stS,st0,stN,D.av,D.avN,dD,bf,dG,dF,dK,bV,bP,bM,aJ,aO,au,j_,o_,f_,d_,i_,a_,c_,m_,n_]
 repeat' (first|(refine rg_ ?_;intro K hK)|(refine hq_ ?_;clear hK K)|refine ca_ ?_ ?_|refine sz_ (a3_ @aJ @aO @au) ?_|refine nv ?_|(refine c2_ ?_ ?_<;>(intro hb hb';try(exfalso;omega)))|exact bq_|fail)
 refine aQ (X:=Nat) (fun q=> [.d,.k,.d,.d,.d,.d,.d,.k,.k,.v (.c false [.raw (.int .i64 (q:Nat))])]) (fun q=> []) (fun q bs=> []) (fun q=>q≤l.length∧pJ (l.take q) z=false) (fun q=>l.length - q) 0 ⟨s_ _,by simp[pJ]⟩ ?_ ?_
 ·simp[aG,aU,aC,aF,AV.fits,AC.fits,FB,aB]
 rintro k ⟨hk,hf⟩;simp only[FB,aB];by_cases hlt:k<l.length
 ·cases he:(((l[k]:Nat):Int)==z)with
  | true=>
    have ht:=YP hlt he
    repeat' (first|(refine rg_ ?_;intro K hK)|(refine hq_ ?_;clear hK K)|refine ca_ ?_ ?_|refine sz_ (a4_ @aJ @aO @au he) ?_|refine nv ?_|(refine c2_ ?_ ?_<;>(intro hb hb';try(exfalso;omega)))|exact bq_|fail)
    exact aS ⟨_,rfl,by rw[ht];rfl,trivial⟩
  | false=>
    have ht:=MN l z hlt;rw[hf,he]at ht
    repeat' (first|(refine rg_ ?_;intro K hK)|(refine hq_ ?_;clear hK K)|refine ca_ ?_ ?_|refine sz_ (a4_ @aJ @aO @au he) ?_|refine nv ?_|(refine c2_ ?_ ?_<;>(intro hb hb';try(exfalso;omega)))|exact bq_|fail)
    refine aP (k+1) ?_ ⟨by omega,ht⟩ (show l.length - (k+1)<l.length - k by omega);simp[aG,aU,aC,aF,AV.fits,AC.fits,FB,aB]
 ·obtain rfl:k=l.length:=by omega
  rw[q_]at hf
  repeat' (first|(refine rg_ ?_;intro K hK)|(refine hq_ ?_;clear hK K)|refine ca_ ?_ ?_|refine sz_ (a3_ @aJ @aO @au) ?_|refine nv ?_|(refine c2_ ?_ ?_<;>(intro hb hb';try(exfalso;omega)))|exact bq_|fail)
  exact aS ⟨_,rfl,by rw[hf];rfl,trivial⟩
def Md :IC:=(zd_ [zz_ 2 (.mov (.k (.slice none 0 0)))] (zd_ [zz_ 7 (.brow true 3 1 0 false []),zw_ 3 7] (.seq (zd_ [zk_ 4 0] (.block 0 (.loop (.seq (zd_ [zw_ 8 4,zw_ 9 0,zf_ 10 false 9,zl_ 11 .lss 8 10] (.cond (.t 11) .skip (.exit 0))) (.seq (.block 1 (.seq (zd_ [zw_ 14 3,zw_ 15 0,zw_ 16 4,ze_ 17 1 15 16,zs_ 18 1 17,zp_ 19 85 14 18] (.cond (.t 19) (.exit 1) .skip)) (zd_ [zk_ 5 0] (.seq (.block 2 (.loop (.seq (.seq (.reg true [zw_ 20 5,zw_ 21 3,zf_ 22 false 21,zl_ 23 .lss 20 22,zw_ 24 23,zv_ 25 24 3,zv_ 26 24 5,zy_ 27 24 (.iad 1 (.t 25) (.t 26)),zy_ 28 24 (.load 1 false (.t 27)),zv_ 29 24 0,zv_ 30 24 4,zy_ 31 24 (.iad 1 (.t 29) (.t 30)),zy_ 32 24 (.load 1 false (.t 31)),zy_ 33 24 (.bin .lss (.t 28) (.t 32)),zh_ 34 24 33 false]) (.cond (.t 34) .skip (.exit 2))) (.block 3 (.reg false [zw_ 35 5,zm_ 36 .add 35 1,zw_ 5 36]))))) (zd_ [zz_ 37 (.brow true 3 1 0 false []),zw_ 38 3,zw_ 39 5,zz_ 40 (.lsl 1 (.t 38) none (some (.t 39))),zz_ 41 (.app 3 1 (.t 37) (.t 40)),zw_ 6 41] (zd_ [zw_ 42 6,zw_ 43 0,zw_ 44 4,ze_ 45 1 43 44,zs_ 46 1 45,zz_ 47 (.brow false 3 1 1 false [(.t 46)]),zz_ 48 (.app 3 1 (.t 42) (.t 47)),zw_ 6 48] (.reg false [zw_ 49 6,zw_ 50 3,zw_ 51 5,zz_ 52 (.lsl 1 (.t 50) (some (.t 51)) none),zz_ 53 (.app 3 1 (.t 49) (.t 52)),zw_ 3 53]))))))) (.reg false [zw_ 12 4,zm_ 13 .add 12 1,zw_ 4 13])))))) (zd_ [zw_ 54 3,zw_ 2 54] .ret))))
theorem OM :ak Tryz.prog (Tryz.f61.body.getD .skip)=some Md:=by kernel_rfl
theorem LU(n:Nat)(l:List Nat)(hb:∀x∈l,x<n)(hn:n≤1048576)(hl:l.length≤2199023255552):bZ Tryz.prog 61 [.sl (l.map ln)] ((jP n l).map ln) 3 1:=by
 refine fM (fn:=Tryz.f61) (t:=2) (hc:=OM) (h:= ?_);unfold Md;refine zb_ ?_;change AWP _ _ _ (st0 55 _);simp only[undef,stS,st0,stN,D.av,D.avN,dD,bf,dG,dF,dK,bV,bP,bM,aJ,aO,au,j_,o_,f_,d_,i_,a_,c_,m_,n_]
 repeat' (first|(refine hq_ ?_;clear hK K)|refine ca_ ?_ ?_|refine gq_ ?_|(refine c2_ ?_ ?_<;>(intro hb hb';try(exfalso;omega)))|refine sz_ (a3_ @aJ @aO @au) ?_|refine nv ?_|(refine rD ?_;intro K hK)|exact bq_|fail)
 refine aaX (X:=Nat×Nat) (fun q=> [.k,.d,.d,.v (.c false [.own 0 q.2]),.v (.c false [.raw (.int .i64 (q.1:Nat))])]) (fun q=> [⟨(jP n (l.take q.1)).map ln,3,1,q.2,true⟩]) (fun q bs=> []) (fun q=>q.1≤l.length) (fun q=>l.length - q.1) (0,0) [0] (s_ _) ?_ ?_
 ·simp[wW,yG,Bj,uH,AV.ren,AC.ren,AV.fits,AC.fits,FB,aB,Qh]
 rintro⟨i,v⟩ hi;have hi':i≤l.length:=hi;clear hi;simp only[FB,aB];by_cases hlt:i<l.length
 ·have hx:=hb l[i] (v_ hlt);have hsl:=xC n (fun k=>(l.take i).contains k);obtain⟨s,hs⟩:∃s,jP n (l.take i)=s:=⟨_,rfl⟩
  have hss:(jh n fun k=>(l.take i).contains k)=s:=hs;rw[hss]at hsl;rw[hs];cases hh:pJ s ((l[i]:Nat):Int)with
  | true=>
    have hnx:jP n (l.take (i+1))=s:=by rw[abG hlt hx (by rw[hs,← ku];exact hh),hs]
    repeat' (first|(refine hq_ ?_;clear hK K)|refine ca_ ?_ ?_|refine gq_ ?_|(refine c2_ ?_ ?_<;>(intro hb hb';try(exfalso;omega)))|(refine cg_ ?_;first|refine cT_ (iI s ((l[i]:Nat):Int) (by omega)) ?_)|refine sz_ (a4_ @aJ @aO @au hh) ?_|refine nv ?_|(refine rD ?_;intro K hK)|exact bq_|fail)
    all_goals
     refine Oa (i+1,v) [0] ?_ (show i+1≤l.length by omega) (show l.length - (i+1)<l.length - i by omega);simp[wW,yG,Bj,uH,AV.ren,AC.ren,AV.fits,AC.fits,FB,aB,hnx]
  | false=>
    have hc:(jP n (l.take i)).contains l[i]=false:=by rw[hs,← ku];exact hh
    repeat' (first|(refine hq_ ?_;clear hK K)|refine ca_ ?_ ?_|refine gq_ ?_|(refine c2_ ?_ ?_<;>(intro hb hb';try(exfalso;omega)))|(refine cg_ ?_;first|refine cT_ (iI s ((l[i]:Nat):Int) (by omega)) ?_)|refine sz_ (a4_ @aJ @aO @au hh) ?_|refine nv ?_|(refine rD ?_;intro K hK)|exact bq_|fail)
    refine aQ (X:=Nat) (fun q=> [.k,.d,.d,.k,.k,.v (.c false [.raw (.int .i64 (q:Nat))])]) (fun q=> [⟨s.map ln,3,1,v,true⟩]) (fun q bs=> []) (fun q=>q≤s.length∧∀(j:Nat) (h:j<q) (h2:j<s.length),s[j]<l[i]) (fun q=>s.length - q) 0 ⟨s_ _,fun j h=>by omega⟩ ?_ ?_
    ·simp[aG,aU,aC,aF,AV.fits,AC.fits,FB,aB]
    rintro pos ⟨hp,hlow⟩;simp only[FB,aB];have htk:(s.map ln).take s.length=s.map ln:=M_ (by simp);have fin:(∀(h:pos<s.length),l[i]≤s[pos])→(jP n (l.take (i+1))).map ln=(s.map ln).take pos++(ln l[i]::(s.map ln).drop pos):=fun h2=>by
     have h3:=abE (pos:=pos) hlt hx hc (by rw[hs];exact hp) (fun j h=>by have:=hlow j h (by omega);simpa only[hs]using this) (fun h=>by simp only[hs]at h⊢;exact h2 h);rw[hs]at h3;rw[← h3,K_,j_,List.map_take,a_e]
    repeat' (first|(refine hq_ ?_;clear hK K)|refine ca_ ?_ ?_|refine gq_ ?_|(refine c2_ ?_ ?_<;>(intro hb hb';try(exfalso;omega)))|(with_reducible refine afB ?_)|refine sz_ (a3_ @aJ @aO @au) ?_|refine nv ?_|(refine rD ?_;intro K hK)|exact bq_|fail)
    ·refine aP (pos+1) ?_ ⟨by omega,fun j hj h2=> ?_⟩ (show s.length - (pos+1)<s.length - pos by omega)
     ·simp[aG,aU,aC,aF,AV.fits,AC.fits,FB,aB]
     ·rcases a_f j pos with h3|h3
      ·exact hlow j h3 h2
      ·obtain rfl:j=pos:=by omega
       omega
    all_goals
     (have hmap:=fin (fun h=>by omega)
      refine Oa (i+1,3) [1] ?_ (show i+1≤l.length by omega) (show l.length - (i+1)<l.length - i by omega);simp[wW,yG,Bj,uH,AV.ren,AC.ren,AV.fits,AC.fits,FB,aB,hmap,htk,ln,li])
 ·obtain rfl:i=l.length:=by omega
  rw[q_]
  repeat' (first|(refine hq_ ?_;clear hK K)|refine ca_ ?_ ?_|refine gq_ ?_|(refine c2_ ?_ ?_<;>(intro hb hb';try(exfalso;omega)))|refine sz_ (a3_ @aJ @aO @au) ?_|refine nv ?_|(refine rD ?_;intro K hK)|exact bq_|fail)
  exact aS ⟨0,_,_,rfl,rfl,rfl,rfl,rfl,rfl,r_ rfl⟩
end
section
open List renaming length_cons→a_,take_succ_eq_append_getElem→b_,length_nil→c_,cons_append→d_,length_map→e_,replicate→f_,contains_iff_mem→g_,mem_append→h_,nil_append→i_,map_cons→j_,mem_singleton→k_,length_append→l_,map_nil→o_,getElem?_eq_getElem→p_,take_length→q_,mem_of_mem_drop→t_,length_drop→u_,getElem_mem→v_,mem_cons→x_,mem_append_left→y_,mem_map→B_,getElem?_eq_none→E_,mem_cons_of_mem→G_,getElem?_map→H_,getElem?_take_of_lt→I_,map_append→K_,append_nil→L_,take_of_length_le→M_,filterMap_append→N_,mem_iff_getElem→O_,mem_of_mem_take→P_,pairwise_cons→Q_,map_map→R_,nodup_append→S_,length_take→V_,any_append→X_,mem_range→Z_,nodup_nil→a_a,map_drop→a_e
open Nat renaming reduceAdd→m_,reduceSub→n_,zero_le→s_,le_refl→z_,lt_or_ge→a_f
open Or renaming inl→r_,inr→D_
open Bool renaming eq_iff_iff→w_,or_eq_true→W_
open Int renaming ofNat→A_
open Value renaming int→C_
open Lib renaming hid→F_
def zJ(l:List Int):List Int:=l.mergeSort fun x y=>decide (x≤y)
theorem uK(l:List Int):(zJ l).length=l.length:=by simp[zJ]
section
open Go.Sort
theorem OZ{w:World}{g n:Nat}{os:Array Obj}{cur:Array Value}{e:TypeId}{fr:Nat×Nat}(d:Array Int)(hb:w.heap[g]? =some (.cells cur e fr)):
 (grow (putRow (C_ .i64) (Sort.ahead w n) g 0 d) os).heap[g]? =some (.cells (putCells (C_ .i64) 0 d cur) e fr):=by
 have hg:g<w.heap.size:=(Array.getElem?_eq_some_iff.1 hb).1;rw[heap_grow_old _ _ (by simpa using hg)];simp[putRow,mapBlock,Sort.ahead,Array.getElem?_modify,hb,onCells]
theorem F8{w:World}{g n:Nat}{os:Array Obj}(d:Array Int):w.grownBy (grow (putRow (C_ .i64) (Sort.ahead w n) g 0 d) os) (some g):=by
 refine⟨rfl,rfl,rfl,by simp,fun k hk hne=> ?_⟩;rw[heap_grow_old _ _ (by simpa using hk)];have:g≠k:=fun e=>hne (by rw[e])
 simp[putRow,mapBlock,Sort.ahead,Array.getElem?_modify,this]
theorem Zw(cur:Array Value)(ts:List Int)(h:ts.length≤cur.size):(putCells (C_ .i64) 0 ts.toArray cur).toList.take ts.length=ts.map (C_ .i64):=by
 apply List.ext_getElem?;intro j;by_cases hj:j<ts.length
 ·rw[I_ hj,Array.getElem?_toList];simp[putCells,hj,show j<cur.size by omega]
 ·rw[List.getElem?_take_eq_none (by omega),E_ (by simp;omega)]
theorem NW(l:List Int)(g c base:Nat)(w:World)(h:fJ w base 3 1 (l.map li) [] (.slice (some ⟨g,0,none⟩) l.length c))(hn:l.length≤4194304):
 Calls Tryz.prog 99 #[.slice (some ⟨g,0,none⟩) l.length c] w fun e w'=>e= .returned (.tuple #[])∧fJ w' base 3 1 ((zJ l).map li) [] (.slice (some ⟨g,0,none⟩) l.length c)∧w.grownBy w' (some g):=by
 obtain⟨cs,⟨h1,h2⟩,h3,h4,h5⟩:=h;obtain⟨_,rfl⟩:=wK.1 h3;rw[e_]at h1 h2;rcases h2 with⟨h6,_⟩|⟨g',cap,cur,h6,h7,h8,h9,h10,h11,h12⟩
 ·injection h6 with h6
  cases h6
 ·injection h6 with h61 _ h63
  injection h61 with h61
  injection h61 with h61
  subst h61 h63;have hg:g<w.heap.size:=(Array.getElem?_eq_some_iff.1 h8).1;have hH:Go.Sort.Holds (C_ .i64) w g 0 l.toArray:=by
   intro j hj;have hj':j<l.length:=by simpa using hj
   have hc:cur[j]? =some (.int .i64 l[j]):=by
    have e:(cur.toList.take (l.length*1))[j]? =(l.map (C_ .i64))[j]? :=by rw[h12]
    rw[I_ (by omega),Array.getElem?_toList,H_,p_ hj']at e;exact e
   refine⟨?_,by simp[World.frozen?,h8]⟩;have e2:C_ .i64 l.toArray[j]! = .int .i64 l[j]:=by
    rw[getElem!_pos _ j hj];simp
   rw[e2];simpa[World.cell?,h8]using hc
  have hc:=Tryz.sort_Ints g 0 c l w hH hg (by omega);refine hc.mono ?_;rintro e w' ⟨rfl,n,os,rfl⟩;refine⟨rfl,⟨(zJ l).map (C_ .i64), ?_,wK.2 ⟨rfl,rfl⟩,gG.nil,fun _ _=>by simp⟩,F8 _⟩;rw[e_,uK];refine⟨by simp[uK],.inr ⟨g,c,_,rfl,h7,OZ _ h8,h9,h10,by simp[putCells,h11], ?_⟩⟩;have:=Zw cur (zJ l) (by rw[uK,h11];omega);rw[uK]at this;rw[Nat.mul_one];exact this
end
def jE(l:List Nat):Nat→List Nat
 |0=> []
 |k+1=>jE l k++(match l[k]? with|some x=>if(l.take k).contains x then []else [x]|none=> [])
theorem Bf(l:List Nat){k:Nat}(h:k<l.length):jE l (k+1)=jE l k++(if(l.take k).contains l[k]then []else [l[k]]):=by rw[jE,p_ h]
theorem vF(l:List Nat):∀k,k≤l.length→∀x,x∈jE l k↔x∈l.take k
 |0,_,x=>by simp[jE]
 | k +1,h,x=>by
   have hk:k<l.length:=by omega
   have ih:=vF l k (by omega) x;rw[Bf l hk,b_ hk,h_,h_,ih];cases hc:(l.take k).contains l[k]with
   | true=>
     rw[if_pos rfl];rw[g_]at hc;constructor
     ·rintro(h|h)
      ·exact r_ h
      ·simp at h
     ·rintro(h|h)
      ·exact r_ h
      ·rw[k_]at h;subst h;exact r_ hc
   |false=>rw[if_neg (by simp)]
theorem tZ(l:List Nat):∀k,k≤l.length→(jE l k).Nodup
 |0,_=>a_a
 | k +1,h=>by
   have hk:k<l.length:=by omega
   rw[Bf l hk];cases hc:(l.take k).contains l[k]with
   |true=>rw[if_pos rfl,L_];exact tZ l k (by omega)
   | false=>
     rw[if_neg (by simp),S_];refine⟨tZ l k (by omega),by simp,fun a ha b hb e=> ?_⟩;rw[k_]at hb;subst hb e;rw[vF l k (by omega),← g_]at ha;rw[ha]at hc;cases hc
theorem Y9(n:Nat)(l:List Nat)(hb:∀x∈l,x<n)(k:Nat)(hk:k≤l.length):(jE l k).length≤n:=
 qR (tZ l k hk) fun x hx=>hb x (P_ ((vF l k hk x).1 hx))
theorem ZA(n:Nat)(l:List Nat)(hb:∀x∈l,x<n):(zJ ((jE l l.length).map A_)).map li=(jP n l).map ln:=by
 have hperm:(zJ ((jE l l.length).map A_)).Perm ((jE l l.length).map A_):=List.mergeSort_perm _ _;have hsort:=List.pairwise_mergeSort (le:=fun x y:Int=>decide (x≤y)) (fun a b c h1 h2=>by simp at*;omega) (fun a b=>by simp;omega) ((jE l l.length).map A_);have hnd:(zJ ((jE l l.length).map A_)).Nodup:=by
  refine hperm.nodup_iff.2 ?_;exact(tZ l _ (z_ _)).map _ (fun a b hab e=>hab (Int.ofNat.inj e))
 have hm:∀z∈zJ ((jE l l.length).map A_),∃x∈l,z=(x:Int):=fun z hz=>by
  obtain⟨x,hx,rfl⟩:=B_.1 (hperm.mem_iff.1 hz);rw[vF l _ (z_ _),q_]at hx;exact⟨x,hx,rfl⟩
 have e:(zJ ((jE l l.length).map A_)).map Int.toNat=jP n l:=by
  refine Xm ?_ (fun x=> ?_)
  ·rw[List.pairwise_map];have h2:=hsort.and hnd;refine(List.Pairwise.imp_of_mem ?_ h2);intro a b ha hb' hab;obtain⟨x,_,rfl⟩:=hm a ha;obtain⟨y,_,rfl⟩:=hm b hb';have h3:=of_decide_eq_true hab.1;have h4:=hab.2;omega
  ·constructor
   ·intro hx;obtain⟨z,hz,rfl⟩:=B_.1 hx;obtain⟨y,hy,rfl⟩:=hm z hz;exact⟨by simpa using hb y hy,by simpa using hy⟩
   ·rintro⟨_,hx⟩;refine B_.2 ⟨(x:Int),hperm.mem_iff.2 (B_.2 ⟨x, ?_,rfl⟩),by simp⟩;rw[vF l _ (z_ _),q_];exact hx
 rw[← e,R_];refine List.map_congr_left fun z hz=> ?_
 obtain⟨x,_,rfl⟩:=hm z hz;rfl
theorem Af{H:Type}{P:Program}{e:TypeId}(he:P.underlying e=some .bool){v:Value}{z:DataW H×List MemPlace}(h:plainElem P e v=some z):∃b,v= .bool b∧z=(.lit (.bool b),[]):=by
 unfold plainElem at h;rw[he]at h;cases v<;>simp at h
 exact⟨_,rfl,h.symm⟩
def qQ(w:World)(b n:Nat)(l:List Nat):Prop:=∃D:DataW Unit,w.ownsMap Tryz.prog 3 (plainElem Tryz.prog 4) b n D∧Maps.IsMap D∧∀x:Nat,(Lit.int .i64 (x:Int)).wf=true→D.atKey (.int .i64 (x:Int)) (.lit (.bool false))= .lit (.bool (l.contains x))
def mt :TypeId:=93
theorem ain :Tryz.prog.underlying mt=some (.map 3 4):=by kernel_rfl
theorem zM :Tryz.prog.underlying 3=some (.int .i64):=by kernel_rfl
theorem WI :Tryz.prog.underlying 4=some .bool:=by kernel_rfl
theorem ahZ(w:World):(zeroValue 4).run Tryz.prog w= .ok (.bool false) w:=by kernel_rfl
theorem qQ.look{w:World}{b n:Nat}{l:List Nat}(h:qQ w b n l){x:Nat}(hx:(Lit.int .i64 (x:Int)).wf=true):(Instr.lookup mt (.map (some b)) (.int .i64 (x:Int)) false).run Tryz.prog w= .ok (.bool (l.contains x)) w:=by
 obtain⟨D,h1,h2,h3⟩:=h;obtain⟨v,ps,hrun,hv⟩:=h1.lookup (Maps.int_keyed zM) ain (ahZ w) (plainElem_bool WI false) (Maps.keyOf_int_mk zM hx);obtain⟨c,rfl,hc⟩:=Af WI hv;simp only[Prod.mk.injEq]at hc;rw[h3 x hx]at hc;have:c=l.contains x:=by have:=hc.1;simpa using this.symm
 rw[hrun,this]
theorem qQ.put{w:World}{b n:Nat}{l:List Nat}(h:qQ w b n l){x:Nat}(hx:(Lit.int .i64 (x:Int)).wf=true)(hn:n<maxLen):
 ∃w',(Instr.mapUpdate mt (.map (some b)) (.int .i64 (x:Int)) (.bool true)).run Tryz.prog w= .ok () w'∧qQ w' b (n+1) (l++ [x])∧w.grownBy w' (some b):=by
 obtain⟨D,h1,h2,h3⟩:=h;obtain⟨w',hrun,g1,g2⟩:=h1.update (Maps.int_keyed zM) ain hn (Maps.keyOf_int_mk zM hx) (plainElem_bool WI true);refine⟨w',hrun,⟨_,g1,h2.put _ _,fun y hy=> ?_⟩,g2⟩;by_cases e:y=x
 ·subst e;rw[Maps.atKey_put_same h2 (by simp[WideAt.IsKeyLit])];simp
 ·rw[Maps.atKey_put_other (fun h=>e (by simp only[Lit.int.injEq,true_and]at h;omega)),h3 y hy];have:(l++ [x]).contains y=l.contains y:=by
   rw[w_];simp[e]
  rw[this]
theorem qQ.mono{w:World}{b n m:Nat}{l:List Nat}(h:qQ w b n l)(hm:n≤m):qQ w b m l:=by
 obtain⟨D,h1,h2,h3⟩:=h;exact⟨D,h1.mono hm,h2,h3⟩
theorem qQ.kept{w w':World}{row:Option Nat}{b n:Nat}{l:List Nat}(h:qQ w b n l)(hg:w.grownBy w' row)(hne:some b≠row):qQ w' b n l:=by
 obtain⟨D,h1,h2,h3⟩:=h;exact⟨D,h1.kept hg hne,h2,h3⟩
theorem qQ.alloc{w:World}{b n:Nat}{l:List Nat}(h:qQ w b n l)(o:Obj):qQ (w.alloc o) b n l:=by
 obtain⟨D,h1,h2,h3⟩:=h;exact⟨D,h1.alloc o,h2,h3⟩
theorem qQ.congr{w:World}{b n:Nat}{l m:List Nat}(h:qQ w b n l)(hlm:∀x,l.contains x=m.contains x):qQ w b n m:=by
 obtain⟨D,h1,h2,h3⟩:=h;exact⟨D,h1,h2,fun x hx=>by rw[h3 x hx,hlm]⟩
theorem qQ.made(w:World):qQ (w.alloc (.map #[] 0)) w.heap.size 0 []:=⟨.map [],World.ownsMap_made w _ _ _,Maps.isMap_empty,fun x _=>by simp[DataW.atKey]⟩
theorem qQ.lt{w:World}{b n:Nat}{l:List Nat}(h:qQ w b n l):b<w.heap.size:=by
 obtain⟨D,h1,_⟩:=h;exact h1.lt
theorem fJ.grown{w w':World}{base:Nat}{e:TypeId}{s:Nat}{l:List D}{v:Value}{row:Option Nat}(h:fJ w base e s l [] v)(hg:w.grownBy w' row)(hne:v.ownBlock=Option.none∨v.ownBlock≠row):fJ w' base e s l [] v:=by
 obtain⟨cs,h1,h2,h3,h4⟩:=h;exact⟨cs,h1.kept hg hne,h2.same (fun b hb=>by simp at hb) hg.size,gG.nil,fun _ _=>by simp⟩
theorem afD{l:List Nat}:∀d∈l.map ln,d.one:=fun d h=>by obtain⟨x,_,rfl⟩:=B_.1 h;rfl
theorem Vh{l:List Nat}:∀d∈l.map ln,d.sz=1:=fun d h=>by obtain⟨_,_,rfl⟩:=B_.1 h;rfl
theorem ahi{x:Nat}(h:x≤1048576):(Lit.int .i64 (x:Int)).wf=true:=by
 have h1:IntKind.i64.min≤(x:Int):=by simp[IntKind.min,IntKind.signed,IntKind.bits]
 have h2:(x:Int)≤IntKind.i64.max:=by simp[IntKind.max,IntKind.signed,IntKind.bits];omega
 simp[Lit.wf,h1,h2];omega
theorem U0(n:Nat)(l:List Nat)(hbn:∀x∈l,x<n)(hn1:n≤1048576)(hll:l.length≤2199023255552)(fp:List Nat)(v:Value)(w:World)(hS:Sl w (l.map ln) fp v):
 Calls Tryz.prog 75 #[v] w (uo false ((jP n l).map ln) 3 1 w):=by
 obtain⟨A,c,rfl,hl,hc⟩:=hS.jk;have hm:l.length≤9223372036854775807:=by omega
 have hn':=F_ hll;have hn1':=F_ hn1;clear hl hc hll hn1;have hmm:= @run_makeMap Tryz.prog
 go_enter Tryz.func75,Tryz.ntmps75
 go_wp2_with fail
 go_loopw [4,11] (fun nv iv wr=>∃(k g c1:Nat),k≤l.length∧iv= .int .i64 k∧nv= .slice (some ⟨g,0,none⟩) (jE l k).length c1∧fJ wr (w.heap.size+1) 3 1 ((jE l k).map ln) [] nv∧qQ wr w.heap.size k (l.take k)∧Below w.heap.size w wr) (fun _ iv _=>l.length - (intOf iv).toNat)
 case atStart=>exact⟨0,_,_,by omega,rfl,rfl,fJ.lit (by simp) (z_ _),(qQ.made w).alloc _,((Below.refl _ _).alloc (z_ _) _).alloc (by simp) _⟩
 case round=>
  obtain⟨k,g,c1,hk,rfl,rfl,ho,hse,hb⟩:=hrel;by_cases hlt:k<l.length
  ·have hd:(l.map ln)[k]? =some (ln l[k]):=by rw[H_,p_ hlt];rfl
   obtain⟨b,o,fi,ci,rfl,hbb,hbf,hri,hfi,hat⟩:=hS.elem Vh hd;obtain⟨rfl,rfl⟩:=hri;simp only[Nat.mul_one]at hat;have q0:wr.cell? ⟨b,o+k,none⟩=some (.int .i64 ((l[k]:Nat):Int)):=(hb.cell (p:=⟨b,o+k,none⟩) hbb).trans hat.head;have hsu:=F_ (Bf l hlt);have hfl:=F_ (Y9 n l hbn k hk);have hwf:=F_ (ahi (x:=l[k]) (by have:=hbn l[k] (v_ hlt);have:=hn1'.out;omega));have hlook:=hse.look hwf.out;clear hat hd;cases e1:(l.take k).contains l[k]with
   | true=>
     rw[e1]at hlook;have e2:=F_ (show jE l (k+1)=jE l k by rw[hsu.out,if_pos e1,L_]);have hse2:qQ wr w.heap.size (k+1) (l.take (k+1)):=(hse.mono (Nat.le_succ k)).congr (fun x=>by
      rw[b_ hlt,w_];simp only[g_,h_,k_];rw[g_]at e1;exact⟨r_,fun h=>h.elim id (fun h=>h▸e1)⟩)
     unfold mt at hlook;clear e1
     go_wp2_with fail
     go_roundw
     case rel=>exact⟨k+1,g,c1,by omega,by go_num,by rw[e2.out],by rw[e2.out];exact ho,hse2,hb⟩
     case measure=>(simp[intOf]<;>omega)
   | false=>
     rw[e1]at hlook;have e2:=F_ (show jE l (k+1)=jE l k++ [l[k]] by rw[hsu.out,if_neg (by rw[e1];simp)]);obtain⟨w1,hput,hse1,hg1⟩:=hse.put hwf.out (by have:=hn'.out;unfold maxLen;omega);have ho1:=ho.grown hg1 (D_ (fun e=>by have:=(ho.ge w.heap.size e).1;omega));have hb1:Below w.heap.size w w1:=hb.grown hg1 hb.size (fun b h=>by have h:=Option.some.inj h;omega);have hgne:∀g',(Value.slice (some ⟨g,0,none⟩) (jE l k).length c1).ownBlock=some g'→w.heap.size≠g':=fun g' h e=>by have:=(ho.ge g' h).1;omega
     have hs1:w.heap.size<w1.heap.size:=hse1.lt;have htk:l.take (k+1)=l.take k++ [l[k]]:=b_ hlt;have htk':=F_ htk;rw[← htk]at hse1;unfold mt at hlook hput;clear e1 htk hse
     go_wp2_with (at_builtin;refine mF rfl ag7 (.tmp 21) (.tmp 23) rfl (w.heap.size+1) _ (by rfl) _ [] (ho1.below ((Below.refl _ _).alloc (z_ _) _)) ([l[k]].map ln) [] _ (by rfl) (Src.one (Row.Ot rfl) ⟨rfl,rfl⟩) afD Vh oC tY (by have:=hfl.out;have:=hn1'.out;simp;omega) (by simp;omega) ?_;intro v1 w2 ho2 hg2 hat2)
     rw[← K_,← e2.out]at ho2;have hlen:0<(jE l (k+1)).length:=by rw[e2.out];simp
     obtain⟨g5,c5,hv5⟩:=ho2.GH (by rw[e_];exact hlen);rw[e_]at hv5;subst hv5;have L3:Below w.heap.size w w2:=jH (hb1.alloc (Nat.le_of_lt hs1) _) hg2 (by simp;omega) (fun g' h=>by have:=(ho1.ge g' h).1;omega);have hse2:=(hse1.alloc _).kept hg2 (fun e=>hgne _ e.symm rfl)
     go_roundw
     case rel=>exact⟨k+1,g5,c5,by omega,by go_num,rfl,ho2,hse2,L3⟩
     case measure=>(simp[intOf]<;>omega)
  ·have hf:=F_ (show k=l.length by omega);have hfl:=Y9 n l hbn k hk;have ho':fJ wr (w.heap.size+1) 3 1 (((jE l k).map A_).map li) [] (.slice (some ⟨g,0,none⟩) ((jE l k).map A_).length c1):=by
    rw[e_,R_];exact ho
   have hs:=NW ((jE l k).map A_) g c1 (w.heap.size+1) wr ho' (by rw[e_];have:=hn1'.out;omega);rw[e_]at hs;clear hfl ho'
   go_wp2_with (go_at_call 99;refine hs.mono ?_;rintro e w2 ⟨rfl,ho2,hg2⟩)
   have L2:Below w.heap.size w w2:=jH (v:= .slice (some ⟨g,0,none⟩) 0 0) hb hg2 hb.size (fun g' h=>by have h:=Option.some.inj h;subst h;have:=(ho.ge g rfl).1;show w.heap.size≤g;omega)
   go_ret
   have e:=hf.out;clear hf;subst e;have hset:=ZA n l hbn;have hlen2:(jP n l).length=(jE l l.length).length:=by
    have:=congrArg List.length hset;rw[e_,e_,uK,e_]at this;exact this.symm
   rw[hset,← hlen2]at ho2;obtain⟨cs,q1,q2,q3,q4⟩:=ho2.mono (Nat.le_succ _);rw[e_]at q1;exact⟨_,cs,[],by rw[← hlen2];rfl,by rw[e_];exact bF.of q1,q2,fun b hb=>by simp at hb,L2⟩
theorem Le(n:Nat)(l:List Nat)(hbn:∀x∈l,x<n)(hn1:n≤1048576)(hll:l.length≤2199023255552):bZ Tryz.prog 75 [.sl (l.map ln)] ((jP n l).map ln) 3 1:=fun w vs hr _=>by
 obtain⟨v,rfl,h1⟩:=Qr hr;obtain⟨fp,hS⟩:=xI h1;exact U0 n l hbn hn1 hll fp v w hS
end
section
open List renaming length_cons→a_,take_succ_eq_append_getElem→b_,length_nil→c_,cons_append→d_,length_map→e_,replicate→f_,contains_iff_mem→g_,mem_append→h_,nil_append→i_,map_cons→j_,mem_singleton→k_,length_append→l_,map_nil→o_,getElem?_eq_getElem→p_,take_length→q_,mem_of_mem_drop→t_,length_drop→u_,getElem_mem→v_,mem_cons→x_,mem_append_left→y_,mem_map→B_,getElem?_eq_none→E_,mem_cons_of_mem→G_,getElem?_map→H_,getElem?_take_of_lt→I_,map_append→K_,append_nil→L_,take_of_length_le→M_,filterMap_append→N_,mem_iff_getElem→O_,mem_of_mem_take→P_,pairwise_cons→Q_,map_map→R_,nodup_append→S_,length_take→V_,any_append→X_,mem_range→Z_,nodup_nil→a_a,map_drop→a_e
open Nat renaming reduceAdd→m_,reduceSub→n_,zero_le→s_,le_refl→z_,lt_or_ge→a_f
open Or renaming inl→r_,inr→D_
open Bool renaming eq_iff_iff→w_,or_eq_true→W_
open Int renaming ofNat→A_
open Value renaming int→C_
open Lib renaming hid→F_
attribute [local irreducible] sw sd sn
theorem JF(l:List GPart)(nm:ByteArray):∀(k:Nat) (z:Int),z∈dZ l nm k→∃j:Nat,j<k∧j<l.length∧z=(j:Int)
 |0,z,h=>by simp[dZ]at h
 | k +1,z,h=>by
   rw[dZ]at h;rcases h_.1 h with h|h
   ·obtain⟨j,h1,h2,h3⟩:=JF l nm k z h;exact⟨j,by omega,h2,h3⟩
   ·split at h
    ·next x hx=>
     split at h
     ·simp at h;exact⟨k,by omega,(List.getElem?_eq_some_iff.1 hx).1,h⟩
     ·simp at h
    ·simp at h
def rv(l:List GPart)(s:ByteArray):Int:=FT (dZ l s l.length)
theorem abO(l:List GPart)(s:ByteArray)(h:0≤rv l s):(rv l s).toNat<l.length:=by
 unfold rv FT at h⊢;split
 ·next e=>rw[e]at h;simp at h
 ·next z e=>
  obtain⟨j,_,h2,rfl⟩:=JF l s l.length z (by rw[e];simp);simpa using h2
 ·next h1 h2=>
  exfalso;split at h
  ·simp at h
  ·next z e=>exact h2 z e
  ·simp at h
def l7(l:List GPart)(us:List ByteArray):List Nat:=us.filterMap fun s=>if 0≤rv l s then some (rv l s).toNat else none
theorem Xq(l:List GPart)(us:List ByteArray){k:Nat}(h:k<us.length)(e:0≤rv l us[k]):l7 l (us.take (k+1))=l7 l (us.take k)++ [(rv l us[k]).toNat]:=by
 unfold l7;rw[b_ h,N_];simp[e]
theorem Xr(l:List GPart)(us:List ByteArray){k:Nat}(h:k<us.length)(e:¬0≤rv l us[k]):l7 l (us.take (k+1))=l7 l (us.take k):=by
 unfold l7;rw[b_ h,N_];simp[e]
theorem Qm(l:List GPart)(us:List ByteArray):∀x∈l7 l us,x<l.length:=by
 intro x hx;unfold l7 at hx;obtain⟨s,_,hs⟩:=List.mem_filterMap.1 hx;split at hs
 ·next h=>injection hs with hs;subst hs;exact abO l s h
 ·cases hs
theorem DV(l:List GPart)(us:List ByteArray)(k:Nat):(l7 l (us.take k)).length≤us.length:=by
 unfold l7;refine Nat.le_trans (List.length_filterMap_le _ _) ?_;rw[V_];omega
def du(l:List GPart)(i:Nat):List Nat:=match l[i]? with|some x=>jP l.length (l7 l (cZ x))|none=> []
def duI(l:List GPart)(z:Int):List Nat:=if 0≤z then du l z.toNat else []
theorem aec(l:List GPart){i:Nat}(h:i<l.length):du l i=jP l.length (l7 l (cZ l[i])):=by unfold du;rw[p_ h]
theorem wu(l:List GPart)(i:Nat):duI l (i:Int)=du l i:=by simp[duI]
theorem aeb(l:List GPart)(i:Nat):∀x∈du l i,x<l.length:=by
 intro x hx;unfold du at hx;split at hx
 ·exact(xP.1 hx).1
 ·simp at hx
theorem JC(l:List GPart)(i:Nat):(du l i).length≤l.length:=by
 unfold du;split
 ·exact xC _ _
 ·simp
theorem Df(l:List GPart)(z:Int):(duI l z).length≤l.length:=by
 unfold duI;split
 ·exact JC _ _
 ·simp
theorem aed(l:List GPart)(z:Int):∀x∈duI l z,x<l.length:=by
 intro x hx;unfold duI at hx;split at hx
 ·exact aeb _ _ x hx
 ·simp at hx
def inB(z a b:Int):Bool:=decide (a≤z) && decide (z≤b)
def usI(l:List GPart)(z:Int):List Nat:=jh l.length fun k=>pJ (du l k) z
theorem yL(k:Nat)(p:Nat→Bool):jh (k+1) p=jh k p++(if p k then [k]else []):=by
 unfold jh;rw[List.range_succ,List.filter_append];congr 1;cases h:p k<;>simp[h]
def YB :IC:=(zd_ [zj_ 6 false] (zd_ [zw_ 7 0,zw_ 8 1,zl_ 9 .geq 7 8,zw_ 10 9,zv_ 11 10 0,zv_ 12 10 2,zy_ 13 10 (.bin .leq (.t 11) (.t 12)),zh_ 14 10 13 false,zw_ 6 14] .ret))
theorem VU :ak Tryz.prog (Tryz.f60.body.getD .skip)=some YB:=by kernel_rfl
theorem yR(z a b:Int):aI Tryz.prog 60 [li z,li a,li b] (.c false [.raw (.bool (inB z a b))]):=by
 refine aY (fn:=Tryz.f60) (t:=6) (hc:=VU) (h:= ?_);unfold YB;refine zb_ ?_;change AWP _ _ _ (st0 15 _);simp only[undef,stS,st0,stN,D.av,D.avN,dD,bf,dG,dF,dK,bV,bP,bM,aJ,aO,au,GExpr.aV,GExpr.aK,GExpr.aW,GExpr.el,GPart.aV,GPart.aK,GPart.aW,GPart.el,j_,o_,f_,d_,i_,a_,c_,m_,n_]
 repeat' (first|(refine rg_ ?_;intro K hK)|(refine hq_ ?_;clear hK K)|refine ca_ ?_ ?_|refine gq_ ?_|(refine c2_ ?_ ?_<;>(intro hb hb';try(exfalso;omega)))|refine sz_ (a5_ @aJ @aO @au @GExpr.el @GPart.el) ?_|refine nv ?_|exact bq_|fail)
 all_goals exact aS ⟨_,rfl,by simp[inB, *];rfl,trivial⟩
def Jg :IC:=(zd_ [zz_ 4 (.mov (.k (.slice none 0 0)))] (zd_ [zz_ 9 (.brow true 3 1 0 false []),zw_ 5 9] (.seq (zd_ [zw_ 10 1,zw_ 11 0,zf_ 12 false 11,zm_ 13 .sub 12 1,zz_ 14 (.call 60 [(.t 10),(.k (.int .i64 0)),(.t 13)]),zz_ 15 (.not (.t 14))] (.cond (.t 15) (zd_ [zw_ 16 5,zw_ 4 16] .ret) .skip)) (zd_ [zw_ 17 0,zw_ 18 1,ze_ 19 14 17 18,zr_ 20 14 19,zq_ 21 35 20,zw_ 6 21] (.seq (zd_ [zk_ 7 0] (.block 0 (.loop (.seq (zd_ [zw_ 22 7,zw_ 23 6,zf_ 24 false 23,zl_ 25 .lss 22 24] (.cond (.t 25) .skip (.exit 0))) (.seq (.block 1 (zd_ [zw_ 28 0,zw_ 29 6,zw_ 30 7,ze_ 31 1 29 30,zs_ 32 1 31,zp_ 33 24 28 32,zw_ 8 33] (zd_ [zw_ 34 8,zm_ 35 .geq 34 0] (.cond (.t 35) (.reg false [zw_ 36 5,zw_ 37 8,zz_ 38 (.brow false 3 1 1 false [(.t 37)]),zz_ 39 (.app 3 1 (.t 36) (.t 38)),zw_ 5 39]) .skip)))) (.reg false [zw_ 26 7,zm_ 27 .add 26 1,zw_ 7 27])))))) (zd_ [zw_ 40 5,zq_ 41 61 40,zw_ 4 41] .ret))))))
theorem KO :ak Tryz.prog (Tryz.f19.body.getD .skip)=some Jg:=by kernel_rfl
theorem iT(l:List GPart)(z:Int)(hw:l.length+D.wts (l.map GPart.toD)≤1048576):bZ Tryz.prog 19 [.sl (l.map GPart.toD),li z] ((duI l z).map ln) 3 1:=by
 have hn:l.length≤1048576:=by omega
 refine wE (fn:=Tryz.f19) (t:=4) (hc:=KO) (h:= ?_);unfold Jg;refine zb_ ?_;change AWP _ _ _ (st0 42 _);simp only[undef,stS,st0,stN,D.av,D.avN,dD,bf,dG,dF,dK,bV,bP,bM,aJ,aO,au,GExpr.aV,GExpr.aK,GExpr.aW,GExpr.el,GPart.aV,GPart.aK,GPart.aW,GPart.el,j_,o_,f_,d_,i_,a_,c_,m_,n_];cases hin:inB z 0 ((l.length:Int) - 1)with
 | false=>
   have hz0:duI l z= []:=by
    unfold duI;split
    ·have:¬z.toNat<l.length:=by simp[inB]at hin;omega
     unfold du;rw[E_ (by omega)]
    ·rfl
   rw[hz0]
   repeat' (first|(refine rg_ ?_;intro K hK)|(refine hq_ ?_;clear hK K)|refine ca_ ?_ ?_|(refine cg_ ?_;first|refine cT_ (yR z 0 ((l.length:Int) - 1)) ?_)|refine sz_ (a6_ @aJ @aO @au @GExpr.el @GPart.el hin) ?_|refine nv ?_|(refine c2_ ?_ ?_<;>(intro hb hb';try(exfalso;omega)))|exact bq_|fail)
   exact JB rfl rfl rfl rfl rfl rfl (r_ rfl)
 | true=>
   have h0:0≤z:=by simp[inB]at hin;omega
   have hlt:z.toNat<l.length:=by simp[inB]at hin;omega
   have hdu:duI l z=jP l.length (l7 l (cZ l[z.toNat])):=by unfold duI;rw[if_pos h0,aec l hlt]
   have hul:=La l[z.toNat] (Gv hw hlt);rw[hdu]
   repeat' (first|(refine rg_ ?_;intro K hK)|(refine hq_ ?_;clear hK K)|refine ca_ ?_ ?_|(refine cg_ ?_;first|refine cT_ (yR z 0 ((l.length:Int) - 1)) ?_|refine cT_ ((G5 l[z.toNat] (Gv hw hlt)).to (Ba _)) ?_)|refine sz_ (a6_ @aJ @aO @au @GExpr.el @GPart.el hin) ?_|refine nv ?_|(refine c2_ ?_ ?_<;>(intro hb hb';try(exfalso;omega)))|exact bq_|fail)
   refine aQ (X:=Nat×Nat) (fun q=> [.k,.d,.d,.d,.d,.v (.c false [.own 0 q.2]),.k,.v (.c false [.raw (.int .i64 (q.1:Nat))])]) (fun q=> [⟨(l7 l ((cZ l[z.toNat]).take q.1)).map ln,3,1,q.2,true⟩]) (fun q bs=>bs) (fun q=>q.1≤(cZ l[z.toNat]).length) (fun q=>(cZ l[z.toNat]).length - q.1) (0,0) (s_ _) ?_ ?_
   ·simp[aG,aU,aC,aF,AV.fits,AC.fits,FB,aB,l7]
   rintro⟨k,v⟩ hk;have hk':k≤(cZ l[z.toNat]).length:=hk;clear hk;have hrl:=DV l (cZ l[z.toNat]) k;simp only[FB,aB];by_cases hlk:k<(cZ l[z.toNat]).length
   ·have hrv:FT (dZ l (cZ l[z.toNat])[k] l.length)=rv l (cZ l[z.toNat])[k]:=rfl;by_cases hr:0≤rv l (cZ l[z.toNat])[k]
    ·have hs:=Xq l (cZ l[z.toNat]) hlk hr;have hlv:=abO l _ hr;have hcast:((rv l (cZ l[z.toNat])[k]).toNat:Int)=rv l (cZ l[z.toNat])[k]:=by omega
     repeat' (first|(refine rg_ ?_;intro K hK)|(refine hq_ ?_;clear hK K)|refine ca_ ?_ ?_|(refine cg_ ?_;first|refine cT_ (xG l (cZ l[z.toNat])[k] hn) ?_)|refine sz_ (a6_ @aJ @aO @au @GExpr.el @GPart.el hrv) ?_|refine nv ?_|(refine c2_ ?_ ?_<;>(intro hb hb';try(exfalso;omega)))|exact bq_|fail)
     all_goals first
      |(simp only[e_,l_,a_,c_];omega)
      | (refine aP (k+1,v+1) ?_ (show k+1≤(cZ l[z.toNat]).length by omega) (show(cZ l[z.toNat]).length - (k+1)<(cZ l[z.toNat]).length - k by omega)
         simp[aG,aU,aC,aF,AV.fits,AC.fits,FB,aB,hs,ln,li,hcast])
    ·have hs:=Xr l (cZ l[z.toNat]) hlk hr
     repeat' (first|(refine rg_ ?_;intro K hK)|(refine hq_ ?_;clear hK K)|refine ca_ ?_ ?_|(refine cg_ ?_;first|refine cT_ (xG l (cZ l[z.toNat])[k] hn) ?_)|refine sz_ (a6_ @aJ @aO @au @GExpr.el @GPart.el hrv) ?_|refine nv ?_|(refine c2_ ?_ ?_<;>(intro hb hb';try(exfalso;omega)))|exact bq_|fail)
     all_goals first
      |(simp only[e_,l_,a_,c_];omega)
      | (refine aP (k+1,v) ?_ (show k+1≤(cZ l[z.toNat]).length by omega) (show(cZ l[z.toNat]).length - (k+1)<(cZ l[z.toNat]).length - k by omega)
         simp[aG,aU,aC,aF,AV.fits,AC.fits,FB,aB,hs])
   ·obtain rfl:k=(cZ l[z.toNat]).length:=by omega
    rw[q_]at hrl⊢
    repeat' (first|(refine rg_ ?_;intro K hK)|(refine hq_ ?_;clear hK K)|refine ca_ ?_ ?_|(refine cg_ ?_;first|(refine dA (LU l.length (l7 l (cZ l[z.toNat])) (Qm l _) hn (by omega)) (aO _) ?_ ?_))|refine sz_ (a5_ @aJ @aO @au @GExpr.el @GPart.el) ?_|refine nv ?_|(refine c2_ ?_ ?_<;>(intro hb hb';try(exfalso;omega)))|exact bq_|fail)
    exact JB rfl rfl rfl rfl rfl rfl (r_ rfl)
def Jh :IC:=(zd_ [zz_ 4 (.mov (.k (.slice none 0 0)))] (.seq (zd_ [zw_ 9 1,zm_ 10 .lss 9 0,zw_ 11 10,zu_ 12 11 1,zu_ 13 11 0,zx_ 14 11 (.len false (.t 13)),zx_ 15 11 (.bin .geq (.t 12) (.t 14)),zg_ 16 11 true 15] (.cond (.t 16) (zd_ [zz_ 4 (.mov (.k (.slice none 0 0)))] .ret) .skip)) (zd_ [zz_ 17 (.brow true 3 1 0 false []),zw_ 5 17] (.seq (zd_ [zw_ 18 0,zw_ 19 1,ze_ 20 14 18 19,zr_ 21 14 20,zq_ 22 66 21,zf_ 23 false 22,zk_ 24 0] (.block 0 (.loop (zd_ [zl_ 25 .lss 24 23] (.seq (.cond (.t 25) .skip (.exit 0)) (.seq (.block 1 (zd_ [ze_ 26 1 22 24,zs_ 27 1 26,zw_ 7 27] (zd_ [zw_ 28 0,zw_ 29 7,zp_ 30 22 28 29,zw_ 8 30] (zd_ [zw_ 31 8,zm_ 32 .geq 31 0] (.cond (.t 32) (.reg false [zw_ 33 5,zw_ 34 8,zz_ 35 (.brow false 3 1 1 false [(.t 34)]),zz_ 36 (.app 3 1 (.t 33) (.t 35)),zw_ 5 36]) .skip))))) (.reg false [zm_ 37 .add 24 1,zw_ 24 37]))))))) (zd_ [zw_ 38 5,zq_ 39 75 38,zw_ 4 39] .ret)))))
theorem KP :ak Tryz.prog (Tryz.f41.body.getD .skip)=some Jh:=by kernel_rfl
theorem rX(l:List GPart)(z:Int)(hw:l.length+D.wts (l.map GPart.toD)≤1048576):bZ Tryz.prog 41 [.sl (l.map GPart.toD),li z] ((duI l z).map ln) 3 1:=by
 have hn:l.length≤1048576:=by omega
 refine wE (fn:=Tryz.f41) (t:=4) (hc:=KP) (h:= ?_);unfold Jh;refine zb_ ?_;change AWP _ _ _ (st0 40 _);simp only[undef,stS,st0,stN,D.av,D.avN,dD,bf,dG,dF,dK,bV,bP,bM,aJ,aO,au,GExpr.aV,GExpr.aK,GExpr.aW,GExpr.el,GPart.aV,GPart.aK,GPart.aW,GPart.el,j_,o_,f_,d_,i_,a_,c_,m_,n_];by_cases hlt0:¬(0≤z∧z.toNat<l.length)
 ·have hz0:duI l z= []:=by
   unfold duI;split
   ·have:¬z.toNat<l.length:=by omega
    unfold du;rw[E_ (by omega)]
   ·rfl
  rw[hz0]
  repeat' (first|(refine rg_ ?_;intro K hK)|(refine hq_ ?_;clear hK K)|refine ca_ ?_ ?_|refine gq_ ?_|(refine c2_ ?_ ?_<;>(intro hb hb';try(exfalso;omega)))|refine sz_ (a5_ @aJ @aO @au @GExpr.el @GPart.el) ?_|refine nv ?_|exact bq_|fail)
  all_goals exact adR rfl
 ·have h0:0≤z:=by omega
  have hlt:z.toNat<l.length:=by omega
  have hdu:duI l z=jP l.length (l7 l (cZ l[z.toNat])):=by unfold duI;rw[if_pos h0,aec l hlt]
  have hul:=La l[z.toNat] (Gv hw hlt);rw[hdu]
  repeat' (first|(refine rg_ ?_;intro K hK)|(refine hq_ ?_;clear hK K)|refine ca_ ?_ ?_|refine gq_ ?_|(refine c2_ ?_ ?_<;>(intro hb hb';try(exfalso;omega)))|(refine cg_ ?_;first|refine cT_ ((G6 l[z.toNat] (Gv hw hlt)).to (Ba _)) ?_)|refine sz_ (a5_ @aJ @aO @au @GExpr.el @GPart.el) ?_|refine nv ?_|exact bq_|fail)
  refine aQ (X:=Nat×Nat) (fun q=> [.k,.d,.d,.d,.d,.v (.c false [.own 0 q.2]),.d,.d,.d,.d,.d,.d,.d,.d,.d,.d,.d,.d,.d,.d,.d,.d,.k,.k,.v (.c false [.raw (.int .i64 (q.1:Nat))])]) (fun q=> [⟨(l7 l ((cZ l[z.toNat]).take q.1)).map ln,3,1,q.2,true⟩]) (fun q bs=>bs) (fun q=>q.1≤(cZ l[z.toNat]).length) (fun q=>(cZ l[z.toNat]).length - q.1) (0,0) (s_ _) ?_ ?_
  ·simp[aG,aU,aC,aF,AV.fits,AC.fits,FB,aB,l7]
  rintro⟨k,v⟩ hk;have hk':k≤(cZ l[z.toNat]).length:=hk;clear hk;have hrl:=DV l (cZ l[z.toNat]) k;simp only[FB,aB];by_cases hlk:k<(cZ l[z.toNat]).length
  ·have hrv:FT (dZ l (cZ l[z.toNat])[k] l.length)=rv l (cZ l[z.toNat])[k]:=rfl;by_cases hr:0≤rv l (cZ l[z.toNat])[k]
   ·have hs:=Xq l (cZ l[z.toNat]) hlk hr;have hlv:=abO l _ hr;have hcast:((rv l (cZ l[z.toNat])[k]).toNat:Int)=rv l (cZ l[z.toNat])[k]:=by omega
    repeat' (first|(refine rg_ ?_;intro K hK)|(refine hq_ ?_;clear hK K)|refine ca_ ?_ ?_|refine gq_ ?_|(refine c2_ ?_ ?_<;>(intro hb hb';try(exfalso;omega)))|(refine cg_ ?_;first|refine cT_ (xH l (cZ l[z.toNat])[k] hn) ?_)|refine sz_ (a6_ @aJ @aO @au @GExpr.el @GPart.el hrv) ?_|refine nv ?_|exact bq_|fail)
    all_goals first
     |(simp only[e_,l_,a_,c_];omega)
     | (refine aP (k+1,v+1) ?_ (show k+1≤(cZ l[z.toNat]).length by omega) (show(cZ l[z.toNat]).length - (k+1)<(cZ l[z.toNat]).length - k by omega)
        simp[aG,aU,aC,aF,AV.fits,AC.fits,FB,aB,hs,ln,li,hcast])
   ·have hs:=Xr l (cZ l[z.toNat]) hlk hr
    repeat' (first|(refine rg_ ?_;intro K hK)|(refine hq_ ?_;clear hK K)|refine ca_ ?_ ?_|refine gq_ ?_|(refine c2_ ?_ ?_<;>(intro hb hb';try(exfalso;omega)))|(refine cg_ ?_;first|refine cT_ (xH l (cZ l[z.toNat])[k] hn) ?_)|refine sz_ (a6_ @aJ @aO @au @GExpr.el @GPart.el hrv) ?_|refine nv ?_|exact bq_|fail)
    all_goals first
     |(simp only[e_,l_,a_,c_];omega)
     | (refine aP (k+1,v) ?_ (show k+1≤(cZ l[z.toNat]).length by omega) (show(cZ l[z.toNat]).length - (k+1)<(cZ l[z.toNat]).length - k by omega)
        simp[aG,aU,aC,aF,AV.fits,AC.fits,FB,aB,hs])
  ·obtain rfl:k=(cZ l[z.toNat]).length:=by omega
   rw[q_]at hrl⊢
   repeat' (first|(refine rg_ ?_;intro K hK)|(refine hq_ ?_;clear hK K)|refine ca_ ?_ ?_|refine gq_ ?_|(refine c2_ ?_ ?_<;>(intro hb hb';try(exfalso;omega)))|(refine cg_ ?_;first|(refine dA (Le l.length (l7 l (cZ l[z.toNat])) (Qm l _) hn (by omega)) (aO _) ?_ ?_))|refine sz_ (a5_ @aJ @aO @au @GExpr.el @GPart.el) ?_|refine nv ?_|exact bq_|fail)
   exact JB rfl rfl rfl rfl rfl rfl (r_ rfl)
def IQ :IC:=(zd_ [zz_ 4 (.mov (.k (.slice none 0 0)))] (zd_ [zz_ 7 (.brow true 3 1 0 false []),zw_ 5 7] (.seq (zd_ [zk_ 6 0] (.block 0 (.loop (.seq (zd_ [zw_ 8 6,zw_ 9 0,zf_ 10 false 9,zl_ 11 .lss 8 10] (.cond (.t 11) .skip (.exit 0))) (.seq (.block 1 (zd_ [zw_ 14 0,zw_ 15 6,zp_ 16 19 14 15,zw_ 17 1,zp_ 18 85 16 17] (.cond (.t 18) (.reg false [zw_ 19 5,zw_ 20 6,zz_ 21 (.brow false 3 1 1 false [(.t 20)]),zz_ 22 (.app 3 1 (.t 19) (.t 21)),zw_ 5 22]) .skip))) (.reg false [zw_ 12 6,zm_ 13 .add 12 1,zw_ 6 13])))))) (zd_ [zw_ 23 5,zw_ 4 23] .ret))))
theorem KE :ak Tryz.prog (Tryz.f106.body.getD .skip)=some IQ:=by kernel_rfl
theorem Kr(l:List GPart)(z:Int)(hw:l.length+D.wts (l.map GPart.toD)≤1048576):bZ Tryz.prog 106 [.sl (l.map GPart.toD),li z] ((usI l z).map ln) 3 1:=by
 have hn:l.length≤1048576:=by omega
 refine wE (fn:=Tryz.f106) (t:=4) (hc:=KE) (h:= ?_);unfold IQ;refine zb_ ?_;change AWP _ _ _ (st0 24 _);simp only[undef,stS,st0,stN,D.av,D.avN,dD,bf,dG,dF,dK,bV,bP,bM,aJ,aO,au,GExpr.aV,GExpr.aK,GExpr.aW,GExpr.el,GPart.aV,GPart.aK,GPart.aW,GPart.el,j_,o_,f_,d_,i_,a_,c_,m_,n_]
 repeat' (first|(refine rg_ ?_;intro K hK)|(refine hq_ ?_;clear hK K)|refine ca_ ?_ ?_|refine sz_ (a5_ @aJ @aO @au @GExpr.el @GPart.el) ?_|refine nv ?_|(refine c2_ ?_ ?_<;>(intro hb hb';try(exfalso;omega)))|exact bq_|fail)
 refine aQ (X:=Nat×Nat) (fun q=> [.k,.k,.d,.d,.d,.v (.c false [.own 0 q.2]),.v (.c false [.raw (.int .i64 (q.1:Nat))])]) (fun q=> [⟨(jh q.1 fun k=>pJ (du l k) z).map ln,3,1,q.2,true⟩]) (fun q bs=> []) (fun q=>q.1≤l.length) (fun q=>l.length - q.1) (0,0) (s_ _) ?_ ?_
 ·simp[aG,aU,aC,aF,AV.fits,AC.fits,FB,aB,jh]
 rintro⟨k,v⟩ hk;have hk':k≤l.length:=hk;clear hk;have hsl:=xC k fun k=>pJ (du l k) z
 have hdl:=JC l k;simp only[FB,aB];by_cases hlk:k<l.length
 ·have hd:=iT l (k:Int) hw;rw[wu]at hd;cases hh:pJ (du l k) z with
  | true=>
    have hs:(jh (k+1) fun k=>pJ (du l k) z)=(jh k fun k=>pJ (du l k) z)++ [k]:=by rw[yL,if_pos hh]
    repeat' (first|(refine rg_ ?_;intro K hK)|(refine hq_ ?_;clear hK K)|refine ca_ ?_ ?_|(refine cg_ ?_;first|(refine dA hd (aO _) ?_ ?_)|refine cT_ (iI (du l k) z (by omega)) ?_)|refine sz_ (a6_ @aJ @aO @au @GExpr.el @GPart.el hh) ?_|refine nv ?_|(refine c2_ ?_ ?_<;>(intro hb hb';try(exfalso;omega)))|exact bq_|fail)
    all_goals first
     |(simp only[e_,l_,a_,c_];omega)
     | (refine aP (k+1,v+1) ?_ (show k+1≤l.length by omega) (show l.length - (k+1)<l.length - k by omega)
        simp[aG,aU,aC,aF,AV.fits,AC.fits,FB,aB,hs,ln,li])
  | false=>
    have hs:(jh (k+1) fun k=>pJ (du l k) z)=jh k fun k=>pJ (du l k) z:=by rw[yL,if_neg (by simp[hh]),L_]
    repeat' (first|(refine rg_ ?_;intro K hK)|(refine hq_ ?_;clear hK K)|refine ca_ ?_ ?_|(refine cg_ ?_;first|(refine dA hd (aO _) ?_ ?_)|refine cT_ (iI (du l k) z (by omega)) ?_)|refine sz_ (a6_ @aJ @aO @au @GExpr.el @GPart.el hh) ?_|refine nv ?_|(refine c2_ ?_ ?_<;>(intro hb hb';try(exfalso;omega)))|exact bq_|fail)
    all_goals first
     |(simp only[e_,l_,a_,c_];omega)
     | (refine aP (k+1,v) ?_ (show k+1≤l.length by omega) (show l.length - (k+1)<l.length - k by omega)
        simp[aG,aU,aC,aF,AV.fits,AC.fits,FB,aB,hs])
 ·obtain rfl:k=l.length:=by omega
  repeat' (first|(refine rg_ ?_;intro K hK)|(refine hq_ ?_;clear hK K)|refine ca_ ?_ ?_|refine sz_ (a5_ @aJ @aO @au @GExpr.el @GPart.el) ?_|refine nv ?_|(refine c2_ ?_ ?_<;>(intro hb hb';try(exfalso;omega)))|exact bq_|fail)
  exact JB rfl rfl rfl rfl rfl rfl (r_ rfl)
def nrI(l:List GPart)(b:Bool)(z:Int):List Nat:=if b then usI l z else duI l z
theorem aik(l:List GPart)(z:Int):nrI l true z=usI l z:=rfl
theorem X3(l:List GPart)(z:Int):nrI l false z=duI l z:=rfl
theorem ahk(l:List GPart)(z:Int):∀x∈usI l z,x<l.length:=fun x h=>(nY.1 h).1
theorem ae2(l:List GPart)(z:Int):(usI l z).length≤l.length:=xC _ _
theorem JD(l:List GPart)(z:Int):(duI l z).Pairwise (· < ·):=by
 unfold duI du;split
 ·split
  ·exact kT _ _
  ·exact List.Pairwise.nil
 ·exact List.Pairwise.nil
theorem Vd(l:List GPart)(b:Bool)(z:Int):∀x∈nrI l b z,x<l.length:=by cases b;exact aed l z;exact ahk l z
theorem X0(l:List GPart)(b:Bool)(z:Int):(nrI l b z).length≤l.length:=by cases b;exact Df l z;exact ae2 l z
theorem Ih(l:List GPart)(b:Bool)(z:Int):(nrI l b z).Pairwise (· < ·):=by cases b;exact JD l z;exact kT _ _
theorem qI{p:Nat→Bool}{g h:Nat→Nat}:∀{n:Nat},(∀x,x<n→g x=h x)→cO p g n=cO p h n
 |0,_=>rfl
 |n+1,e=>by simp only[cO];rw[qI (fun x hx=>e x (by omega)),e n (by omega)]
theorem EJ{p:Nat→Bool}{g h:Nat→Nat}:∀{n:Nat},(∀x,x<n→g x≤h x)→cO p g n≤cO p h n
 |0,_=>z_ _
 | n+1,e=>by
   simp only[cO];have:=EJ (p:=p) (g:=g) (h:=h) (n:=n) (fun x hx=>e x (by omega));have:=e n (by omega);split<;>omega
theorem P8{g h:Nat→Nat}:∀(n:Nat),cO (fun _=>true) (fun x=>g x+h x) n=cO (fun _=>true) g n+cO (fun _=>true) h n
 |0=>rfl
 |n+1=>by simp only[cO,if_true];rw[P8 n];omega
theorem Xb :∀(a b:List D),D.wts (a++b)=D.wts a+D.wts b
 | [],b=>by simp[D.wts]
 |x::a,b=>by simp only[d_,D.wts,Xb a b];omega
theorem P6(l:List GPart):∀k,k≤l.length→cO (fun _=>true) (fun i=>match l[i]? with|some y=>y.toD.wt+1|none=>0) k=k+D.wts ((l.take k).map GPart.toD)
 |0,_=>by simp[cO,D.wts]
 | k+1,h=>by
   have hk:k<l.length:=by omega
   rw[b_ hk,K_,Xb];simp only[cO,if_true,p_ hk,j_,o_,D.wts];rw[P6 l k (by omega)];omega
theorem abD(n:Nat)(l:List Nat):(jP n l).length≤l.length:=by
 have h1 :∀(l:List Nat) (n:Nat),(jP n l).length≤l.length:=by
  intro l
  induction l with
  |nil=>intro n;simp[Qh]
  | cons x l ih=>
    intro n;have h2:=yQ (vP (kT n fun k=>(x::l).contains k)) (n:=n) (fun y hy=>(nY.1 hy).1);have h3:=yQ (vP (kT n fun k=>l.contains k)) (n:=n) (fun y hy=>(nY.1 hy).1);have h4:=ih n;unfold jP at h4⊢;have hle:cO (kN (jh n fun k=>l.contains k)) (fun _=>1) n≤cO (kN (jh n fun k=>(x::l).contains k)) (fun _=>1) n+1:=by
     have:∀m,cO (kN (jh n fun k=>l.contains k)) (fun _=>1) m≤cO (kN (jh n fun k=>(x::l).contains k)) (fun _=>1) m+(if x<m then 1 else 0):=by
      intro m
      induction m with
      |zero=>simp[cO]
      | succ m ihm=>
        simp only[cO];have key:m≠x→kN (jh n fun k=>l.contains k) m=kN (jh n fun k=>(x::l).contains k) m:=by
         intro hne;unfold kN;congr 1;rw[w_,g_,g_,nY,nY];simp[hne]
        by_cases e:m=x
        ·subst e;rw[if_neg (Nat.lt_irrefl _)]at ihm;rw[if_pos (Nat.lt_succ_self _)];split<;>split<;>omega
        ·rw[key e];generalize hce:(if kN (jh n fun k=>(x::l).contains k) m=true then 1 else 0)=cc;by_cases h:x<m
         ·rw[if_pos h]at ihm;rw[if_pos (by omega)];omega
         ·rw[if_neg h]at ihm;rw[if_neg (by omega)];omega
     have:=this n;split at this<;>omega
    simp only[a_];omega
 exact h1 l n
theorem aea(l:List GPart)(hw:l.length+D.wts (l.map GPart.toD)≤1048576):cO (fun _=>true) (fun x=>(du l x).length) l.length≤1048576:=by
 have h1:cO (fun _=>true) (fun x=>(du l x).length) l.length≤cO (fun _=>true) (fun i=>match l[i]? with|some y=>y.toD.wt+1|none=>0) l.length:=by
  refine EJ fun x hx=> ?_
  rw[aec l hx,p_ hx];have h2:=abD l.length (l7 l (cZ l[x]));have h3:=DV l (cZ l[x]) (cZ l[x]).length;rw[q_]at h3;have h4:=abj l[x];show _≤l[x].toD.wt+1;omega
 rw[P6 l _ (z_ _),q_]at h1;omega
theorem Zy(q:Nat→Nat→Bool)(n:Nat):∀m,cO (fun _=>true) (fun x=>(jh n fun k=>q k x).length) m=cO (fun _=>true) (fun k=>(jh m fun x=>q k x).length) n:=by
 intro m
 induction m with
 | zero=>
   simp only[cO];have:∀n,cO (fun _=>true) (fun k=>(jh 0 fun x=>q k x).length) n=0:=fun n=>by
    induction n with
    |zero=>rfl
    |succ n ih=>simp only[cO,ih];simp[jh]
   rw[this]
 | succ m ih=>
   simp only[cO,if_true];rw[ih];have h1:∀n,(jh n fun k=>q k m).length=cO (fun _=>true) (fun k=>if q k m then 1 else 0) n:=fun n=>by
    induction n with
    |zero=>rfl
    |succ n ih2=>rw[yL,l_,ih2];simp only[cO,if_true];split<;>rfl
   rw[h1,← P8];refine qI fun k hk=> ?_
   rw[yL,l_];split<;>rfl
theorem Qd{n:Nat}{l:List Nat}(hs:l.Pairwise (· < ·))(hb:∀x∈l,x<n):jh n (fun x=>l.contains x)=l:=(Xm hs (fun x=>⟨fun h=>⟨hb x h,h⟩,fun h=>h.2⟩)).symm
theorem aaO(l:List GPart)(k:Nat):(du l k).Pairwise (· < ·):=by have:=JD l (k:Int);rwa[wu]at this
theorem ahj(l:List GPart)(hw:l.length+D.wts (l.map GPart.toD)≤1048576):cO (fun _=>true) (fun x=>(usI l (x:Int)).length) l.length≤1048576:=by
 have h1:=Zy (fun k x=>(du l k).contains x) l.length l.length;have h2:cO (fun _=>true) (fun x=>(usI l (x:Int)).length) l.length=cO (fun _=>true) (fun x=>(jh l.length fun k=>(du l k).contains x).length) l.length:=qI fun x hx=>by
  unfold usI;congr 2
  funext k
  exact ku
 have h3:cO (fun _=>true) (fun k=>(jh l.length fun x=>(du l k).contains x).length) l.length=cO (fun _=>true) (fun x=>(du l x).length) l.length:=qI fun k hk=>by
  rw[Qd (aaO l k) (aeb l k)]
 rw[h2,h1,h3];exact aea l hw
theorem ahB(l:List GPart)(b:Bool)(hw:l.length+D.wts (l.map GPart.toD)≤1048576):cO (fun _=>true) (fun x=>(nrI l b (x:Int)).length) l.length≤1048576:=by
 cases b
 ·simp only[X3,wu];exact aea l hw
 ·exact ahj l hw
def AB :IC:=(zd_ [zz_ 6 (.mov (.k (.slice none 0 0)))] (.seq (zd_ [zw_ 7 2] (.cond (.t 7) (zd_ [zw_ 8 0,zw_ 9 1,zp_ 10 106 8 9,zw_ 6 10] .ret) .skip)) (zd_ [zw_ 11 0,zw_ 12 1,zp_ 13 19 11 12,zw_ 6 13] .ret)))
theorem zS :ak Tryz.prog (Tryz.f98.body.getD .skip)=some AB:=by kernel_rfl
theorem Iq(l:List GPart)(z:Int)(b:Bool)(hw:l.length+D.wts (l.map GPart.toD)≤1048576):bZ Tryz.prog 98 [.sl (l.map GPart.toD),li z,.leaf (.bool b)] ((nrI l b z).map ln) 3 1:=by
 have hu:=Kr l z hw;have hd:=iT l z hw;cases b with
 | true=>
   rw[aik];refine fM (fn:=Tryz.f98) (t:=6) (hc:=zS) (h:= ?_);unfold AB;refine zb_ ?_;change AWP _ _ _ (st0 14 _);simp only[undef,stS,st0,stN,D.av,D.avN,dD,bf,dG,dF,dK,bV,bP,bM,aJ,aO,au,GPart.aV,GPart.aK,GPart.aW,GPart.el,j_,o_,f_,d_,i_,a_,c_,m_,n_]
   repeat' (first|(refine rg_ ?_;intro K hK)|(refine hq_ ?_;clear hK K)|refine ca_ ?_ ?_|(refine cg_ ?_;first|(refine dA hu (aO _) ?_ ?_))|refine sz_ (a4_ @aJ @aO @au @GPart.el) ?_|refine nv ?_|(refine c2_ ?_ ?_<;>(intro hb hb';try(exfalso;omega)))|exact bq_|fail)
   exact aS ⟨0,_,_,rfl,rfl,rfl,rfl,rfl,rfl,r_ rfl⟩
 | false=>
   rw[X3];refine fM (fn:=Tryz.f98) (t:=6) (hc:=zS) (h:= ?_);unfold AB;refine zb_ ?_;change AWP _ _ _ (st0 14 _);simp only[undef,stS,st0,stN,D.av,D.avN,dD,bf,dG,dF,dK,bV,bP,bM,aJ,aO,au,GPart.aV,GPart.aK,GPart.aW,GPart.el,j_,o_,f_,d_,i_,a_,c_,m_,n_]
   repeat' (first|(refine rg_ ?_;intro K hK)|(refine hq_ ?_;clear hK K)|refine ca_ ?_ ?_|(refine cg_ ?_;first|(refine dA hd (aO _) ?_ ?_))|refine sz_ (a4_ @aJ @aO @au @GPart.el) ?_|refine nv ?_|(refine c2_ ?_ ?_<;>(intro hb hb';try(exfalso;omega)))|exact bq_|fail)
   exact aS ⟨0,_,_,rfl,rfl,rfl,rfl,rfl,rfl,r_ rfl⟩
def Me :IC:=(zd_ [zz_ 6 (.mov (.k (.slice none 0 0)))] (zd_ [zw_ 11 0,zw_ 12 1,zw_ 13 2,zo_ 14 98 11 12 13,zw_ 7 14] (.seq (zd_ [zk_ 8 0] (.block 0 (.loop (.seq (zd_ [zw_ 15 8,zw_ 16 7,zf_ 17 false 16,zl_ 18 .lss 15 17] (.cond (.t 18) .skip (.exit 0))) (.seq (.block 1 (zd_ [zw_ 21 0,zw_ 22 7,zw_ 23 8,ze_ 24 1 22 23,zs_ 25 1 24,zw_ 26 2,zo_ 27 98 21 25 26,zw_ 9 27] (zd_ [zk_ 10 0] (.block 2 (.loop (.seq (zd_ [zw_ 28 10,zw_ 29 9,zf_ 30 false 29,zl_ 31 .lss 28 30] (.cond (.t 31) .skip (.exit 2))) (.seq (.block 3 (zd_ [zw_ 34 7,zw_ 35 9,zw_ 36 10,ze_ 37 1 35 36,zs_ 38 1 37,zp_ 39 85 34 38,zz_ 40 (.not (.t 39))] (.cond (.t 40) (.reg false [zw_ 41 7,zw_ 42 9,zw_ 43 10,ze_ 44 1 42 43,zs_ 45 1 44,zz_ 46 (.brow false 3 1 1 false [(.t 45)]),zz_ 47 (.app 3 1 (.t 41) (.t 46)),zw_ 7 47]) .skip))) (.reg false [zw_ 32 10,zm_ 33 .add 32 1,zw_ 10 33])))))))) (.reg false [zw_ 19 8,zm_ 20 .add 19 1,zw_ 8 20])))))) (zd_ [zw_ 48 7,zq_ 49 61 48,zw_ 6 49] .ret))))
theorem OO :ak Tryz.prog (Tryz.f73.body.getD .skip)=some Me:=by kernel_rfl
theorem aak(l:List GPart)(z:Int)(b:Bool)(hw:l.length+D.wts (l.map GPart.toD)≤1048576):bZ Tryz.prog 73 [.sl (l.map GPart.toD),li z,.leaf (.bool b)] ((cl l.length (nrI l b) z).map ln) 3 1:=by
 have hn:l.length≤1048576:=by omega
 have hlt:=Vd l b;refine fM (fn:=Tryz.f73) (t:=6) (hc:=OO) (h:= ?_);unfold Me;refine zb_ ?_;change AWP _ _ _ (st0 50 _);simp only[undef,stS,st0,stN,D.av,D.avN,dD,bf,dG,dF,dK,bV,bP,bM,aJ,aO,au,GPart.aV,GPart.aK,GPart.aW,GPart.el,j_,o_,f_,d_,i_,a_,c_,m_,n_]
 repeat' (first|(refine rg_ ?_;intro K hK)|(refine hq_ ?_;clear hK K)|refine ca_ ?_ ?_|(refine cg_ ?_;first|(refine dA (Iq l z b hw) (aO _) ?_ ?_))|refine sz_ (a4_ @aJ @aO @au @GPart.el) ?_|refine nv ?_|(refine c2_ ?_ ?_<;>(intro hb hb';try(exfalso;omega)))|exact bq_|fail)
 refine aQ (X:=Nat×List Nat×Nat) (fun q=> [.k,.d,.k,.d,.d,.d,.d,.v (.c false [.own 0 q.2.2]),.v (.c false [.raw (.int .i64 (q.1:Nat))])]) (fun q=> [⟨q.2.1.map ln,3,1,q.2.2,true⟩]) (fun q bs=>bs) (fun q=>AllInv l.length (nrI l b) z q.1 q.2.1) (fun q=>l.length - q.1) (0,nrI l b z,0) (AllInv.start hlt (Ih l b z)) ?_ ?_
 ·simp[aG,aU,aC,aF,AV.fits,AC.fits,FB,aB]
 rintro⟨k,o,v⟩ hi;have hI:AllInv l.length (nrI l b) z k o:=hi;clear hi;have hol:=qR hI.nd hI.lt;have hkl:=hI.le;simp only[FB,aB];by_cases hlk:k<o.length
 ·have hnear:=Iq l (o[k]:Int) b hw;have hml:=X0 l b (o[k]:Int)
  repeat' (first|(refine rg_ ?_;intro K hK)|(refine hq_ ?_;clear hK K)|refine ca_ ?_ ?_|(refine cg_ ?_;first|(refine dA hnear (aO _) ?_ ?_))|refine sz_ (a4_ @aJ @aO @au @GPart.el) ?_|refine nv ?_|(refine c2_ ?_ ?_<;>(intro hb hb';try(exfalso;omega)))|exact bq_|fail)
  refine aQ (X:=Nat×List Nat×Nat) (fun q=> [.k,.d,.k,.d,.d,.d,.d,.v (.c false [.own 0 q.2.2]),.k,.k,.v (.c false [.raw (.int .i64 (q.1:Nat))])]) (fun q=> [⟨q.2.1.map ln,3,1,q.2.2,true⟩,⟨(nrI l b (o[k]:Int)).map ln,3,1,0,true⟩]) (fun q bs=>bs) (fun q=>MoreInv l.length (nrI l b) z k o[k] q.1 q.2.1) (fun q=>(nrI l b (o[k]:Int)).length - q.1) (0,o,v) (MoreInv.start hI hlk) ?_ ?_
  ·simp[aG,aU,aC,aF,AV.fits,AC.fits,FB,aB]
  rintro⟨j,u,v2⟩ hi2;have hJ:MoreInv l.length (nrI l b) z k o[k] j u:=hi2;clear hi2;have hul:=qR hJ.nd hJ.lt;have hjl:=hJ.jle;simp only[FB,aB];by_cases hlj:j<(nrI l b (o[k]:Int)).length
  ·cases hh:pJ u (((nrI l b (o[k]:Int))[j]:Nat):Int)with
   | true=>
     have hc:u.contains (nrI l b (o[k]:Int))[j]=true:=by rw[← ku];exact hh
     repeat' (first|(refine rg_ ?_;intro K hK)|(refine hq_ ?_;clear hK K)|refine ca_ ?_ ?_|(refine cg_ ?_;first|refine cT_ (iI u (((nrI l b (o[k]:Int))[j]:Nat):Int) (by omega)) ?_)|refine sz_ (a5_ @aJ @aO @au @GPart.el hh) ?_|refine nv ?_|(refine c2_ ?_ ?_<;>(intro hb hb';try(exfalso;omega)))|exact bq_|fail)
     refine aP (j+1,u,v2) ?_ (hJ.skip hlj hc) (show _ - (j+1)<_ - j by omega);simp[aG,aU,aC,aF,AV.fits,AC.fits,FB,aB]
   | false=>
     have hc:u.contains (nrI l b (o[k]:Int))[j]=false:=by rw[← ku];exact hh
     repeat' (first|(refine rg_ ?_;intro K hK)|(refine hq_ ?_;clear hK K)|refine ca_ ?_ ?_|(refine cg_ ?_;first|refine cT_ (iI u (((nrI l b (o[k]:Int))[j]:Nat):Int) (by omega)) ?_)|refine sz_ (a5_ @aJ @aO @au @GPart.el hh) ?_|refine nv ?_|(refine c2_ ?_ ?_<;>(intro hb hb';try(exfalso;omega)))|exact bq_|fail)
     all_goals first
      |(simp only[e_,l_,a_,c_];omega)
      | (refine aP (j+1,u++ [(nrI l b (o[k]:Int))[j]],v2+1) ?_ (hJ.put hlt hlj hc) (show _ - (j+1)<_ - j by omega)
         simp[aG,aU,aC,aF,AV.fits,AC.fits,FB,aB,ln,li])
  ·obtain rfl:j=(nrI l b (o[k]:Int)).length:=by omega
   have hF:=hJ.fin
   repeat' (first|(refine rg_ ?_;intro K hK)|(refine hq_ ?_;clear hK K)|refine ca_ ?_ ?_|refine sz_ (a4_ @aJ @aO @au @GPart.el) ?_|refine nv ?_|(refine c2_ ?_ ?_<;>(intro hb hb';try(exfalso;omega)))|exact bq_|fail)
   refine aP (k+1,u,v2) ?_ hF (show _ - (k+1)<_ - k by omega);simp[aG,aU,aC,aF,AV.fits,AC.fits,FB,aB]
 ·obtain rfl:k=o.length:=by omega
  have hfin:=hI.fin;rw[← hfin]
  repeat' (first|(refine rg_ ?_;intro K hK)|(refine hq_ ?_;clear hK K)|refine ca_ ?_ ?_|(refine cg_ ?_;first|(refine dA (LU l.length o hI.lt hn (by omega)) (aO _) ?_ ?_))|refine sz_ (a4_ @aJ @aO @au @GPart.el) ?_|refine nv ?_|(refine c2_ ?_ ?_<;>(intro hb hb';try(exfalso;omega)))|exact bq_|fail)
  exact aS ⟨1,_,_,rfl,rfl,rfl,rfl,rfl,rfl,r_ rfl⟩
def wS :IC:=(zd_ [zz_ 4 (.mov (.k (.slice none 0 0)))] (zd_ [zw_ 5 0,zw_ 6 1,zz_ 7 (.call 73 [(.t 5),(.t 6),(.k (.bool false))]),zw_ 4 7] .ret))
theorem AX :ak Tryz.prog (Tryz.f38.body.getD .skip)=some wS:=by kernel_rfl
theorem Gf(l:List GPart)(z:Int)(hw:l.length+D.wts (l.map GPart.toD)≤1048576):bZ Tryz.prog 38 [.sl (l.map GPart.toD),li z] ((cl l.length (nrI l false) z).map ln) 3 1:=by
 have ha:=aak l z false hw;refine fM (fn:=Tryz.f38) (t:=4) (hc:=AX) (h:= ?_);unfold wS;refine zb_ ?_;change AWP _ _ _ (st0 8 _);simp only[undef,stS,st0,stN,D.av,D.avN,dD,bf,dG,dF,dK,bV,bP,bM,aJ,aO,au,GPart.aV,GPart.aK,GPart.aW,GPart.el,j_,o_,f_,d_,i_,a_,c_,m_,n_]
 repeat' (first|(refine rg_ ?_;intro K hK)|(refine hq_ ?_;clear hK K)|refine ca_ ?_ ?_|(refine cg_ ?_;first|(refine dA ha (aO _) ?_ ?_))|refine sz_ (a4_ @aJ @aO @au @GPart.el) ?_|refine nv ?_|(refine c2_ ?_ ?_<;>(intro hb hb';try(exfalso;omega)))|exact bq_|fail)
 exact aS ⟨0,_,_,rfl,rfl,rfl,rfl,rfl,rfl,r_ rfl⟩
def Fb :IC:=(zd_ [zz_ 3 (.mov (.k (.slice none 0 0)))] (zd_ [zs_ 4 1 1,zw_ 5 0,zp_ 6 41 4 5,zw_ 3 6] .ret))
theorem Jl :ak Tryz.prog (Tryz.f72.body.getD .skip)=some Fb:=by kernel_rfl
theorem WT(l:List GPart)(z:Int)(os:List Own)(hw:l.length+D.wts (l.map GPart.toD)≤1048576):
 gZ Tryz.prog 72 [.c false [.raw (.int .i64 z)],.bptr 0 0] os [[.sl false (l.map GPart.toD)]] (.c false [.own os.length 0]) (os++ [⟨(nrI l false z).map ln,3,1,0,true⟩]) [[.sl false (l.map GPart.toD)]]:=by
 have hd:=rX l z hw;refine Po (fn:=Tryz.f72) (rs:= [.tmp 3]) (by kernel_rfl) (by kernel_rfl) (by kernel_rfl) Jl (by simp) (by simp) ?_;unfold Fb;refine zb_ ?_;change dH _ _ _ _ (stS 7 _ _ _);simp only[undef,stS,st0,stN,D.av,D.avN,dD,bf,dG,dF,dK,bV,bP,bM,aJ,aO,au,GPart.aV,GPart.aK,GPart.aW,GPart.el,j_,o_,f_,d_,i_,a_,c_,m_,n_]
 repeat' (first|(refine rg_ ?_;intro K hK)|(refine hq_ ?_;clear hK K)|refine ca_ ?_ ?_|(refine cg_ ?_;first|(refine dA hd (aO _) ?_ ?_))|refine sz_ (a4_ @aJ @aO @au @GPart.el) ?_|refine nv ?_|(refine c2_ ?_ ?_<;>(intro hb hb';try(exfalso;omega)))|exact bq_|fail)
 exact aS ⟨fV _,⟨rfl,trivial⟩,by simp[AC.fits],rfl,by simp[AV.fits,AC.fits]⟩
def RP :IC:=(zd_ [zz_ 4 (.mov (.k (.slice none 0 0)))] (zd_ [zz_ 8 (.brow true 3 1 0 false []),zw_ 5 8] (zd_ [zw_ 9 1,zw_ 10 0,zz_ 11 (.callv (.t 9) [(.t 10)]),zw_ 6 11] (.seq (.block 0 (.loop (.seq (zd_ [zw_ 12 6,zf_ 13 false 12,zm_ 14 .gtr 13 0] (.cond (.t 14) .skip (.exit 0))) (.block 1 (zd_ [zw_ 15 6,zz_ 16 (.iad 1 (.t 15) (.k (.int .i64 0))),zs_ 17 1 16,zw_ 7 17] (zd_ [zw_ 18 6,zz_ 19 (.lsl 1 (.t 18) (some (.k (.int .i64 1))) none),zw_ 6 19] (zd_ [zw_ 20 5,zw_ 21 7,zp_ 22 58 20 21,zz_ 23 (.not (.t 22))] (.cond (.t 23) (zd_ [zw_ 24 5,zw_ 25 7,zz_ 26 (.brow false 3 1 1 false [(.t 25)]),zz_ 27 (.app 3 1 (.t 24) (.t 26)),zw_ 5 27] (.reg false [zw_ 28 6,zw_ 29 1,zw_ 30 7,zz_ 31 (.callv (.t 29) [(.t 30)]),zz_ 32 (.app 3 1 (.t 28) (.t 31)),zw_ 6 32])) .skip)))))))) (zd_ [zw_ 33 5,zq_ 34 75 33,zw_ 4 34] .ret)))))
theorem RN :ak Tryz.prog (Tryz.f71.body.getD .skip)=some RP:=by kernel_rfl
theorem afe(c:Nat)(hc:Ei Tryz.prog c=true)(L:List D)(n:Nat)(f:Int→List Nat)(hlt:∀z,∀x∈f z,x<n)(hlen:∀z,(f z).length≤n)(hn:n≤1048576)(hT:cO (fun _=>true) (fun x=>(f (x:Int)).length) n≤1048576)
 (hstep:∀(z:Int) (os:List Own),gZ Tryz.prog c [.c false [.raw (.int .i64 z)],.bptr 0 0] os [[.sl false L]] (.c false [.own os.length 0]) (os++ [⟨(f z).map ln,3,1,0,true⟩]) [[.sl false L]]) (z:Int):
 gZ Tryz.prog 71 [.c false [.raw (.int .i64 z)],.c false [.cl c [0]]] [] [[.sl false L]] (.c false [.own 0 0]) [⟨(cl n f z).map ln,3,1,0,true⟩] [[.sl false L]]:=by
 refine aex (fn:=Tryz.f71) (t:=4) (by kernel_rfl) (by kernel_rfl) (by kernel_rfl) RN (by simp) (fun pk=>⟨rfl,trivial⟩) (by simp[AC.fits]) ?_;unfold RP;refine zb_ ?_;change dH _ _ _ _ (stS 35 _ _ _);have hfz:=hlen z;simp only[undef,stS,st0,stN,D.av,D.avN,dD,bf,dG,dF,dK,bV,bP,bM,aJ,aO,au,GPart.aV,GPart.aK,GPart.aW,GPart.el,j_,o_,f_,d_,i_,a_,c_,m_,n_]
 repeat' (first|(refine rg_ ?_;intro K hK)|(refine hq_ ?_;clear hK K)|refine ca_ ?_ ?_|((with_reducible refine Ub ?_);first|(refine callV hc (hstep z _) ?_))|((with_reducible refine JJ ?_);first|(refine JV hc (hstep z _) ?_))|refine sz_ (a4_ @aJ @aO @au @GPart.el) ?_|refine nv ?_|(refine c2_ ?_ ?_<;>(intro hb hb';try(exfalso;omega)))|exact bq_|fail)
 refine gW (X:=List Nat×List Nat×Nat×Nat) (fun q=> [.d,.k,.d,.d,.d,.v (.c false [.own 0 q.2.2.1]),.v (.c false [.own 1 q.2.2.2])]) (fun q=> [⟨q.1.map ln,3,1,q.2.2.1,true⟩,⟨q.2.1.map ln,3,1,q.2.2.2,true⟩]) (fun q bs=>bs) (fun q=>TodoInv n f z q.1 q.2.1) (fun q=>G8 n f q.1 q.2.1) ([],f z,0,0) (TodoInv.start hlt) (by intro q;simp) ?_ ?_
 ·simp[aG,aU,aC,aF,AV.fits,AC.fits,FB,aB]
 rintro⟨o,t,v1,v2⟩ hi;have hI:TodoInv n f z o t:=hi;clear hi;have hol:=qR hI.nd hI.lt;have htl:=hI.t;simp only[FB,aB];by_cases h0:0<t.length
 ·have htk:(t.map ln).take t.length=t.map ln:=M_ (by simp);have hmd:(t.map ln).drop 1=(t.drop 1).map ln:=by rw[a_e]
  have hdl:(t.drop 1).length=t.length - 1:=u_;cases hh:pJ o ((t[0]:Nat):Int)with
  | true=>
    have hcc:o.contains t[0]=true:=by rw[← ku];exact hh
    repeat' (first|(refine rg_ ?_;intro K hK)|(refine hq_ ?_;clear hK K)|refine ca_ ?_ ?_|(with_reducible refine Yb ?_)|(refine cg_ ?_;first|refine cT_ (Ef o ((t[0]:Nat):Int) (by omega)) ?_)|((with_reducible refine Ub ?_);first|(refine callV hc (hstep ((t[0]:Nat):Int) _) ?_))|((with_reducible refine JJ ?_);first|(refine JV hc (hstep ((t[0]:Nat):Int) _) ?_))|refine sz_ (a7_ @aJ @aO @au @GPart.el hh htk hmd) ?_|refine nv ?_|(refine c2_ ?_ ?_<;>(intro hb hb';try(exfalso;omega)))|exact bq_|fail)
    refine aP (o,t.drop 1,v1,v2+1) ?_ (hI.skip h0 hcc) (UQ h0);simp[aG,aU,aC,aF,AV.fits,AC.fits,FB,aB]
  | false=>
    have hcc:o.contains t[0]=false:=by rw[← ku];exact hh
    have hp:=hI.put hlt h0 hcc;have hpt:=hp.t;rw[l_,hdl]at hpt
    repeat' (first|(refine rg_ ?_;intro K hK)|(refine hq_ ?_;clear hK K)|refine ca_ ?_ ?_|(with_reducible refine Yb ?_)|(refine cg_ ?_;first|refine cT_ (Ef o ((t[0]:Nat):Int) (by omega)) ?_)|((with_reducible refine Ub ?_);first|(refine callV hc (hstep ((t[0]:Nat):Int) _) ?_))|((with_reducible refine JJ ?_);first|(refine JV hc (hstep ((t[0]:Nat):Int) _) ?_))|refine sz_ (a7_ @aJ @aO @au @GPart.el hh htk hmd) ?_|refine nv ?_|(refine c2_ ?_ ?_<;>(intro hb hb';try(exfalso;omega)))|exact bq_|fail)
    all_goals first
     |(simp only[e_,l_,a_,c_,u_];omega)
     | (refine aP (o++ [t[0]],t.drop 1++f ((t[0]:Nat):Int),v1+1,v2+1+1) ?_ hp (Zt hI h0 hcc)
        simp[aG,aU,aC,aF,AV.fits,AC.fits,FB,aB,ln,li])
 ·obtain rfl:t= []:=List.eq_nil_of_length_eq_zero (by omega);have hfin:=hI.fin;rw[← hfin]
  repeat' (first|(refine rg_ ?_;intro K hK)|(refine hq_ ?_;clear hK K)|refine ca_ ?_ ?_|(refine cg_ ?_;first|(refine dA (Le n o hI.lt hn (by omega)) (aO _) ?_ ?_))|refine sz_ (a4_ @aJ @aO @au @GPart.el) ?_|refine nv ?_|(refine c2_ ?_ ?_<;>(intro hb hb';try(exfalso;omega)))|exact bq_|fail)
  exact aS ⟨2,0,rfl,rfl,rfl,rfl⟩
def wU :IC:=(zd_ [zz_ 2 (.box (.t 0)),zz_ 4 (.mov (.k (.slice none 0 0)))] (zd_ [zw_ 5 1,zz_ 6 (.mkf 72 [(.t 2)]),zp_ 7 71 5 6,zw_ 4 7] .ret))
theorem AY :ak Tryz.prog (Tryz.f37.body.getD .skip)=some wU:=by kernel_rfl
theorem Gg(l:List GPart)(z:Int)(hw:l.length+D.wts (l.map GPart.toD)≤1048576):bZ Tryz.prog 37 [.sl (l.map GPart.toD),li z] ((cl l.length (nrI l false) z).map ln) 3 1:=by
 have ha:=afe 72 (by kernel_rfl) (l.map GPart.toD) l.length (nrI l false) (Vd l false) (X0 l false) (by omega) (ahB l false hw) (fun z os=>WT l z os hw) z;refine fM (fn:=Tryz.f37) (t:=4) (hc:=AY) (h:= ?_);unfold wU;refine zb_ ?_;change AWP _ _ _ (st0 8 _);simp only[undef,stS,st0,stN,D.av,D.avN,dD,bf,dG,dF,dK,bV,bP,bM,aJ,aO,au,GPart.aV,GPart.aK,GPart.aW,GPart.el,j_,o_,f_,d_,i_,a_,c_,m_,n_]
 repeat' (first|(refine rg_ ?_;intro K hK)|(refine hq_ ?_;clear hK K)|refine ca_ ?_ ?_|(refine cg_ ?_;first|(refine callS ha ?_))|refine sz_ (a4_ @aJ @aO @au @GPart.el) ?_|refine nv ?_|(refine c2_ ?_ ?_<;>(intro hb hb';try(exfalso;omega)))|exact bq_|fail)
 exact aS ⟨0,_,_,rfl,rfl,rfl,rfl,rfl,rfl,r_ rfl⟩
def fF(l:List Int)(z:Int):Bool:=l.any fun x=>x==z
theorem rV{l:List Int}{z:Int}:fF l z=true↔z∈l:=by simp[fF]
theorem ML(l:List Int)(z:Int){k:Nat}(h:k<l.length):fF (l.take (k+1)) z=(fF (l.take k) z ||(l[k]==z)):=by
 unfold fF;rw[b_ h,X_];simp
theorem YO{l:List Int}{z:Int}{k:Nat}(h:k<l.length)(e:(l[k]==z)=true):fF l z=true:=rV.2 ((show l[k]=z by simpa using e)▸v_ h)
def lnz(l:List Nat):List Int:=l.map A_
theorem ahK(l:List Nat):(lnz l).map li=l.map ln:=by unfold lnz;rw[R_];rfl
theorem nZ(l:List Int)(z:Int)(hn:l.length≤4194304):aI Tryz.prog 85 [.sl (l.map li),li z] (.c false [.raw (.bool (fF l z))]):=by
 refine aY (fn:=Tryz.f85) (t:=4) (hc:=xY) (h:= ?_);unfold xZ;refine zb_ ?_;change AWP _ _ _ (st0 18 _);simp only[undef,stS,st0,stN,D.av,D.avN,dD,bf,dG,dF,dK,bV,bP,bM,aJ,aO,au,GPart.aV,GPart.aK,GPart.aW,GPart.el,j_,o_,f_,d_,i_,a_,c_,m_,n_]
 repeat' (first|(refine rg_ ?_;intro K hK)|(refine hq_ ?_;clear hK K)|refine ca_ ?_ ?_|refine sz_ (a4_ @aJ @aO @au @GPart.el) ?_|refine nv ?_|(refine c2_ ?_ ?_<;>(intro hb hb';try(exfalso;omega)))|exact bq_|fail)
 refine aQ (X:=Nat) (fun q=> [.k,.k,.d,.d,.d,.v (.c false [.raw (.int .i64 (q:Nat))])]) (fun q=> []) (fun q bs=> []) (fun q=>q≤l.length∧fF (l.take q) z=false) (fun q=>l.length - q) 0 ⟨s_ _,by simp[fF]⟩ ?_ ?_
 ·simp[aG,aU,aC,aF,AV.fits,AC.fits,FB,aB]
 rintro k ⟨hk,hf⟩;simp only[FB,aB];by_cases hlt:k<l.length
 ·cases he:(l[k]==z)with
  | true=>
    have ht:=YO hlt he
    repeat' (first|(refine rg_ ?_;intro K hK)|(refine hq_ ?_;clear hK K)|refine ca_ ?_ ?_|refine sz_ (a5_ @aJ @aO @au @GPart.el he) ?_|refine nv ?_|(refine c2_ ?_ ?_<;>(intro hb hb';try(exfalso;omega)))|exact bq_|fail)
    exact aS ⟨_,rfl,by rw[ht];rfl,trivial⟩
  | false=>
    have ht:=ML l z hlt;rw[hf,he]at ht
    repeat' (first|(refine rg_ ?_;intro K hK)|(refine hq_ ?_;clear hK K)|refine ca_ ?_ ?_|refine sz_ (a5_ @aJ @aO @au @GPart.el he) ?_|refine nv ?_|(refine c2_ ?_ ?_<;>(intro hb hb';try(exfalso;omega)))|exact bq_|fail)
    refine aP (k+1) ?_ ⟨by omega,ht⟩ (show l.length - (k+1)<l.length - k by omega);simp[aG,aU,aC,aF,AV.fits,AC.fits,FB,aB]
 ·obtain rfl:k=l.length:=by omega
  rw[q_]at hf
  repeat' (first|(refine rg_ ?_;intro K hK)|(refine hq_ ?_;clear hK K)|refine ca_ ?_ ?_|refine sz_ (a4_ @aJ @aO @au @GPart.el) ?_|refine nv ?_|(refine c2_ ?_ ?_<;>(intro hb hb';try(exfalso;omega)))|exact bq_|fail)
  exact aS ⟨_,rfl,by rw[hf];rfl,trivial⟩
theorem rW(l:List Int)(z:Int)(hn:l.length≤4194304):aI Tryz.prog 58 [.sl (l.map li),li z] (.c false [.raw (.bool (fF l z))]):=by
 refine aY (fn:=Tryz.f58) (t:=4) (hc:=CU) (h:= ?_);unfold Ee;refine zb_ ?_;change AWP _ _ _ (st0 17 _);simp only[undef,stS,st0,stN,D.av,D.avN,dD,bf,dG,dF,dK,bV,bP,bM,aJ,aO,au,GPart.aV,GPart.aK,GPart.aW,GPart.el,j_,o_,f_,d_,i_,a_,c_,m_,n_]
 repeat' (first|(refine rg_ ?_;intro K hK)|(refine hq_ ?_;clear hK K)|refine ca_ ?_ ?_|refine sz_ (a4_ @aJ @aO @au @GPart.el) ?_|refine nv ?_|(refine c2_ ?_ ?_<;>(intro hb hb';try(exfalso;omega)))|exact bq_|fail)
 refine aQ (X:=Nat) (fun q=> [.d,.k,.d,.d,.d,.d,.d,.k,.k,.v (.c false [.raw (.int .i64 (q:Nat))])]) (fun q=> []) (fun q bs=> []) (fun q=>q≤l.length∧fF (l.take q) z=false) (fun q=>l.length - q) 0 ⟨s_ _,by simp[fF]⟩ ?_ ?_
 ·simp[aG,aU,aC,aF,AV.fits,AC.fits,FB,aB]
 rintro k ⟨hk,hf⟩;simp only[FB,aB];by_cases hlt:k<l.length
 ·cases he:(l[k]==z)with
  | true=>
    have ht:=YO hlt he
    repeat' (first|(refine rg_ ?_;intro K hK)|(refine hq_ ?_;clear hK K)|refine ca_ ?_ ?_|refine sz_ (a5_ @aJ @aO @au @GPart.el he) ?_|refine nv ?_|(refine c2_ ?_ ?_<;>(intro hb hb';try(exfalso;omega)))|exact bq_|fail)
    exact aS ⟨_,rfl,by rw[ht];rfl,trivial⟩
  | false=>
    have ht:=ML l z hlt;rw[hf,he]at ht
    repeat' (first|(refine rg_ ?_;intro K hK)|(refine hq_ ?_;clear hK K)|refine ca_ ?_ ?_|refine sz_ (a5_ @aJ @aO @au @GPart.el he) ?_|refine nv ?_|(refine c2_ ?_ ?_<;>(intro hb hb';try(exfalso;omega)))|exact bq_|fail)
    refine aP (k+1) ?_ ⟨by omega,ht⟩ (show l.length - (k+1)<l.length - k by omega);simp[aG,aU,aC,aF,AV.fits,AC.fits,FB,aB]
 ·obtain rfl:k=l.length:=by omega
  rw[q_]at hf
  repeat' (first|(refine rg_ ?_;intro K hK)|(refine hq_ ?_;clear hK K)|refine ca_ ?_ ?_|refine sz_ (a4_ @aJ @aO @au @GPart.el) ?_|refine nv ?_|(refine c2_ ?_ ?_<;>(intro hb hb';try(exfalso;omega)))|exact bq_|fail)
  exact aS ⟨_,rfl,by rw[hf];rfl,trivial⟩
noncomputable def onC(l:List GPart)(z:Int):Bool:=pJ (cl l.length (nrI l false) z) z
def EU :IC:=(zd_ [zj_ 4 false] (zd_ [zw_ 5 0,zw_ 6 1,zp_ 7 38 5 6,zw_ 8 1,zp_ 9 85 7 8,zw_ 4 9] .ret))
theorem I7 :ak Tryz.prog (Tryz.f91.body.getD .skip)=some EU:=by kernel_rfl
theorem mJ(l:List GPart)(z:Int)(hw:l.length+D.wts (l.map GPart.toD)≤1048576):aI Tryz.prog 91 [.sl (l.map GPart.toD),li z] (.c false [.raw (.bool (onC l z))]):=by
 have hau:=Gf l z hw;have hcl:=aeu l.length (nrI l false) z;refine aY (fn:=Tryz.f91) (t:=4) (hc:=I7) (h:= ?_);unfold EU;refine zb_ ?_;change AWP _ _ _ (st0 10 _);simp only[undef,stS,st0,stN,D.av,D.avN,dD,bf,dG,dF,dK,bV,bP,bM,aJ,aO,au,GPart.aV,GPart.aK,GPart.aW,GPart.el,j_,o_,f_,d_,i_,a_,c_,m_,n_]
 repeat' (first|(refine rg_ ?_;intro K hK)|(refine hq_ ?_;clear hK K)|refine ca_ ?_ ?_|(refine cg_ ?_;first|(refine dA hau (aO _) ?_ ?_)|refine cT_ (iI (cl l.length (nrI l false) z) z (by omega)) ?_)|refine sz_ (a4_ @aJ @aO @au @GPart.el) ?_|refine nv ?_|(refine c2_ ?_ ?_<;>(intro hb hb';try(exfalso;omega)))|exact bq_|fail)
 exact aS ⟨_,rfl,rfl,trivial⟩
theorem oh(l:List GPart)(z:Int)(hn:l.length≤1048576):aI Tryz.prog 101 [.sl (l.map GPart.toD),li z] (.c false [.raw (.bool (sK l z))]):=sU fun w vs hr=>by
 obtain⟨v,u,rfl,h1,h2⟩:=Qq hr;obtain⟨fp,hS⟩:=xI h1;obtain rfl:=pX h2;exact D9 l z fp v w hS hn
def EW :IC:=(zd_ [zj_ 4 false] (zd_ [zw_ 5 0,zw_ 6 1,zp_ 7 37 5 6,zw_ 8 1,zp_ 9 58 7 8,zw_ 4 9] .ret))
theorem I8 :ak Tryz.prog (Tryz.f16.body.getD .skip)=some EW:=by kernel_rfl
theorem mM(l:List GPart)(z:Int)(hw:l.length+D.wts (l.map GPart.toD)≤1048576):aI Tryz.prog 16 [.sl (l.map GPart.toD),li z] (.c false [.raw (.bool (onC l z))]):=by
 have hau:=Gg l z hw;have hcl:=aeu l.length (nrI l false) z;refine aY (fn:=Tryz.f16) (t:=4) (hc:=I8) (h:= ?_);unfold EW;refine zb_ ?_;change AWP _ _ _ (st0 10 _);simp only[undef,stS,st0,stN,D.av,D.avN,dD,bf,dG,dF,dK,bV,bP,bM,aJ,aO,au,GPart.aV,GPart.aK,GPart.aW,GPart.el,j_,o_,f_,d_,i_,a_,c_,m_,n_]
 repeat' (first|(refine rg_ ?_;intro K hK)|(refine hq_ ?_;clear hK K)|refine ca_ ?_ ?_|(refine cg_ ?_;first|(refine dA hau (aO _) ?_ ?_)|refine cT_ (Ef (cl l.length (nrI l false) z) z (by omega)) ?_)|refine sz_ (a4_ @aJ @aO @au @GPart.el) ?_|refine nv ?_|(refine c2_ ?_ ?_<;>(intro hb hb';try(exfalso;omega)))|exact bq_|fail)
 exact aS ⟨_,rfl,rfl,trivial⟩
theorem lQ(l:List GPart)(z:Int)(hn:l.length≤1048576):aI Tryz.prog 28 [.sl (l.map GPart.toD),li z] (.c false [.raw (.bool (sK l z))]):=sU fun w vs hr=>by
 obtain⟨v,u,rfl,h1,h2⟩:=Qq hr;obtain⟨fp,hS⟩:=xI h1;obtain rfl:=pX h2;exact Ea l z fp v w hS hn
end
section
open List renaming length_cons→a_,take_succ_eq_append_getElem→b_,length_nil→c_,cons_append→d_,length_map→e_,replicate→f_,contains_iff_mem→g_,mem_append→h_,nil_append→i_,map_cons→j_,mem_singleton→k_,length_append→l_,map_nil→o_,getElem?_eq_getElem→p_,take_length→q_,mem_of_mem_drop→t_,length_drop→u_,getElem_mem→v_,mem_cons→x_,mem_append_left→y_,mem_map→B_,getElem?_eq_none→E_,mem_cons_of_mem→G_,getElem?_map→H_,getElem?_take_of_lt→I_,map_append→K_,append_nil→L_,take_of_length_le→M_,filterMap_append→N_,mem_iff_getElem→O_,mem_of_mem_take→P_,pairwise_cons→Q_,map_map→R_,nodup_append→S_,length_take→V_,any_append→X_,mem_range→Z_,nodup_nil→a_a,map_drop→a_e
open Nat renaming reduceAdd→m_,reduceSub→n_,zero_le→s_,le_refl→z_,lt_or_ge→a_f
open Or renaming inl→r_,inr→D_
open Bool renaming eq_iff_iff→w_,or_eq_true→W_
open Int renaming ofNat→A_
open Value renaming int→C_
open Lib renaming hid→F_
theorem afz{l:List Nat}{z:Int}:z∈lnz l↔∃x∈l,(x:Int)=z:=by
 unfold lnz;rw[B_];rfl
theorem afC(l:List Nat):(lnz l).length=l.length:=by simp[lnz]
theorem Rch.head{F:Int→List Nat}{z:Int}{x y:Nat}(h:x∈F z)(k:Rch F (x:Int) y):Rch F z y:=by
 induction k with
 |one k=>exact .more (.one h) k
 |more _ k ih=>exact .more ih k
theorem aaN(l:List GPart)(z:Int)(hw:l.length+D.wts (l.map GPart.toD)≤1048576):aI Tryz.prog 19 [.sl (l.map pF),li z] (.c false [.sl true ((lnz (duI l z)).map li)]):=by
 rw[ahK];exact aI.pF (U1 (iT l z hw))
end
end Go.Proofs.YtfjmoicellpnhaaGreat
