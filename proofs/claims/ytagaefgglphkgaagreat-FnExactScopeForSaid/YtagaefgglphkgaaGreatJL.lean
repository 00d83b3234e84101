/-
  Texts joined: Gr Rch Set Sorted Dep Reach Cyc.
-/
import Derived.Test.YtagaefgglphkgaaGreatJE
import Derived.Test.YtagaefgglphkgaaGreatProg
import Derived.Test.YtagaefgglphkgaaGreatJK
import Derived.Maps.OwnOps
import Derived.Test.YtagaefgglphkgaaGreatJI
set_option maxHeartbeats 8000000
set_option maxRecDepth 20000
set_option linter.unusedSimpArgs false
set_option linter.unusedVariables false
namespace Go.Proofs.YtagaefgglphkgaaGreat
open Go.RowKit
section
open List renaming length_cons→a_,take_succ_eq_append_getElem→b_,length_nil→c_,length_map→d_,contains_iff_mem→e_,cons_append→f_,mem_append→g_,mem_singleton→h_,replicate→i_,nil_append→j_,length_append→k_,map_cons→l_,getElem?_eq_getElem→m_,map_nil→p_,take_length→q_,mem_of_mem_drop→s_,length_drop→t_,mem_cons→v_,mem_append_left→w_,getElem_mem→z_,mem_map→B_,getElem?_eq_none→E_,mem_cons_of_mem→G_,getElem?_map→H_,getElem?_take_of_lt→I_,map_append→K_,append_nil→L_,take_of_length_le→M_,filterMap_append→N_,mem_iff_getElem→O_,mem_of_mem_take→P_,pairwise_cons→Q_,nodup_append→R_,length_take→U_,mem_range→X_,nodup_nil→Y_,map_drop→a_c,map_map→a_f
open Nat renaming reduceAdd→n_,reduceSub→o_,le_refl→x_,zero_le→y_,lt_or_ge→a_d
open Or renaming inl→r_,inr→D_
open Bool renaming eq_iff_iff→u_,or_eq_true→V_
open Int renaming ofNat→A_
open Value renaming int→C_
open Lib renaming hid→F_
def ln(k:Nat):D:=li (k:Int)
def iE(n:Nat)(p:Nat→Bool):List Nat:=(List.range n).filter p
theorem jV(n:Nat)(p:Nat→Bool):(iE n p).Pairwise (· < ·):=List.Pairwise.filter _ List.pairwise_lt_range
theorem nZ{n:Nat}{p:Nat→Bool}{x:Nat}:x∈iE n p↔x<n∧p x=true:=by
 unfold iE;rw[List.mem_filter,X_]
theorem uM(n:Nat)(p:Nat→Bool):(iE n p).length≤n:=by
 have:=List.length_filter_le p (List.range n);rwa[List.length_range]at this
theorem xO{n:Nat}{p q:Nat→Bool}(h:∀x,x<n→p x=q x):iE n p=iE n q:=by
 unfold iE;refine List.filter_congr fun x hx=>h x (X_.1 hx)
theorem xJ :∀{l m:List Nat},l.Pairwise (· < ·)→m.Pairwise (· < ·)→(∀x,x∈l↔x∈m)→l=m
 | [],[],_,_,_=>rfl
 | [],y::m,_,_,h=>by have:=(h y).2 (by simp);simp at this
 |x::l,[],_,_,h=>by have:=(h x).1 (by simp);simp at this
 | x ::l,y::m,hl,hm,h=>by
   rw[Q_]at hl hm;have e:x=y:=by
    rcases v_.1 ((h x).1 (by simp))with e|h1
    ·exact e
    ·rcases v_.1 ((h y).2 (by simp))with e|h2
     ·exact e.symm
     ·have a1:=hm.1 x h1;have a2:=hl.1 y h2;omega
   subst e;rw[xJ hl.2 hm.2 (fun z=> ?_)];constructor
   ·intro hz;rcases v_.1 ((h z).1 (G_ _ hz))with e|h1
    ·have:=hl.1 z hz;omega
    ·exact h1
   ·intro hz;rcases v_.1 ((h z).2 (G_ _ hz))with e|h1
    ·have:=hm.1 z hz;omega
    ·exact h1
theorem Wp{n x pos:Nat}{p:Nat→Bool}{s:List Nat}(hs:s.Pairwise (· < ·))(hy2:∀y,y∈s↔y<n∧p y=true)(hx:x<n)(hp:p x=false)(hat:pos≤s.length)(h1:∀(j:Nat) (h:j<pos),s[j]'(by omega)<x)(h2:∀(h:pos<s.length),x≤s[pos]):
 s.take pos++x::s.drop pos=iE n (fun k=>p k || k==x):=by
 have hm:∀y∈s,y≠x:=fun y hy e=>by
  subst e;rw[((hy2 y).1 hy).2]at hp;cases hp
 have hlow:∀y∈s.take pos,y<x:=fun y hy=>by
  obtain⟨j,hj,rfl⟩:=O_.1 hy;rw[List.getElem_take];exact h1 j (by rw[U_]at hj;omega)
 have hhigh:∀y∈s.drop pos,x<y:=fun y hy=>by
  have hne:=hm y (s_ hy);obtain⟨j,hj,rfl⟩:=O_.1 hy;rw[List.getElem_drop]at hne⊢;rw[t_]at hj;have h3:=h2 (by omega);rcases Nat.eq_zero_or_pos j with rfl|hj0
  ·simp only[Nat.add_zero]at hne⊢;omega
  ·have:=List.pairwise_iff_getElem.1 hs pos (pos+j) (by omega) (by omega) (by omega);omega
 refine xJ ?_ (jV _ _) (fun y=> ?_)
 ·rw[List.pairwise_append];refine⟨hs.sublist (List.take_sublist _ _), ?_,fun a ha b hb=> ?_⟩
  ·rw[Q_];exact⟨hhigh,hs.sublist (List.drop_sublist _ _)⟩
  ·have:=hlow a ha;rcases v_.1 hb with rfl|hb
   ·exact this
   ·have:=hhigh b hb;omega
 ·have hy:y∈s↔y∈s.take pos∨y∈s.drop pos:=by rw[← g_,List.take_append_drop]
  rw[nZ,g_,v_];simp only[V_,beq_iff_eq];constructor
  ·rintro(h|h|h)
   ·have:=(hy2 y).1 (hy.2 (r_ h));exact⟨this.1,r_ this.2⟩
   ·subst h;exact⟨hx,D_ rfl⟩
   ·have:=(hy2 y).1 (hy.2 (D_ h));exact⟨this.1,r_ this.2⟩
  ·rintro⟨h,h'|h'⟩
   ·rcases hy.1 ((hy2 y).2 ⟨h,h'⟩)with h3|h3
    ·exact r_ h3
    ·exact D_ (D_ h3)
   ·exact D_ (r_ h')
theorem Yo{n x pos:Nat}{p:Nat→Bool}(hx:x<n)(hp:p x=false)(hat:pos≤(iE n p).length)(h1:∀(j:Nat) (h:j<pos),(iE n p)[j]'(by omega)<x)(h2:∀(h:pos<(iE n p).length),x≤(iE n p)[pos]):
 (iE n p).take pos++x::(iE n p).drop pos=iE n (fun k=>p k || k==x):=Wp (jV n p) (fun y=>nZ) hx hp hat h1 h2
def jy(n:Nat)(l:List Nat):List Nat:=iE n (fun k=>l.contains k)
theorem KX(n:Nat):jy n []= []:=by simp[jy,iE]
theorem yY{n:Nat}{l:List Nat}{x:Nat}:x∈jy n l↔x<n∧x∈l:=by
 unfold jy;rw[nZ];simp
theorem P5{n:Nat}{l m:List Nat}(hs:m.Pairwise (· < ·))(hm:∀x,x∈m↔x<n∧x∈l):m=jy n l:=xJ hs (jV _ _) (fun x=>by rw[hm];exact yY.symm)
def oG(l:List Nat)(z:Int):Bool:=l.any fun x=>(x:Int)==z
theorem MW{l:List Nat}{z:Int}:oG l z=true↔∃x∈l,(x:Int)=z:=by simp[oG]
theorem pF{l:List Nat}{k:Nat}:oG l (k:Int)=l.contains k:=by
 rw[u_,MW,e_];constructor
 ·rintro⟨x,hx,e⟩;have:x=k:=by omega
  exact this▸hx
 ·intro h;exact⟨k,h,rfl⟩
theorem Ij(l:List Nat)(z:Int){k:Nat}(h:k<l.length):oG (l.take (k+1)) z=(oG (l.take k) z ||(((l[k]:Nat):Int)==z)):=by
 unfold oG;rw[b_ h,List.any_append];simp
theorem QX{l:List Nat}{z:Int}{k:Nat}(h:k<l.length)(e:(((l[k]:Nat):Int)==z)=true):oG l z=true:=MW.2 ⟨l[k],z_ h,by simpa using e⟩
theorem aJ(l:List Nat):El 1 (l.map ln):=fun d h=>by obtain⟨x,_,rfl⟩:=B_.1 h;exact⟨rfl,rfl⟩
theorem pG(l:List Nat)(k:Nat):El 1 ((l.map ln).take k):=fun d h=>aJ l d (P_ h)
theorem qw(l:List Nat)(j k:Nat):El 1 (((l.map ln).take j).drop k):=fun d h=>pG l j d (s_ h)
theorem aG{α:Type}{f:α→D}{l:List α}{k:Nat}(h:k<l.length):(l.map f)[k]? =some (f l[k]):=by
 rw[H_,m_ h];rfl
theorem aW(b:Bool)(n:Nat):(ln n).acs b= [.raw (.int .i64 (n:Int))]:=rfl
theorem UN{n:Nat}{l:List Nat}{k:Nat}(hk:k<l.length)(hx:l[k]<n)(h:(jy n (l.take k)).contains l[k]=true):jy n (l.take (k+1))=jy n (l.take k):=by
 refine xO fun x hxn=> ?_
 rw[b_ hk];rw[e_,yY]at h;rw[u_];simp only[e_,g_,h_];constructor
 ·rintro(h'|rfl)
  ·exact h'
  ·exact h.2
 ·exact r_
theorem UM{n:Nat}{l:List Nat}{k pos:Nat}(hk:k<l.length)(hx:l[k]<n)(h:(jy n (l.take k)).contains l[k]=false)(hat:pos≤(jy n (l.take k)).length)(h1:∀(j:Nat) (h:j<pos),(jy n (l.take k))[j]'(by omega)<l[k])
 (h2:∀(h:pos<(jy n (l.take k)).length),l[k]≤(jy n (l.take k))[pos]):(jy n (l.take k)).take pos++l[k]::(jy n (l.take k)).drop pos=jy n (l.take (k+1)):=by
 have hp:(l.take k).contains l[k]=false:=by
  rw[Bool.eq_false_iff]at h⊢;intro h';apply h;rw[e_,yY];rw[e_]at h';exact⟨hx,h'⟩
 rw[jy,Yo hx hp hat h1 h2];refine xO fun x hxn=> ?_
 rw[b_ hk,u_];simp only[V_,e_,beq_iff_eq,g_,h_]
def eU(p:Nat→Bool)(g:Nat→Nat):Nat→Nat
 |0=>0
 |n+1=>eU p g n+if p n then g n else 0
theorem DR{p q:Nat→Bool}{g:Nat→Nat}:∀{n:Nat},(∀x,x<n→p x=q x)→eU p g n=eU q g n
 |0,_=>rfl
 | n+1,h=>by
   simp only[eU];rw[DR (fun x hx=>h x (by omega)),h n (by omega)]
theorem DN{p q:Nat→Bool}{g:Nat→Nat}{k:Nat}(hp:p k=true)(hq:q k=false)(ho:∀x,x≠k→p x=q x):∀{n:Nat},k<n→eU p g n=eU q g n+g k
 |0,h=>by omega
 | n+1,h=>by
   simp only[eU];rcases a_d k n with h'|h'
   ·rw[DN hp hq ho h',ho n (by omega)];omega
   ·obtain rfl:k=n:=by omega
    rw[DR (q:=q) (fun x hx=>ho x (by omega)),hp,hq];simp
theorem PY{p:Nat→Bool}{g:Nat→Nat}:∀(n:Nat),eU p g n≤eU (fun _=>true) g n
 |0=>x_ _
 | n+1=>by
   have:=PY (p:=p) (g:=g) n;simp only[eU];split<;>simp<;>omega
def jM(l:List Nat)(x:Nat):Bool:= !l.contains x
theorem H9{l:List Nat}{k:Nat}(h:k∉l){g:Nat→Nat}{n:Nat}(hk:k<n):eU (jM l) g n=eU (jM (l++ [k])) g n+g k:=by
 refine DN (by simp[jM,h]) (by simp[jM]) (fun x hx=> ?_) hk;simp[jM,hx]
theorem OM{l:List Nat}{k:Nat}(h:k∉l){g:Nat→Nat}{n:Nat}(hk:k<n):eU (jM l) g n=eU (jM (k::l)) g n+g k:=by
 refine DN (by simp[jM,h]) (by simp[jM]) (fun x hx=> ?_) hk;simp[jM,hx]
theorem wE{n:Nat}:∀{l:List Nat},l.Nodup→(∀x∈l,x<n)→eU (jM l) (fun _=>1) n+l.length=n
 | [],_,_=>by
   have:∀m,eU (jM []) (fun _=>1) m=m:=by
    intro m
    induction m with
    |zero=>rfl
    |succ m ih=>simp only[eU,ih];simp[jM]
   simp[this]
 | k::l,hn,hb=>by
   rw[List.nodup_cons]at hn;have h1:=wE hn.2 (fun x hx=>hb x (G_ _ hx));have h2:=OM hn.1 (g:=fun _=>1) (hb k (by simp));simp only[a_];omega
theorem wz{n:Nat}{l:List Nat}(h:l.Nodup)(hb:∀x∈l,x<n):l.length≤n:=by
 have:=wE h hb;omega
theorem Ef{l:List Nat}{k:Nat}(h:l.Nodup)(hk:k∉l):(l++ [k]).Nodup:=by
 rw[R_];refine⟨h,by simp,fun a ha b hb e=> ?_⟩;rw[h_]at hb;subst hb e;exact hk ha
theorem sN{l:List Nat}(h:l.Pairwise (· < ·)):l.Nodup:=h.imp fun hab=>by omega
inductive Rch (f:Int→List Nat) (z:Int):Nat→Prop
 |one {x:Nat}:x∈f z→Rch f z x
 |more {x y:Nat}:Rch f z x→y∈f (x:Int)→Rch f z y
noncomputable def Zn(f:Int→List Nat)(z:Int)(x:Nat):Bool:= @decide (Rch f z x) (Classical.propDecidable _)
theorem Vd{f:Int→List Nat}{z:Int}{x:Nat}:Zn f z x=true↔Rch f z x:=by
 unfold Zn;exact @decide_eq_true_iff _ (Classical.propDecidable _)
noncomputable def cl(n:Nat)(f:Int→List Nat)(z:Int):List Nat:=iE n (Zn f z)
theorem Xv(n:Nat)(f:Int→List Nat)(z:Int):(cl n f z).length≤n:=uM _ _
theorem Y6{n:Nat}{f:Int→List Nat}{z:Int}{l:List Nat}(h1:∀x∈l,x<n∧Rch f z x)(h2:∀x∈f z,x∈l)(h3:∀y∈l,∀x∈f (y:Int),x∈l):jy n l=cl n f z:=by
 unfold jy cl;refine xO fun x hx=> ?_
 rw[u_,Vd,e_];refine⟨fun h=>(h1 x h).2,fun h=> ?_⟩;clear hx
 induction h with
 |one h=>exact h2 _ h
 |more _ h ih=>exact h3 _ ih _ h
structure AllInv (n:Nat) (f:Int→List Nat) (z:Int) (k:Nat) (out:List Nat):Prop where
 nd:out.Nodup
 lt:∀x∈out,x<n
 r:∀x∈out,Rch f z x
 a:∀x∈f z,x∈out
 b:∀y∈out.take k,∀x∈f (y:Int),x∈out
 le:k≤out.length
structure MoreInv (n:Nat) (f:Int→List Nat) (z:Int) (k:Nat) (y:Nat) (j:Nat) (out:List Nat):Prop extends AllInv n f z k out where
 lt1:k<out.length
 at1:out[k]? =some y
 c:∀x∈(f (y:Int)).take j,x∈out
 jle:j≤(f (y:Int)).length
theorem MoreInv.start{n:Nat}{f:Int→List Nat}{z:Int}{k:Nat}{out:List Nat}(h:AllInv n f z k out)(hk:k<out.length):MoreInv n f z k out[k] 0 out:=
 {h with lt1:=hk,at1:=m_ hk,c:=by simp,jle:=y_ _}
theorem MoreInv.skip{n:Nat}{f:Int→List Nat}{z:Int}{k y j:Nat}{out:List Nat}(h:MoreInv n f z k y j out)(hj:j<(f (y:Int)).length)(hc:out.contains (f (y:Int))[j]=true):MoreInv n f z k y (j+1) out:=by
 have h9:∀x∈(f (y:Int)).take (j+1),x∈out:=by
  intro x hx;rw[b_ hj,g_,h_]at hx;rcases hx with hx|rfl
  ·exact h.c x hx
  ·simpa using hc
 exact{h with c:=h9,jle:=hj}
theorem MoreInv.put{n:Nat}{f:Int→List Nat}(hf:∀z,∀x∈f z,x<n){z:Int}{k y j:Nat}{out:List Nat}(h:MoreInv n f z k y j out)(hj:j<(f (y:Int)).length)(hc:out.contains (f (y:Int))[j]=false):MoreInv n f z k y (j+1) (out++ [(f (y:Int))[j]]):=
 have hy:y∈out:=List.mem_of_getElem? h.at1;have hm:=z_ hj
 { nd:=Ef h.nd (by simpa using hc)
   lt:=fun x hx=>by
    rw[g_,h_]at hx;rcases hx with hx|rfl
    ·exact h.lt x hx
    ·exact hf _ _ hm
   r:=fun x hx=>by
    rw[g_,h_]at hx;rcases hx with hx|rfl
    ·exact h.r x hx
    ·exact .more (h.r y hy) hm
   a:=fun x hx=>w_ _ (h.a x hx)
   b:=fun w hw x hx=>by
    rw[List.take_append_of_le_length h.le]at hw;exact w_ _ (h.b w hw x hx)
   le:=by have:=h.le;simp;omega
   lt1:=by have:=h.lt1;simp;omega
   at1:=by rw[List.getElem?_append_left h.lt1];exact h.at1
   c:=fun x hx=>by
    rw[b_ hj,g_,h_]at hx;rcases hx with hx|rfl
    ·exact w_ _ (h.c x hx)
    ·simp
   jle:=hj}
theorem MoreInv.fin{n:Nat}{f:Int→List Nat}{z:Int}{k y:Nat}{out:List Nat}(h:MoreInv n f z k y (f (y:Int)).length out):AllInv n f z (k+1) out:=by
 have h9:∀w∈out.take (k+1),∀x∈f (w:Int),x∈out:=by
  intro w hw x hx;rw[b_ h.lt1,g_,h_]at hw;rcases hw with hw|rfl
  ·exact h.b w hw x hx
  ·have:=h.at1;rw[m_ h.lt1]at this;injection this with this
   rw[this]at hx;exact h.c x (by rw[q_];exact hx)
 exact{h with b:=h9,le:=h.lt1}
theorem AllInv.start{n:Nat}{f:Int→List Nat}(hf:∀z,∀x∈f z,x<n){z:Int}(hs:(f z).Pairwise (· < ·)):AllInv n f z 0 (f z):=
 {nd:=sN hs,lt:=hf z,r:=fun x h=> .one h,a:=fun x h=>h,b:=by simp,le:=y_ _}
theorem AllInv.fin{n:Nat}{f:Int→List Nat}{z:Int}{out:List Nat}(h:AllInv n f z out.length out):jy n out=cl n f z:=
 Y6 (fun x hx=>⟨h.lt x hx,h.r x hx⟩) h.a (fun y hy x hx=>h.b y (by rw[q_];exact hy) x hx)
structure TodoInv (n:Nat) (f:Int→List Nat) (z:Int) (out todo:List Nat):Prop where
 nd:out.Nodup
 lt:∀x∈out,x<n
 r:∀x∈out,Rch f z x
 lt':∀x∈todo,x<n
 r':∀x∈todo,Rch f z x
 a:∀x∈f z,x∈out∨x∈todo
 b:∀y∈out,∀x∈f (y:Int),x∈out∨x∈todo
 t:todo.length+eU (jM out) (fun x=>(f (x:Int)).length) n≤(f z).length+eU (fun _=>true) (fun x=>(f (x:Int)).length) n
theorem TodoInv.start{n:Nat}{f:Int→List Nat}(hf:∀z,∀x∈f z,x<n){z:Int}:TodoInv n f z [] (f z):=
 {nd:=Y_,lt:=by simp,r:=by simp,lt':=hf z,r':=fun x h=> .one h,a:=fun x h=>D_ h,b:=by simp,t:=by have:=PY (p:=jM []) (g:=fun x=>(f (x:Int)).length) n;omega}
theorem Ii{l:List Nat}(h:0<l.length):l=l[0]::l.drop 1:=by
 cases l with
 |nil=>simp at h
 |cons x l=>rfl
theorem TodoInv.skip{n:Nat}{f:Int→List Nat}{z:Int}{out todo:List Nat}(h:TodoInv n f z out todo)(h0:0<todo.length)(hc:out.contains todo[0]=true):TodoInv n f z out (todo.drop 1):=by
 have he:=Ii h0;have hm:todo[0]∈out:=by simpa using hc
 have key:∀x,x∈out∨x∈todo→x∈out∨x∈todo.drop 1:=fun x hx=>by
  rcases hx with hx|hx
  ·exact r_ hx
  ·rw[he]at hx;rcases v_.1 hx with rfl|hx
   ·exact r_ hm
   ·exact D_ hx
 exact{h with lt':=fun x hx=>h.lt' x (s_ hx),r':=fun x hx=>h.r' x (s_ hx),a:=fun x hx=>key x (h.a x hx),b:=fun y hy x hx=>key x (h.b y hy x hx),t:=by have:=h.t;rw[t_];omega}
theorem TodoInv.put{n:Nat}{f:Int→List Nat}(hf:∀z,∀x∈f z,x<n){z:Int}{out todo:List Nat}(h:TodoInv n f z out todo)(h0:0<todo.length)(hc:out.contains todo[0]=false):TodoInv n f z (out++ [todo[0]]) (todo.drop 1++f (todo[0]:Int)):=by
 have he:=Ii h0;have hm:todo[0]∉out:=by simpa using hc
 have ht:=z_ h0;have key:∀x,x∈out∨x∈todo→x∈out++ [todo[0]]∨x∈todo.drop 1++f (todo[0]:Int):=fun x hx=>by
  rcases hx with hx|hx
  ·exact r_ (w_ _ hx)
  ·rw[he]at hx;rcases v_.1 hx with rfl|hx
   ·exact r_ (by simp)
   ·exact D_ (w_ _ hx)
 refine{nd:=Ef h.nd hm,lt:=fun x hx=> ?_,r:=fun x hx=> ?_,lt':=fun x hx=> ?_,r':=fun x hx=> ?_,a:=fun x hx=>key x (h.a x hx),b:=fun y hy x hx=> ?_,t:= ?_}
 ·rw[g_,h_]at hx;rcases hx with hx|rfl
  ·exact h.lt x hx
  ·exact h.lt' _ ht
 ·rw[g_,h_]at hx;rcases hx with hx|rfl
  ·exact h.r x hx
  ·exact h.r' _ ht
 ·rcases g_.1 hx with hx|hx
  ·exact h.lt' x (s_ hx)
  ·exact hf _ _ hx
 ·rcases g_.1 hx with hx|hx
  ·exact h.r' x (s_ hx)
  ·exact .more (h.r' _ ht) hx
 ·rw[g_,h_]at hy;rcases hy with hy|rfl
  ·exact key x (h.b y hy x hx)
  ·exact D_ (List.mem_append_right _ hx)
 ·have h1:=h.t;have h2:=H9 hm (g:=fun x=>(f (x:Int)).length) (h.lt' _ ht);rw[k_,t_];omega
theorem TodoInv.fin{n:Nat}{f:Int→List Nat}{z:Int}{out:List Nat}(h:TodoInv n f z out []):jy n out=cl n f z:=
 Y6 (fun x hx=>⟨h.lt x hx,h.r x hx⟩) (fun x hx=>(h.a x hx).elim id (by simp)) (fun y hy x hx=>(h.b y hy x hx).elim id (by simp))
def DL(n:Nat)(f:Int→List Nat)(out todo:List Nat):Nat:=todo.length+eU (jM out) (fun x=>(f (x:Int)).length) n
theorem Om{n:Nat}{f:Int→List Nat}{out todo:List Nat}(h0:0<todo.length):DL n f out (todo.drop 1)<DL n f out todo:=by
 unfold DL;rw[t_];omega
theorem RV{n:Nat}{f:Int→List Nat}{z:Int}{out todo:List Nat}(h:TodoInv n f z out todo)(h0:0<todo.length)(hc:out.contains todo[0]=false):DL n f (out++ [todo[0]]) (todo.drop 1++f (todo[0]:Int))<DL n f out todo:=by
 have hm:todo[0]∉out:=by simpa using hc
 have h2:=H9 hm (g:=fun x=>(f (x:Int)).length) (h.lt' _ (z_ h0));unfold DL;rw[k_,t_];omega
theorem Iq{pk:List Nat}{n m:Nat}:∀(fr:List AV),Ce pk n m fr (i_ fr.length .any)
 | []=>trivial
 |x::fr=>⟨r_ rfl,Iq fr⟩
theorem Il{pk:List Nat}{n m:Nat}{x:AV}(hx:x.fits n m=true):∀(fr:List AV) (t:Nat),fr.getD t .any=x.ren pk→Ce pk n m fr ((i_ fr.length AV.any).set t x)
 | [],t,_=>trivial
 |y::fr,0,h=>⟨D_ ⟨h,hx⟩,Iq fr⟩
 |y::fr,t+1,h=>⟨r_ rfl,Il hx fr t (by simpa using h)⟩
def Zc(t:Nat)(l:List D)(e s:Nat)(bs':List (List AC))(st:St):Prop:=
 ∃k i,st.fr.getD t .any= .c false [.own k i]∧st.owns[k]? =some ⟨l,e,s,i,true⟩∧i=0∧st.boxes=bs'
theorem Xy{P:Program}{f:Nat}{fn:Func}{code:Code}{ic:IC}{avs:List AV}{bs bs':List (List AC)}{t:Nat}{l:List D}{e s:Nat}(hf:P.funcs[f]? =some fn:=by kernel_rfl)(hb:fn.body=some code:=by kernel_rfl)(hr:fn.results= #[.tmp t]:=by kernel_rfl)(hc:ak P code=some ic)
 (h2:bs.length≤bs'.length) (hbr:∀pk,yG pk bs' bs') (hbf:(bs'.all fun xs=>xs.all (AC.fits 1 bs'.length))=true) (h:iT (0,bs.length) P ic (yJ (Zc t l e s bs')) (stS fn.ntmps avs [] bs)):fE P f avs [] bs (.c false [.own 0 0]) [⟨l,e,s,0,true⟩] bs':=by
 intro B Xs G w0 fr E a w vs hR hv;have hol:=hR.olen;have hbl:=hR.blen;simp only at hol hbl;refine calls_of_wp hf hb ?_;have:=h code hc B Xs ⟨E,[],w⟩ w0 ⟨Nat.le_refl _,by simp only;omega⟩ E _ w (Lh hR hv fn.ntmps);refine wp_mono this ?_;rintro e' a' w' ⟨st',E',g1,g2⟩;have fin:Zc t l e s bs' st'→∃v,(results fn a'.tmps).run P w'= .ok v w'∧∃v' E',Ending.returned v= .returned v'∧Rel B Xs ⟨E,[],w⟩ w0 ⟨[],[⟨l,e,s,0,true⟩],bs'⟩ E' {tmps:= #[],defers:= []} w'∧AV.ok E' [⟨l,e,s,0,true⟩] w' (.c false [.own 0 0]) v':=by
  rintro⟨k,i,q1,q2,rfl,q4⟩;have drop:∀{fr':List AV} {E'':Env},Rel B Xs ⟨E,[],w⟩ w0 ⟨fr',[⟨l,e,s,0,true⟩],bs'⟩ E'' a' w'→Rel B Xs ⟨E,[],w⟩ w0 ⟨[],[⟨l,e,s,0,true⟩],bs'⟩ E'' {tmps:= #[],defers:= []} w':=fun hh=>
   {eb:=hh.eb,ex:=hh.ex,sim:=hh.sim,defers:=rfl,size:=rfl,fr:=fun t y hy=>by simp at hy,olen:=hh.olen,own:=hh.own,blen:=hh.blen,box:=hh.box,nodup:=hh.nodup,lin:=hh.lin,unf:=hh.unf,below:=hh.below,base:=hh.base}
  have hle:zJ [k] st' ⟨(List.replicate st'.fr.length .any).set t (.c false [.own 0 0]),[⟨l,e,s,0,true⟩],bs'⟩:=⟨by simp,Il (by simp[AV.fits,AC.fits]) _ _ (by rw[q1];rfl),⟨by rw[q2];exact⟨rfl,rfl,rfl,rfl,rfl⟩,trivial⟩,by rw[q4];exact hbr _,by simpa using hbf⟩
  obtain⟨E'',hh⟩:=g1.Ur hle rfl (by simp only;omega);refine⟨_,results_tmp hr _ P w',_,E'',rfl,drop hh, ?_⟩;have hlt:t<st'.fr.length:=by
   rcases Nat.lt_or_ge t st'.fr.length with hlt|hge
   ·exact hlt
   ·rw[List.getD_eq_getElem?_getD,List.getElem?_eq_none hge]at q1;cases q1
  exact hh.fr t _ (by simp only;rw[List.getElem?_set_self (by simpa using hlt)])
 cases e' with
 | normal=>
   obtain⟨v,h3,h4⟩:=fin g2;exact⟨g1.defers,v,h3,h4⟩
 | ret=>
   obtain⟨v,h3,h4⟩:=fin g2;exact⟨g1.defers,v,h3,h4⟩
 |_=>exact g2.elim
end
section
open List renaming length_cons→a_,take_succ_eq_append_getElem→b_,length_nil→c_,length_map→d_,contains_iff_mem→e_,cons_append→f_,mem_append→g_,mem_singleton→h_,replicate→i_,nil_append→j_,length_append→k_,map_cons→l_,getElem?_eq_getElem→m_,map_nil→p_,take_length→q_,mem_of_mem_drop→s_,length_drop→t_,mem_cons→v_,mem_append_left→w_,getElem_mem→z_,mem_map→B_,getElem?_eq_none→E_,mem_cons_of_mem→G_,getElem?_map→H_,getElem?_take_of_lt→I_,map_append→K_,append_nil→L_,take_of_length_le→M_,filterMap_append→N_,mem_iff_getElem→O_,mem_of_mem_take→P_,pairwise_cons→Q_,nodup_append→R_,length_take→U_,mem_range→X_,nodup_nil→Y_,map_drop→a_c,map_map→a_f
open Nat renaming reduceAdd→n_,reduceSub→o_,le_refl→x_,zero_le→y_,lt_or_ge→a_d
open Or renaming inl→r_,inr→D_
open Bool renaming eq_iff_iff→u_,or_eq_true→V_
open Int renaming ofNat→A_
open Value renaming int→C_
open Lib renaming hid→F_
attribute [local irreducible] sw sd sn
def BK :IC:=(zd_ [zj_ 4 false] (.seq (zd_ [zk_ 5 0] (.block 0 (.loop (.seq (zd_ [zw_ 6 5,zw_ 7 0,zf_ 8 false 7,zl_ 9 .lss 6 8] (.cond (.t 9) .skip (.exit 0))) (.seq (.block 1 (zd_ [zw_ 12 0,zw_ 13 5,ze_ 14 1 12 13,zs_ 15 1 14,zw_ 16 1,zl_ 17 .eql 15 16] (.cond (.t 17) (zd_ [zj_ 4 true] .ret) .skip))) (.reg false [zw_ 10 5,zm_ 11 .add 10 1,zw_ 5 11])))))) (zd_ [zj_ 4 false] .ret)))
theorem EO :ak Tryz.prog (Tryz.f67.body.getD .skip)=some BK:=by kernel_rfl
theorem jZ(l:List Nat)(z:Int)(hn:l.length≤4194304):aB Tryz.prog 67 [.sl (l.map ln),li z] (.c false [.raw (.bool (oG l z))]):=by
 refine kQ (fn:=Tryz.f67) (t:=4) (hc:=EO) (h:= ?_);unfold BK;refine zb_ ?_;change AWP _ _ _ (st0 18 _);simp only[undef,stS,st0,stN,D.av,D.avN,dn,aY,dA,dw,gy,dD,eY,eX,aW,aJ,aG,l_,p_,i_,f_,j_,a_,c_,n_,o_]
 repeat' (first|(refine rg_ ?_;intro K hK)|(refine hq_ ?_;clear hK K)|refine ca_ ?_ ?_|refine sz_ (a3_ @aW @aJ @aG) ?_|refine nv ?_|(refine c2_ ?_ ?_<;>(intro hb hb';try(exfalso;omega)))|exact bq_|fail)
 refine dZ (X:=Nat) (fun q=> [.k,.k,.d,.d,.d,.v (.c false [.raw (.int .i64 (q:Nat))])]) (fun q=> []) (fun q bs=> []) (fun q=>q≤l.length∧oG (l.take q) z=false) (fun q=>l.length - q) 0 ⟨y_ _,by simp[oG]⟩ ?_ ?_
 ·simp[bU,dW,bH,bK,AV.fits,AC.fits,FB,bQ]
 rintro k ⟨hk,hf⟩;simp only[FB,bQ];by_cases hlt:k<l.length
 ·cases he:(((l[k]:Nat):Int)==z)with
  | true=>
    have ht:=QX hlt he
    repeat' (first|(refine rg_ ?_;intro K hK)|(refine hq_ ?_;clear hK K)|refine ca_ ?_ ?_|refine sz_ (a4_ @aW @aJ @aG he) ?_|refine nv ?_|(refine c2_ ?_ ?_<;>(intro hb hb';try(exfalso;omega)))|exact bq_|fail)
    exact aU ⟨_,rfl,by rw[ht];rfl,trivial⟩
  | false=>
    have ht:=Ij l z hlt;rw[hf,he]at ht
    repeat' (first|(refine rg_ ?_;intro K hK)|(refine hq_ ?_;clear hK K)|refine ca_ ?_ ?_|refine sz_ (a4_ @aW @aJ @aG he) ?_|refine nv ?_|(refine c2_ ?_ ?_<;>(intro hb hb';try(exfalso;omega)))|exact bq_|fail)
    refine dB (k+1) ?_ ⟨by omega,ht⟩ (show l.length - (k+1)<l.length - k by omega);simp[bU,dW,bH,bK,AV.fits,AC.fits,FB,bQ]
 ·obtain rfl:k=l.length:=by omega
  rw[q_]at hf
  repeat' (first|(refine rg_ ?_;intro K hK)|(refine hq_ ?_;clear hK K)|refine ca_ ?_ ?_|refine sz_ (a3_ @aW @aJ @aG) ?_|refine nv ?_|(refine c2_ ?_ ?_<;>(intro hb hb';try(exfalso;omega)))|exact bq_|fail)
  exact aU ⟨_,rfl,by rw[hf];rfl,trivial⟩
def Ih :IC:=(zd_ [zj_ 4 false] (.seq (zd_ [zw_ 7 0,zf_ 8 false 7,zk_ 9 0] (.block 0 (.loop (zd_ [zl_ 10 .lss 9 8] (.seq (.cond (.t 10) .skip (.exit 0)) (.seq (.block 1 (zd_ [ze_ 11 1 7 9,zs_ 12 1 11,zw_ 6 12] (zd_ [zw_ 13 6,zw_ 14 1,zl_ 15 .eql 13 14] (.cond (.t 15) (zd_ [zj_ 4 true] .ret) .skip)))) (.reg false [zm_ 16 .add 9 1,zw_ 9 16]))))))) (zd_ [zj_ 4 false] .ret)))
theorem JG :ak Tryz.prog (Tryz.f72.body.getD .skip)=some Ih:=by kernel_rfl
theorem Az(l:List Nat)(z:Int)(hn:l.length≤4194304):aB Tryz.prog 72 [.sl (l.map ln),li z] (.c false [.raw (.bool (oG l z))]):=by
 refine kQ (fn:=Tryz.f72) (t:=4) (hc:=JG) (h:= ?_);unfold Ih;refine zb_ ?_;change AWP _ _ _ (st0 17 _);simp only[undef,stS,st0,stN,D.av,D.avN,dn,aY,dA,dw,gy,dD,eY,eX,aW,aJ,aG,l_,p_,i_,f_,j_,a_,c_,n_,o_]
 repeat' (first|(refine rg_ ?_;intro K hK)|(refine hq_ ?_;clear hK K)|refine ca_ ?_ ?_|refine sz_ (a3_ @aW @aJ @aG) ?_|refine nv ?_|(refine c2_ ?_ ?_<;>(intro hb hb';try(exfalso;omega)))|exact bq_|fail)
 refine dZ (X:=Nat) (fun q=> [.d,.k,.d,.d,.d,.d,.d,.k,.k,.v (.c false [.raw (.int .i64 (q:Nat))])]) (fun q=> []) (fun q bs=> []) (fun q=>q≤l.length∧oG (l.take q) z=false) (fun q=>l.length - q) 0 ⟨y_ _,by simp[oG]⟩ ?_ ?_
 ·simp[bU,dW,bH,bK,AV.fits,AC.fits,FB,bQ]
 rintro k ⟨hk,hf⟩;simp only[FB,bQ];by_cases hlt:k<l.length
 ·cases he:(((l[k]:Nat):Int)==z)with
  | true=>
    have ht:=QX hlt he
    repeat' (first|(refine rg_ ?_;intro K hK)|(refine hq_ ?_;clear hK K)|refine ca_ ?_ ?_|refine sz_ (a4_ @aW @aJ @aG he) ?_|refine nv ?_|(refine c2_ ?_ ?_<;>(intro hb hb';try(exfalso;omega)))|exact bq_|fail)
    exact aU ⟨_,rfl,by rw[ht];rfl,trivial⟩
  | false=>
    have ht:=Ij l z hlt;rw[hf,he]at ht
    repeat' (first|(refine rg_ ?_;intro K hK)|(refine hq_ ?_;clear hK K)|refine ca_ ?_ ?_|refine sz_ (a4_ @aW @aJ @aG he) ?_|refine nv ?_|(refine c2_ ?_ ?_<;>(intro hb hb';try(exfalso;omega)))|exact bq_|fail)
    refine dB (k+1) ?_ ⟨by omega,ht⟩ (show l.length - (k+1)<l.length - k by omega);simp[bU,dW,bH,bK,AV.fits,AC.fits,FB,bQ]
 ·obtain rfl:k=l.length:=by omega
  rw[q_]at hf
  repeat' (first|(refine rg_ ?_;intro K hK)|(refine hq_ ?_;clear hK K)|refine ca_ ?_ ?_|refine sz_ (a3_ @aW @aJ @aG) ?_|refine nv ?_|(refine c2_ ?_ ?_<;>(intro hb hb';try(exfalso;omega)))|exact bq_|fail)
  exact aU ⟨_,rfl,by rw[hf];rfl,trivial⟩
def Ie :IC:=(zd_ [zz_ 2 (.mov (.k (.slice none 0 0)))] (zd_ [zz_ 7 (.brow true 3 1 0 false []),zw_ 3 7] (.seq (zd_ [zk_ 4 0] (.block 0 (.loop (.seq (zd_ [zw_ 8 4,zw_ 9 0,zf_ 10 false 9,zl_ 11 .lss 8 10] (.cond (.t 11) .skip (.exit 0))) (.seq (.block 1 (.seq (zd_ [zw_ 14 3,zw_ 15 0,zw_ 16 4,ze_ 17 1 15 16,zs_ 18 1 17,zp_ 19 67 14 18] (.cond (.t 19) (.exit 1) .skip)) (zd_ [zk_ 5 0] (.seq (.block 2 (.loop (.seq (.seq (.reg true [zw_ 20 5,zw_ 21 3,zf_ 22 false 21,zl_ 23 .lss 20 22,zw_ 24 23,zv_ 25 24 3,zv_ 26 24 5,zy_ 27 24 (.iad 1 (.t 25) (.t 26)),zy_ 28 24 (.load 1 false (.t 27)),zv_ 29 24 0,zv_ 30 24 4,zy_ 31 24 (.iad 1 (.t 29) (.t 30)),zy_ 32 24 (.load 1 false (.t 31)),zy_ 33 24 (.bin .lss (.t 28) (.t 32)),zh_ 34 24 33 false]) (.cond (.t 34) .skip (.exit 2))) (.block 3 (.reg false [zw_ 35 5,zm_ 36 .add 35 1,zw_ 5 36]))))) (zd_ [zz_ 37 (.brow true 3 1 0 false []),zw_ 38 3,zw_ 39 5,zz_ 40 (.lsl 1 (.t 38) none (some (.t 39))),zz_ 41 (.app 3 1 (.t 37) (.t 40)),zw_ 6 41] (zd_ [zw_ 42 6,zw_ 43 0,zw_ 44 4,ze_ 45 1 43 44,zs_ 46 1 45,zz_ 47 (.brow false 3 1 1 false [(.t 46)]),zz_ 48 (.app 3 1 (.t 42) (.t 47)),zw_ 6 48] (.reg false [zw_ 49 6,zw_ 50 3,zw_ 51 5,zz_ 52 (.lsl 1 (.t 50) (some (.t 51)) none),zz_ 53 (.app 3 1 (.t 49) (.t 52)),zw_ 3 53]))))))) (.reg false [zw_ 12 4,zm_ 13 .add 12 1,zw_ 4 13])))))) (zd_ [zw_ 54 3,zw_ 2 54] .ret))))
theorem JE :ak Tryz.prog (Tryz.f101.body.getD .skip)=some Ie:=by kernel_rfl
theorem Ia(n:Nat)(l:List Nat)(hb:∀x∈l,x<n)(hn:n≤1048576)(hl:l.length≤2199023255552):dU Tryz.prog 101 [.sl (l.map ln)] ((jy n l).map ln) 3 1:=by
 refine jH (fn:=Tryz.f101) (t:=2) (hc:=JE) (h:= ?_);unfold Ie;refine zb_ ?_;change AWP _ _ _ (st0 55 _);simp only[undef,stS,st0,stN,D.av,D.avN,dn,aY,dA,dw,gy,dD,eY,eX,aW,aJ,aG,l_,p_,i_,f_,j_,a_,c_,n_,o_]
 repeat' (first|(refine hq_ ?_;clear hK K)|refine ca_ ?_ ?_|refine gq_ ?_|(refine c2_ ?_ ?_<;>(intro hb hb';try(exfalso;omega)))|refine sz_ (a3_ @aW @aJ @aG) ?_|refine nv ?_|(refine rD ?_;intro K hK)|exact bq_|fail)
 refine Ua (X:=Nat×Nat) (fun q=> [.k,.d,.d,.v (.c false [.own 0 q.2]),.v (.c false [.raw (.int .i64 (q.1:Nat))])]) (fun q=> [⟨(jy n (l.take q.1)).map ln,3,1,q.2,true⟩]) (fun q bs=> []) (fun q=>q.1≤l.length) (fun q=>l.length - q.1) (0,0) [0] (y_ _) ?_ ?_
 ·simp[zJ,Ce,Bf,yG,AV.ren,AC.ren,AV.fits,AC.fits,FB,bQ,KX]
 rintro⟨i,v⟩ hi;have hi':i≤l.length:=hi;clear hi;simp only[FB,bQ];by_cases hlt:i<l.length
 ·have hx:=hb l[i] (z_ hlt);have hsl:=uM n (fun k=>(l.take i).contains k);obtain⟨s,hs⟩:∃s,jy n (l.take i)=s:=⟨_,rfl⟩
  have hss:(iE n fun k=>(l.take i).contains k)=s:=hs;rw[hss]at hsl;rw[hs];cases hh:oG s ((l[i]:Nat):Int)with
  | true=>
    have hnx:jy n (l.take (i+1))=s:=by rw[UN hlt hx (by rw[hs,← pF];exact hh),hs]
    repeat' (first|(refine hq_ ?_;clear hK K)|refine ca_ ?_ ?_|refine gq_ ?_|(refine c2_ ?_ ?_<;>(intro hb hb';try(exfalso;omega)))|(refine cg_ ?_;first|refine cT_ (jZ s ((l[i]:Nat):Int) (by omega)) ?_)|refine sz_ (a4_ @aW @aJ @aG hh) ?_|refine nv ?_|(refine rD ?_;intro K hK)|exact bq_|fail)
    all_goals
     refine U3 (i+1,v) [0] ?_ (show i+1≤l.length by omega) (show l.length - (i+1)<l.length - i by omega);simp[zJ,Ce,Bf,yG,AV.ren,AC.ren,AV.fits,AC.fits,FB,bQ,hnx]
  | false=>
    have hc:(jy n (l.take i)).contains l[i]=false:=by rw[hs,← pF];exact hh
    repeat' (first|(refine hq_ ?_;clear hK K)|refine ca_ ?_ ?_|refine gq_ ?_|(refine c2_ ?_ ?_<;>(intro hb hb';try(exfalso;omega)))|(refine cg_ ?_;first|refine cT_ (jZ s ((l[i]:Nat):Int) (by omega)) ?_)|refine sz_ (a4_ @aW @aJ @aG hh) ?_|refine nv ?_|(refine rD ?_;intro K hK)|exact bq_|fail)
    refine dZ (X:=Nat) (fun q=> [.k,.d,.d,.k,.k,.v (.c false [.raw (.int .i64 (q:Nat))])]) (fun q=> [⟨s.map ln,3,1,v,true⟩]) (fun q bs=> []) (fun q=>q≤s.length∧∀(j:Nat) (h:j<q) (h2:j<s.length),s[j]<l[i]) (fun q=>s.length - q) 0 ⟨y_ _,fun j h=>by omega⟩ ?_ ?_
    ·simp[bU,dW,bH,bK,AV.fits,AC.fits,FB,bQ]
    rintro pos ⟨hp,hlow⟩;simp only[FB,bQ];have htk:(s.map ln).take s.length=s.map ln:=M_ (by simp);have fin:(∀(h:pos<s.length),l[i]≤s[pos])→(jy n (l.take (i+1))).map ln=(s.map ln).take pos++(ln l[i]::(s.map ln).drop pos):=fun h2=>by
     have h3:=UM (pos:=pos) hlt hx hc (by rw[hs];exact hp) (fun j h=>by have:=hlow j h (by omega);simpa only[hs]using this) (fun h=>by simp only[hs]at h⊢;exact h2 h);rw[hs]at h3;rw[← h3,K_,l_,List.map_take,a_c]
    repeat' (first|(refine hq_ ?_;clear hK K)|refine ca_ ?_ ?_|refine gq_ ?_|(refine c2_ ?_ ?_<;>(intro hb hb';try(exfalso;omega)))|(with_reducible refine Yk ?_)|refine sz_ (a3_ @aW @aJ @aG) ?_|refine nv ?_|(refine rD ?_;intro K hK)|exact bq_|fail)
    ·refine dB (pos+1) ?_ ⟨by omega,fun j hj h2=> ?_⟩ (show s.length - (pos+1)<s.length - pos by omega)
     ·simp[bU,dW,bH,bK,AV.fits,AC.fits,FB,bQ]
     ·rcases a_d j pos with h3|h3
      ·exact hlow j h3 h2
      ·obtain rfl:j=pos:=by omega
       omega
    all_goals
     (have hmap:=fin (fun h=>by omega)
      refine U3 (i+1,3) [1] ?_ (show i+1≤l.length by omega) (show l.length - (i+1)<l.length - i by omega);simp[zJ,Ce,Bf,yG,AV.ren,AC.ren,AV.fits,AC.fits,FB,bQ,hmap,htk,ln,li])
 ·obtain rfl:i=l.length:=by omega
  rw[q_]
  repeat' (first|(refine hq_ ?_;clear hK K)|refine ca_ ?_ ?_|refine gq_ ?_|(refine c2_ ?_ ?_<;>(intro hb hb';try(exfalso;omega)))|refine sz_ (a3_ @aW @aJ @aG) ?_|refine nv ?_|(refine rD ?_;intro K hK)|exact bq_|fail)
  exact aU ⟨0,_,_,rfl,rfl,rfl,rfl,rfl,rfl,r_ rfl⟩
end
section
open List renaming length_cons→a_,take_succ_eq_append_getElem→b_,length_nil→c_,length_map→d_,contains_iff_mem→e_,cons_append→f_,mem_append→g_,mem_singleton→h_,replicate→i_,nil_append→j_,length_append→k_,map_cons→l_,getElem?_eq_getElem→m_,map_nil→p_,take_length→q_,mem_of_mem_drop→s_,length_drop→t_,mem_cons→v_,mem_append_left→w_,getElem_mem→z_,mem_map→B_,getElem?_eq_none→E_,mem_cons_of_mem→G_,getElem?_map→H_,getElem?_take_of_lt→I_,map_append→K_,append_nil→L_,take_of_length_le→M_,filterMap_append→N_,mem_iff_getElem→O_,mem_of_mem_take→P_,pairwise_cons→Q_,nodup_append→R_,length_take→U_,mem_range→X_,nodup_nil→Y_,map_drop→a_c,map_map→a_f
open Nat renaming reduceAdd→n_,reduceSub→o_,le_refl→x_,zero_le→y_,lt_or_ge→a_d
open Or renaming inl→r_,inr→D_
open Bool renaming eq_iff_iff→u_,or_eq_true→V_
open Int renaming ofNat→A_
open Value renaming int→C_
open Lib renaming hid→F_
def xg(l:List Int):List Int:=l.mergeSort fun x y=>decide (x≤y)
theorem qX(l:List Int):(xg l).length=l.length:=by simp[xg]
section
open Go.Sort
theorem JI{w:World}{g n:Nat}{os:Array Obj}{cur:Array Value}{e:TypeId}{fr:Nat×Nat}(d:Array Int)(hb:w.heap[g]? =some (.cells cur e fr)):
 (grow (putRow (C_ .i64) (Sort.ahead w n) g 0 d) os).heap[g]? =some (.cells (putCells (C_ .i64) 0 d cur) e fr):=by
 have hg:g<w.heap.size:=(Array.getElem?_eq_some_iff.1 hb).1;rw[heap_grow_old _ _ (by simpa using hg)];simp[putRow,mapBlock,Sort.ahead,Array.getElem?_modify,hb,onCells]
theorem CJ{w:World}{g n:Nat}{os:Array Obj}(d:Array Int):w.grownBy (grow (putRow (C_ .i64) (Sort.ahead w n) g 0 d) os) (some g):=by
 refine⟨rfl,rfl,rfl,by simp,fun k hk hne=> ?_⟩;rw[heap_grow_old _ _ (by simpa using hk)];have:g≠k:=fun e=>hne (by rw[e])
 simp[putRow,mapBlock,Sort.ahead,Array.getElem?_modify,this]
theorem RZ(cur:Array Value)(ts:List Int)(h:ts.length≤cur.size):(putCells (C_ .i64) 0 ts.toArray cur).toList.take ts.length=ts.map (C_ .i64):=by
 apply List.ext_getElem?;intro j;by_cases hj:j<ts.length
 ·rw[I_ hj,Array.getElem?_toList];simp[putCells,hj,show j<cur.size by omega]
 ·rw[List.getElem?_take_eq_none (by omega),E_ (by simp;omega)]
theorem Jg(l:List Int)(g c base:Nat)(w:World)(h:dQ w base 3 1 (l.map li) [] (.slice (some ⟨g,0,none⟩) l.length c))(hn:l.length≤4194304):
 Calls Tryz.prog 108 #[.slice (some ⟨g,0,none⟩) l.length c] w fun e w'=>e= .returned (.tuple #[])∧dQ w' base 3 1 ((xg l).map li) [] (.slice (some ⟨g,0,none⟩) l.length c)∧w.grownBy w' (some g):=by
 obtain⟨cs,⟨h1,h2⟩,h3,h4,h5⟩:=h;obtain⟨_,rfl⟩:=tX.1 h3;rw[d_]at h1 h2;rcases h2 with⟨h6,_⟩|⟨g',cap,cur,h6,h7,h8,h9,h10,h11,h12⟩
 ·injection h6 with h6
  cases h6
 ·injection h6 with h61 _ h63
  injection h61 with h61
  injection h61 with h61
  subst h61 h63;have hg:g<w.heap.size:=(Array.getElem?_eq_some_iff.1 h8).1;have hH:Go.Sort.Holds (C_ .i64) w g 0 l.toArray:=by
   intro j hj;have hj':j<l.length:=by simpa using hj
   have hc:cur[j]? =some (.int .i64 l[j]):=by
    have e:(cur.toList.take (l.length*1))[j]? =(l.map (C_ .i64))[j]? :=by rw[h12]
    rw[I_ (by omega),Array.getElem?_toList,H_,m_ hj']at e;exact e
   refine⟨?_,by simp[World.frozen?,h8]⟩;have e2:C_ .i64 l.toArray[j]! = .int .i64 l[j]:=by
    rw[getElem!_pos _ j hj];simp
   rw[e2];simpa[World.cell?,h8]using hc
  have hc:=Tryz.sort_Ints g 0 c l w hH hg (by omega);refine hc.mono ?_;rintro e w' ⟨rfl,n,os,rfl⟩;refine⟨rfl,⟨(xg l).map (C_ .i64), ?_,tX.2 ⟨rfl,rfl⟩,aV.nil,fun _ _=>by simp⟩,CJ _⟩;rw[d_,qX];refine⟨by simp[qX],.inr ⟨g,c,_,rfl,h7,JI _ h8,h9,h10,by simp[putCells,h11], ?_⟩⟩;have:=RZ cur (xg l) (by rw[qX,h11];omega);rw[qX]at this;rw[Nat.mul_one];exact this
end
def jm(l:List Nat):Nat→List Nat
 |0=> []
 |k+1=>jm l k++(match l[k]? with|some x=>if(l.take k).contains x then []else [x]|none=> [])
theorem yC(l:List Nat){k:Nat}(h:k<l.length):jm l (k+1)=jm l k++(if(l.take k).contains l[k]then []else [l[k]]):=by rw[jm,m_ h]
theorem rP(l:List Nat):∀k,k≤l.length→∀x,x∈jm l k↔x∈l.take k
 |0,_,x=>by simp[jm]
 | k +1,h,x=>by
   have hk:k<l.length:=by omega
   have ih:=rP l k (by omega) x;rw[yC l hk,b_ hk,g_,g_,ih];cases hc:(l.take k).contains l[k]with
   | true=>
     rw[if_pos rfl];rw[e_]at hc;constructor
     ·rintro(h|h)
      ·exact r_ h
      ·simp at h
     ·rintro(h|h)
      ·exact r_ h
      ·rw[h_]at h;subst h;exact r_ hc
   |false=>rw[if_neg (by simp)]
theorem qy(l:List Nat):∀k,k≤l.length→(jm l k).Nodup
 |0,_=>Y_
 | k +1,h=>by
   have hk:k<l.length:=by omega
   rw[yC l hk];cases hc:(l.take k).contains l[k]with
   |true=>rw[if_pos rfl,L_];exact qy l k (by omega)
   | false=>
     rw[if_neg (by simp),R_];refine⟨qy l k (by omega),by simp,fun a ha b hb e=> ?_⟩;rw[h_]at hb;subst hb e;rw[rP l k (by omega),← e_]at ha;rw[ha]at hc;cases hc
theorem Rq(n:Nat)(l:List Nat)(hb:∀x∈l,x<n)(k:Nat)(hk:k≤l.length):(jm l k).length≤n:=
 wz (qy l k hk) fun x hx=>hb x (P_ ((rP l k hk x).1 hx))
theorem Sv(n:Nat)(l:List Nat)(hb:∀x∈l,x<n):(xg ((jm l l.length).map A_)).map li=(jy n l).map ln:=by
 have hperm:(xg ((jm l l.length).map A_)).Perm ((jm l l.length).map A_):=List.mergeSort_perm _ _;have hsort:=List.pairwise_mergeSort (le:=fun x y:Int=>decide (x≤y)) (fun a b c h1 h2=>by simp at*;omega) (fun a b=>by simp;omega) ((jm l l.length).map A_);have hnd:(xg ((jm l l.length).map A_)).Nodup:=by
  refine hperm.nodup_iff.2 ?_;exact(qy l _ (x_ _)).map _ (fun a b hab e=>hab (Int.ofNat.inj e))
 have hm:∀z∈xg ((jm l l.length).map A_),∃x∈l,z=(x:Int):=fun z hz=>by
  obtain⟨x,hx,rfl⟩:=B_.1 (hperm.mem_iff.1 hz);rw[rP l _ (x_ _),q_]at hx;exact⟨x,hx,rfl⟩
 have e:(xg ((jm l l.length).map A_)).map Int.toNat=jy n l:=by
  refine P5 ?_ (fun x=> ?_)
  ·rw[List.pairwise_map];have h2:=hsort.and hnd;refine(List.Pairwise.imp_of_mem ?_ h2);intro a b ha hb' hab;obtain⟨x,_,rfl⟩:=hm a ha;obtain⟨y,_,rfl⟩:=hm b hb';have h3:=of_decide_eq_true hab.1;have h4:=hab.2;omega
  ·constructor
   ·intro hx;obtain⟨z,hz,rfl⟩:=B_.1 hx;obtain⟨y,hy,rfl⟩:=hm z hz;exact⟨by simpa using hb y hy,by simpa using hy⟩
   ·rintro⟨_,hx⟩;refine B_.2 ⟨(x:Int),hperm.mem_iff.2 (B_.2 ⟨x, ?_,rfl⟩),by simp⟩;rw[rP l _ (x_ _),q_];exact hx
 rw[← e,a_f];refine List.map_congr_left fun z hz=> ?_
 obtain⟨x,_,rfl⟩:=hm z hz;rfl
theorem xR{H:Type}{P:Program}{e:TypeId}(he:P.underlying e=some .bool){v:Value}{z:DataW H×List MemPlace}(h:plainElem P e v=some z):∃b,v= .bool b∧z=(.lit (.bool b),[]):=by
 unfold plainElem at h;rw[he]at h;cases v<;>simp at h
 exact⟨_,rfl,h.symm⟩
def oV(w:World)(b n:Nat)(l:List Nat):Prop:=∃D:DataW Unit,w.ownsMap Tryz.prog 3 (plainElem Tryz.prog 4) b n D∧Maps.IsMap D∧∀x:Nat,(Lit.int .i64 (x:Int)).wf=true→D.atKey (.int .i64 (x:Int)) (.lit (.bool false))= .lit (.bool (l.contains x))
def mt :TypeId:=134
theorem ZY :Tryz.prog.underlying mt=some (.map 3 4):=by kernel_rfl
theorem QN :Tryz.prog.underlying 3=some (.int .i64):=by kernel_rfl
theorem Pn :Tryz.prog.underlying 4=some .bool:=by kernel_rfl
theorem ZJ(w:World):(zeroValue 4).run Tryz.prog w= .ok (.bool false) w:=by kernel_rfl
theorem oV.look{w:World}{b n:Nat}{l:List Nat}(h:oV w b n l){x:Nat}(hx:(Lit.int .i64 (x:Int)).wf=true):(Instr.lookup mt (.map (some b)) (.int .i64 (x:Int)) false).run Tryz.prog w= .ok (.bool (l.contains x)) w:=by
 obtain⟨D,h1,h2,h3⟩:=h;obtain⟨v,ps,hrun,hv⟩:=h1.lookup (Maps.int_keyed QN) ZY (ZJ w) (plainElem_bool Pn false) (Maps.keyOf_int_mk QN hx);obtain⟨c,rfl,hc⟩:=xR Pn hv;simp only[Prod.mk.injEq]at hc;rw[h3 x hx]at hc;have:c=l.contains x:=by have:=hc.1;simpa using this.symm
 rw[hrun,this]
theorem oV.put{w:World}{b n:Nat}{l:List Nat}(h:oV w b n l){x:Nat}(hx:(Lit.int .i64 (x:Int)).wf=true)(hn:n<maxLen):
 ∃w',(Instr.mapUpdate mt (.map (some b)) (.int .i64 (x:Int)) (.bool true)).run Tryz.prog w= .ok () w'∧oV w' b (n+1) (l++ [x])∧w.grownBy w' (some b):=by
 obtain⟨D,h1,h2,h3⟩:=h;obtain⟨w',hrun,g1,g2⟩:=h1.update (Maps.int_keyed QN) ZY hn (Maps.keyOf_int_mk QN hx) (plainElem_bool Pn true);refine⟨w',hrun,⟨_,g1,h2.put _ _,fun y hy=> ?_⟩,g2⟩;by_cases e:y=x
 ·subst e;rw[Maps.atKey_put_same h2 (by simp[WideAt.IsKeyLit])];simp
 ·rw[Maps.atKey_put_other (fun h=>e (by simp only[Lit.int.injEq,true_and]at h;omega)),h3 y hy];have:(l++ [x]).contains y=l.contains y:=by
   rw[u_];simp[e]
  rw[this]
theorem oV.mono{w:World}{b n m:Nat}{l:List Nat}(h:oV w b n l)(hm:n≤m):oV w b m l:=by
 obtain⟨D,h1,h2,h3⟩:=h;exact⟨D,h1.mono hm,h2,h3⟩
theorem oV.kept{w w':World}{row:Option Nat}{b n:Nat}{l:List Nat}(h:oV w b n l)(hg:w.grownBy w' row)(hne:some b≠row):oV w' b n l:=by
 obtain⟨D,h1,h2,h3⟩:=h;exact⟨D,h1.kept hg hne,h2,h3⟩
theorem oV.alloc{w:World}{b n:Nat}{l:List Nat}(h:oV w b n l)(o:Obj):oV (w.alloc o) b n l:=by
 obtain⟨D,h1,h2,h3⟩:=h;exact⟨D,h1.alloc o,h2,h3⟩
theorem oV.congr{w:World}{b n:Nat}{l m:List Nat}(h:oV w b n l)(hlm:∀x,l.contains x=m.contains x):oV w b n m:=by
 obtain⟨D,h1,h2,h3⟩:=h;exact⟨D,h1,h2,fun x hx=>by rw[h3 x hx,hlm]⟩
theorem oV.made(w:World):oV (w.alloc (.map #[] 0)) w.heap.size 0 []:=⟨.map [],World.ownsMap_made w _ _ _,Maps.isMap_empty,fun x _=>by simp[DataW.atKey]⟩
theorem oV.lt{w:World}{b n:Nat}{l:List Nat}(h:oV w b n l):b<w.heap.size:=by
 obtain⟨D,h1,_⟩:=h;exact h1.lt
theorem dQ.grown{w w':World}{base:Nat}{e:TypeId}{s:Nat}{l:List D}{v:Value}{row:Option Nat}(h:dQ w base e s l [] v)(hg:w.grownBy w' row)(hne:v.ownBlock=Option.none∨v.ownBlock≠row):dQ w' base e s l [] v:=by
 obtain⟨cs,h1,h2,h3,h4⟩:=h;exact⟨cs,h1.kept hg hne,h2.same (fun b hb=>by simp at hb) hg.size,aV.nil,fun _ _=>by simp⟩
theorem Yl{l:List Nat}:∀d∈l.map ln,d.one:=fun d h=>by obtain⟨x,_,rfl⟩:=B_.1 h;rfl
theorem Wi{l:List Nat}:∀d∈l.map ln,d.sz=1:=fun d h=>by obtain⟨_,_,rfl⟩:=B_.1 h;rfl
theorem Zf{x:Nat}(h:x≤1048576):(Lit.int .i64 (x:Int)).wf=true:=by
 have h1:IntKind.i64.min≤(x:Int):=by simp[IntKind.min,IntKind.signed,IntKind.bits]
 have h2:(x:Int)≤IntKind.i64.max:=by simp[IntKind.max,IntKind.signed,IntKind.bits];omega
 simp[Lit.wf,h1,h2];omega
theorem Ov(n:Nat)(l:List Nat)(hbn:∀x∈l,x<n)(hn1:n≤1048576)(hll:l.length≤2199023255552)(fp:List Nat)(v:Value)(w:World)(hS:Sl w (l.map ln) fp v):
 Calls Tryz.prog 102 #[v] w (qI false ((jy n l).map ln) 3 1 w):=by
 obtain⟨A,c,rfl,hl,hc⟩:=hS.au;have hm:l.length≤9223372036854775807:=by omega
 have hn':=F_ hll;have hn1':=F_ hn1;clear hl hc hll hn1;have hmm:= @run_makeMap Tryz.prog
 go_enter Tryz.func102,Tryz.ntmps102
 go_wp2_with fail
 go_loopw [4,11] (fun nv iv wr=>∃(k g c1:Nat),k≤l.length∧iv= .int .i64 k∧nv= .slice (some ⟨g,0,none⟩) (jm l k).length c1∧dQ wr (w.heap.size+1) 3 1 ((jm l k).map ln) [] nv∧oV wr w.heap.size k (l.take k)∧Below w.heap.size w wr) (fun _ iv _=>l.length - (intOf iv).toNat)
 case atStart=>exact⟨0,_,_,by omega,rfl,rfl,dQ.lit (by simp) (x_ _),(oV.made w).alloc _,((Below.refl _ _).alloc (x_ _) _).alloc (by simp) _⟩
 case round=>
  obtain⟨k,g,c1,hk,rfl,rfl,ho,hse,hb⟩:=hrel;by_cases hlt:k<l.length
  ·have hd:(l.map ln)[k]? =some (ln l[k]):=by rw[H_,m_ hlt];rfl
   obtain⟨b,o,fi,ci,rfl,hbb,hbf,hri,hfi,hat⟩:=hS.elem Wi hd;obtain⟨rfl,rfl⟩:=hri;simp only[Nat.mul_one]at hat;have q0:wr.cell? ⟨b,o+k,none⟩=some (.int .i64 ((l[k]:Nat):Int)):=(hb.cell (p:=⟨b,o+k,none⟩) hbb).trans hat.head;have hsu:=F_ (yC l hlt);have hfl:=F_ (Rq n l hbn k hk);have hwf:=F_ (Zf (x:=l[k]) (by have:=hbn l[k] (z_ hlt);have:=hn1'.out;omega));have hlook:=hse.look hwf.out;clear hat hd;cases e1:(l.take k).contains l[k]with
   | true=>
     rw[e1]at hlook;have e2:=F_ (show jm l (k+1)=jm l k by rw[hsu.out,if_pos e1,L_]);have hse2:oV wr w.heap.size (k+1) (l.take (k+1)):=(hse.mono (Nat.le_succ k)).congr (fun x=>by
      rw[b_ hlt,u_];simp only[e_,g_,h_];rw[e_]at e1;exact⟨r_,fun h=>h.elim id (fun h=>h▸e1)⟩)
     unfold mt at hlook;clear e1
     go_wp2_with fail
     go_roundw
     case rel=>exact⟨k+1,g,c1,by omega,by go_num,by rw[e2.out],by rw[e2.out];exact ho,hse2,hb⟩
     case measure=>(simp[intOf]<;>omega)
   | false=>
     rw[e1]at hlook;have e2:=F_ (show jm l (k+1)=jm l k++ [l[k]] by rw[hsu.out,if_neg (by rw[e1];simp)]);obtain⟨w1,hput,hse1,hg1⟩:=hse.put hwf.out (by have:=hn'.out;unfold maxLen;omega);have ho1:=ho.grown hg1 (D_ (fun e=>by have:=(ho.ge w.heap.size e).1;omega));have hb1:Below w.heap.size w w1:=hb.grown hg1 hb.size (fun b h=>by have h:=Option.some.inj h;omega);have hgne:∀g',(Value.slice (some ⟨g,0,none⟩) (jm l k).length c1).ownBlock=some g'→w.heap.size≠g':=fun g' h e=>by have:=(ho.ge g' h).1;omega
     have hs1:w.heap.size<w1.heap.size:=hse1.lt;have htk:l.take (k+1)=l.take k++ [l[k]]:=b_ hlt;have htk':=F_ htk;rw[← htk]at hse1;unfold mt at hlook hput;clear e1 htk hse
     go_wp2_with (at_builtin;refine lG rfl WV (.tmp 21) (.tmp 23) rfl (w.heap.size+1) _ (by rfl) _ [] (ho1.below ((Below.refl _ _).alloc (x_ _) _)) ([l[k]].map ln) [] _ (by rfl) (Src.one (Row.Jy rfl) ⟨rfl,rfl⟩) Yl Wi lq qx (by have:=hfl.out;have:=hn1'.out;simp;omega) (by simp;omega) ?_;intro v1 w2 ho2 hg2 hat2)
     rw[← K_,← e2.out]at ho2;have hlen:0<(jm l (k+1)).length:=by rw[e2.out];simp
     obtain⟨g5,c5,hv5⟩:=ho2.Dv (by rw[d_];exact hlen);rw[d_]at hv5;subst hv5;have L3:Below w.heap.size w w2:=iy (hb1.alloc (Nat.le_of_lt hs1) _) hg2 (by simp;omega) (fun g' h=>by have:=(ho1.ge g' h).1;omega);have hse2:=(hse1.alloc _).kept hg2 (fun e=>hgne _ e.symm rfl)
     go_roundw
     case rel=>exact⟨k+1,g5,c5,by omega,by go_num,rfl,ho2,hse2,L3⟩
     case measure=>(simp[intOf]<;>omega)
  ·have hf:=F_ (show k=l.length by omega);have hfl:=Rq n l hbn k hk;have ho':dQ wr (w.heap.size+1) 3 1 (((jm l k).map A_).map li) [] (.slice (some ⟨g,0,none⟩) ((jm l k).map A_).length c1):=by
    rw[d_,a_f];exact ho
   have hs:=Jg ((jm l k).map A_) g c1 (w.heap.size+1) wr ho' (by rw[d_];have:=hn1'.out;omega);rw[d_]at hs;clear hfl ho'
   go_wp2_with (go_at_call 108;refine hs.mono ?_;rintro e w2 ⟨rfl,ho2,hg2⟩)
   have L2:Below w.heap.size w w2:=iy (v:= .slice (some ⟨g,0,none⟩) 0 0) hb hg2 hb.size (fun g' h=>by have h:=Option.some.inj h;subst h;have:=(ho.ge g rfl).1;show w.heap.size≤g;omega)
   go_ret
   have e:=hf.out;clear hf;subst e;have hset:=Sv n l hbn;have hlen2:(jy n l).length=(jm l l.length).length:=by
    have:=congrArg List.length hset;rw[d_,d_,qX,d_]at this;exact this.symm
   rw[hset,← hlen2]at ho2;obtain⟨cs,q1,q2,q3,q4⟩:=ho2.mono (Nat.le_succ _);rw[d_]at q1;exact⟨_,cs,[],by rw[← hlen2];rfl,by rw[d_];exact aK.of q1,q2,fun b hb=>by simp at hb,L2⟩
theorem Hq(n:Nat)(l:List Nat)(hbn:∀x∈l,x<n)(hn1:n≤1048576)(hll:l.length≤2199023255552):dU Tryz.prog 102 [.sl (l.map ln)] ((jy n l).map ln) 3 1:=fun w vs hr _=>by
 obtain⟨v,rfl,h1⟩:=U6 hr;obtain⟨fp,hS⟩:=uQ h1;exact Ov n l hbn hn1 hll fp v w hS
end
section
open List renaming length_cons→a_,take_succ_eq_append_getElem→b_,length_nil→c_,length_map→d_,contains_iff_mem→e_,cons_append→f_,mem_append→g_,mem_singleton→h_,replicate→i_,nil_append→j_,length_append→k_,map_cons→l_,getElem?_eq_getElem→m_,map_nil→p_,take_length→q_,mem_of_mem_drop→s_,length_drop→t_,mem_cons→v_,mem_append_left→w_,getElem_mem→z_,mem_map→B_,getElem?_eq_none→E_,mem_cons_of_mem→G_,getElem?_map→H_,getElem?_take_of_lt→I_,map_append→K_,append_nil→L_,take_of_length_le→M_,filterMap_append→N_,mem_iff_getElem→O_,mem_of_mem_take→P_,pairwise_cons→Q_,nodup_append→R_,length_take→U_,mem_range→X_,nodup_nil→Y_,map_drop→a_c,map_map→a_f
open Nat renaming reduceAdd→n_,reduceSub→o_,le_refl→x_,zero_le→y_,lt_or_ge→a_d
open Or renaming inl→r_,inr→D_
open Bool renaming eq_iff_iff→u_,or_eq_true→V_
open Int renaming ofNat→A_
open Value renaming int→C_
open Lib renaming hid→F_
attribute [local irreducible] sw sd sn
theorem Fj(l:List GPart)(nm:ByteArray):∀(k:Nat) (z:Int),z∈bg l nm k→∃j:Nat,j<k∧j<l.length∧z=(j:Int)
 |0,z,h=>by simp[bg]at h
 | k +1,z,h=>by
   rw[bg]at h;rcases g_.1 h with h|h
   ·obtain⟨j,h1,h2,h3⟩:=Fj l nm k z h;exact⟨j,by omega,h2,h3⟩
   ·split at h
    ·next x hx=>
     split at h
     ·simp at h;exact⟨k,by omega,(List.getElem?_eq_some_iff.1 hx).1,h⟩
     ·simp at h
    ·simp at h
def rv(l:List GPart)(s:ByteArray):Int:=oC (bg l s l.length)
theorem U1(l:List GPart)(s:ByteArray)(h:0≤rv l s):(rv l s).toNat<l.length:=by
 unfold rv oC at h⊢;split
 ·next e=>rw[e]at h;simp at h
 ·next z e=>
  obtain⟨j,_,h2,rfl⟩:=Fj l s l.length z (by rw[e];simp);simpa using h2
 ·next h1 h2=>
  exfalso;split at h
  ·simp at h
  ·next z e=>exact h2 z e
  ·simp at h
def kX(l:List GPart)(us:List ByteArray):List Nat:=us.filterMap fun s=>if 0≤rv l s then some (rv l s).toNat else none
theorem P8(l:List GPart)(us:List ByteArray){k:Nat}(h:k<us.length)(e:0≤rv l us[k]):kX l (us.take (k+1))=kX l (us.take k)++ [(rv l us[k]).toNat]:=by
 unfold kX;rw[b_ h,N_];simp[e]
theorem P9(l:List GPart)(us:List ByteArray){k:Nat}(h:k<us.length)(e:¬0≤rv l us[k]):kX l (us.take (k+1))=kX l (us.take k):=by
 unfold kX;rw[b_ h,N_];simp[e]
theorem Ld(l:List GPart)(us:List ByteArray):∀x∈kX l us,x<l.length:=by
 intro x hx;unfold kX at hx;obtain⟨s,_,hs⟩:=List.mem_filterMap.1 hx;split at hs
 ·next h=>injection hs with hs;subst hs;exact U1 l s h
 ·cases hs
theorem Aj(l:List GPart)(us:List ByteArray)(k:Nat):(kX l (us.take k)).length≤us.length:=by
 unfold kX;refine Nat.le_trans (List.length_filterMap_le _ _) ?_;rw[U_];omega
def du(l:List GPart)(i:Nat):List Nat:=match l[i]? with|some x=>jy l.length (kX l (bf x))|none=> []
def duI(l:List GPart)(z:Int):List Nat:=if 0≤z then du l z.toNat else []
theorem Xm(l:List GPart){i:Nat}(h:i<l.length):du l i=jy l.length (kX l (bf l[i])):=by unfold du;rw[m_ h]
theorem J5(l:List GPart)(i:Nat):duI l (i:Int)=du l i:=by simp[duI]
theorem Y2(l:List GPart)(i:Nat):∀x∈du l i,x<l.length:=by
 intro x hx;unfold du at hx;split at hx
 ·exact(yY.1 hx).1
 ·simp at hx
theorem Xl(l:List GPart)(i:Nat):(du l i).length≤l.length:=by
 unfold du;split
 ·exact uM _ _
 ·simp
theorem Yy(l:List GPart)(z:Int):(duI l z).length≤l.length:=by
 unfold duI;split
 ·exact Xl _ _
 ·simp
theorem ZA(l:List GPart)(z:Int):∀x∈duI l z,x<l.length:=by
 intro x hx;unfold duI at hx;split at hx
 ·exact Y2 _ _ x hx
 ·simp at hx
def inB(z a b:Int):Bool:=decide (a≤z) && decide (z≤b)
def usI(l:List GPart)(z:Int):List Nat:=iE l.length fun k=>oG (du l k) z
theorem vX(k:Nat)(p:Nat→Bool):iE (k+1) p=iE k p++(if p k then [k]else []):=by
 unfold iE;rw[List.range_succ,List.filter_append];congr 1;cases h:p k<;>simp[h]
def QT :IC:=(zd_ [zj_ 6 false] (zd_ [zw_ 7 0,zw_ 8 1,zl_ 9 .geq 7 8,zw_ 10 9,zv_ 11 10 0,zv_ 12 10 2,zy_ 13 10 (.bin .leq (.t 11) (.t 12)),zh_ 14 10 13 false,zw_ 6 14] .ret))
theorem OW :ak Tryz.prog (Tryz.f25.body.getD .skip)=some QT:=by kernel_rfl
theorem sW(z a b:Int):aB Tryz.prog 25 [li z,li a,li b] (.c false [.raw (.bool (inB z a b))]):=by
 refine kQ (fn:=Tryz.f25) (t:=6) (hc:=OW) (h:= ?_);unfold QT;refine zb_ ?_;change AWP _ _ _ (st0 15 _);simp only[undef,stS,st0,stN,D.av,D.avN,dn,aY,dA,dw,gy,dD,eY,eX,aW,aJ,aG,GExpr.aF,GExpr.aA,GExpr.aH,GExpr.el,GPart.aF,GPart.aA,GPart.aH,GPart.el,l_,p_,i_,f_,j_,a_,c_,n_,o_]
 repeat' (first|(refine rg_ ?_;intro K hK)|(refine hq_ ?_;clear hK K)|refine ca_ ?_ ?_|refine gq_ ?_|(refine c2_ ?_ ?_<;>(intro hb hb';try(exfalso;omega)))|refine sz_ (a5_ @aW @aJ @aG @GExpr.el @GPart.el) ?_|refine nv ?_|exact bq_|fail)
 all_goals exact aU ⟨_,rfl,by simp[inB, *];rfl,trivial⟩
def EP :IC:=(zd_ [zz_ 4 (.mov (.k (.slice none 0 0)))] (zd_ [zz_ 9 (.brow true 3 1 0 false []),zw_ 5 9] (.seq (zd_ [zw_ 10 1,zw_ 11 0,zf_ 12 false 11,zm_ 13 .sub 12 1,zz_ 14 (.call 25 [(.t 10),(.k (.int .i64 0)),(.t 13)]),zz_ 15 (.not (.t 14))] (.cond (.t 15) (zd_ [zw_ 16 5,zw_ 4 16] .ret) .skip)) (zd_ [zw_ 17 0,zw_ 18 1,ze_ 19 14 17 18,zr_ 20 14 19,zq_ 21 26 20,zw_ 6 21] (.seq (zd_ [zk_ 7 0] (.block 0 (.loop (.seq (zd_ [zw_ 22 7,zw_ 23 6,zf_ 24 false 23,zl_ 25 .lss 22 24] (.cond (.t 25) .skip (.exit 0))) (.seq (.block 1 (zd_ [zw_ 28 0,zw_ 29 6,zw_ 30 7,ze_ 31 1 29 30,zs_ 32 1 31,zp_ 33 53 28 32,zw_ 8 33] (zd_ [zw_ 34 8,zm_ 35 .geq 34 0] (.cond (.t 35) (.reg false [zw_ 36 5,zw_ 37 8,zz_ 38 (.brow false 3 1 1 false [(.t 37)]),zz_ 39 (.app 3 1 (.t 36) (.t 38)),zw_ 5 39]) .skip)))) (.reg false [zw_ 26 7,zm_ 27 .add 26 1,zw_ 7 27])))))) (zd_ [zw_ 40 5,zq_ 41 101 40,zw_ 4 41] .ret))))))
theorem Gy :ak Tryz.prog (Tryz.f107.body.getD .skip)=some EP:=by kernel_rfl
theorem pK(l:List GPart)(z:Int)(hw:l.length+D.wts (l.map GPart.toD)≤1048576):dU Tryz.prog 107 [.sl (l.map GPart.toD),li z] ((duI l z).map ln) 3 1:=by
 have hn:l.length≤1048576:=by omega
 refine tJ (fn:=Tryz.f107) (t:=4) (hc:=Gy) (h:= ?_);unfold EP;refine zb_ ?_;change AWP _ _ _ (st0 42 _);simp only[undef,stS,st0,stN,D.av,D.avN,dn,aY,dA,dw,gy,dD,eY,eX,aW,aJ,aG,GExpr.aF,GExpr.aA,GExpr.aH,GExpr.el,GPart.aF,GPart.aA,GPart.aH,GPart.el,l_,p_,i_,f_,j_,a_,c_,n_,o_];cases hin:inB z 0 ((l.length:Int) - 1)with
 | false=>
   have hz0:duI l z= []:=by
    unfold duI;split
    ·have:¬z.toNat<l.length:=by simp[inB]at hin;omega
     unfold du;rw[E_ (by omega)]
    ·rfl
   rw[hz0]
   repeat' (first|(refine rg_ ?_;intro K hK)|(refine hq_ ?_;clear hK K)|refine ca_ ?_ ?_|(refine cg_ ?_;first|refine cT_ (sW z 0 ((l.length:Int) - 1)) ?_)|refine sz_ (a6_ @aW @aJ @aG @GExpr.el @GPart.el hin) ?_|refine nv ?_|(refine c2_ ?_ ?_<;>(intro hb hb';try(exfalso;omega)))|exact bq_|fail)
   exact Fe rfl rfl rfl rfl rfl rfl (r_ rfl)
 | true=>
   have h0:0≤z:=by simp[inB]at hin;omega
   have hlt:z.toNat<l.length:=by simp[inB]at hin;omega
   have hdu:duI l z=jy l.length (kX l (bf l[z.toNat])):=by unfold duI;rw[if_pos h0,Xm l hlt]
   have hul:=Ac l[z.toNat] (sJ hw hlt);rw[hdu]
   repeat' (first|(refine rg_ ?_;intro K hK)|(refine hq_ ?_;clear hK K)|refine ca_ ?_ ?_|(refine cg_ ?_;first|refine cT_ (sW z 0 ((l.length:Int) - 1)) ?_|refine cT_ ((uG l[z.toNat] (sJ hw hlt)).to (lK _)) ?_)|refine sz_ (a6_ @aW @aJ @aG @GExpr.el @GPart.el hin) ?_|refine nv ?_|(refine c2_ ?_ ?_<;>(intro hb hb';try(exfalso;omega)))|exact bq_|fail)
   refine dZ (X:=Nat×Nat) (fun q=> [.k,.d,.d,.d,.d,.v (.c false [.own 0 q.2]),.k,.v (.c false [.raw (.int .i64 (q.1:Nat))])]) (fun q=> [⟨(kX l ((bf l[z.toNat]).take q.1)).map ln,3,1,q.2,true⟩]) (fun q bs=>bs) (fun q=>q.1≤(bf l[z.toNat]).length) (fun q=>(bf l[z.toNat]).length - q.1) (0,0) (y_ _) ?_ ?_
   ·simp[bU,dW,bH,bK,AV.fits,AC.fits,FB,bQ,kX]
   rintro⟨k,v⟩ hk;have hk':k≤(bf l[z.toNat]).length:=hk;clear hk;have hrl:=Aj l (bf l[z.toNat]) k;simp only[FB,bQ];by_cases hlk:k<(bf l[z.toNat]).length
   ·have hrv:oC (bg l (bf l[z.toNat])[k] l.length)=rv l (bf l[z.toNat])[k]:=rfl;by_cases hr:0≤rv l (bf l[z.toNat])[k]
    ·have hs:=P8 l (bf l[z.toNat]) hlk hr;have hlv:=U1 l _ hr;have hcast:((rv l (bf l[z.toNat])[k]).toNat:Int)=rv l (bf l[z.toNat])[k]:=by omega
     repeat' (first|(refine rg_ ?_;intro K hK)|(refine hq_ ?_;clear hK K)|refine ca_ ?_ ?_|(refine cg_ ?_;first|refine cT_ (uO l (bf l[z.toNat])[k] hn) ?_)|refine sz_ (a6_ @aW @aJ @aG @GExpr.el @GPart.el hrv) ?_|refine nv ?_|(refine c2_ ?_ ?_<;>(intro hb hb';try(exfalso;omega)))|exact bq_|fail)
     all_goals first
      |(simp only[d_,k_,a_,c_];omega)
      | (refine dB (k+1,v+1) ?_ (show k+1≤(bf l[z.toNat]).length by omega) (show(bf l[z.toNat]).length - (k+1)<(bf l[z.toNat]).length - k by omega)
         simp[bU,dW,bH,bK,AV.fits,AC.fits,FB,bQ,hs,ln,li,hcast])
    ·have hs:=P9 l (bf l[z.toNat]) hlk hr
     repeat' (first|(refine rg_ ?_;intro K hK)|(refine hq_ ?_;clear hK K)|refine ca_ ?_ ?_|(refine cg_ ?_;first|refine cT_ (uO l (bf l[z.toNat])[k] hn) ?_)|refine sz_ (a6_ @aW @aJ @aG @GExpr.el @GPart.el hrv) ?_|refine nv ?_|(refine c2_ ?_ ?_<;>(intro hb hb';try(exfalso;omega)))|exact bq_|fail)
     all_goals first
      |(simp only[d_,k_,a_,c_];omega)
      | (refine dB (k+1,v) ?_ (show k+1≤(bf l[z.toNat]).length by omega) (show(bf l[z.toNat]).length - (k+1)<(bf l[z.toNat]).length - k by omega)
         simp[bU,dW,bH,bK,AV.fits,AC.fits,FB,bQ,hs])
   ·obtain rfl:k=(bf l[z.toNat]).length:=by omega
    rw[q_]at hrl⊢
    repeat' (first|(refine rg_ ?_;intro K hK)|(refine hq_ ?_;clear hK K)|refine ca_ ?_ ?_|(refine cg_ ?_;first|(refine bP (Ia l.length (kX l (bf l[z.toNat])) (Ld l _) hn (by omega)) (aJ _) ?_ ?_))|refine sz_ (a5_ @aW @aJ @aG @GExpr.el @GPart.el) ?_|refine nv ?_|(refine c2_ ?_ ?_<;>(intro hb hb';try(exfalso;omega)))|exact bq_|fail)
    exact Fe rfl rfl rfl rfl rfl rfl (r_ rfl)
def ER :IC:=(zd_ [zz_ 4 (.mov (.k (.slice none 0 0)))] (.seq (zd_ [zw_ 9 1,zm_ 10 .lss 9 0,zw_ 11 10,zu_ 12 11 1,zu_ 13 11 0,zx_ 14 11 (.len false (.t 13)),zx_ 15 11 (.bin .geq (.t 12) (.t 14)),zg_ 16 11 true 15] (.cond (.t 16) (zd_ [zz_ 4 (.mov (.k (.slice none 0 0)))] .ret) .skip)) (zd_ [zz_ 17 (.brow true 3 1 0 false []),zw_ 5 17] (.seq (zd_ [zw_ 18 0,zw_ 19 1,ze_ 20 14 18 19,zr_ 21 14 20,zq_ 22 30 21,zf_ 23 false 22,zk_ 24 0] (.block 0 (.loop (zd_ [zl_ 25 .lss 24 23] (.seq (.cond (.t 25) .skip (.exit 0)) (.seq (.block 1 (zd_ [ze_ 26 1 22 24,zs_ 27 1 26,zw_ 7 27] (zd_ [zw_ 28 0,zw_ 29 7,zp_ 30 60 28 29,zw_ 8 30] (zd_ [zw_ 31 8,zm_ 32 .geq 31 0] (.cond (.t 32) (.reg false [zw_ 33 5,zw_ 34 8,zz_ 35 (.brow false 3 1 1 false [(.t 34)]),zz_ 36 (.app 3 1 (.t 33) (.t 35)),zw_ 5 36]) .skip))))) (.reg false [zm_ 37 .add 24 1,zw_ 24 37]))))))) (zd_ [zw_ 38 5,zq_ 39 102 38,zw_ 4 39] .ret)))))
theorem Gz :ak Tryz.prog (Tryz.f90.body.getD .skip)=some ER:=by kernel_rfl
theorem yB(l:List GPart)(z:Int)(hw:l.length+D.wts (l.map GPart.toD)≤1048576):dU Tryz.prog 90 [.sl (l.map GPart.toD),li z] ((duI l z).map ln) 3 1:=by
 have hn:l.length≤1048576:=by omega
 refine tJ (fn:=Tryz.f90) (t:=4) (hc:=Gz) (h:= ?_);unfold ER;refine zb_ ?_;change AWP _ _ _ (st0 40 _);simp only[undef,stS,st0,stN,D.av,D.avN,dn,aY,dA,dw,gy,dD,eY,eX,aW,aJ,aG,GExpr.aF,GExpr.aA,GExpr.aH,GExpr.el,GPart.aF,GPart.aA,GPart.aH,GPart.el,l_,p_,i_,f_,j_,a_,c_,n_,o_];by_cases hlt0:¬(0≤z∧z.toNat<l.length)
 ·have hz0:duI l z= []:=by
   unfold duI;split
   ·have:¬z.toNat<l.length:=by omega
    unfold du;rw[E_ (by omega)]
   ·rfl
  rw[hz0]
  repeat' (first|(refine rg_ ?_;intro K hK)|(refine hq_ ?_;clear hK K)|refine ca_ ?_ ?_|refine gq_ ?_|(refine c2_ ?_ ?_<;>(intro hb hb';try(exfalso;omega)))|refine sz_ (a5_ @aW @aJ @aG @GExpr.el @GPart.el) ?_|refine nv ?_|exact bq_|fail)
  all_goals exact WT rfl
 ·have h0:0≤z:=by omega
  have hlt:z.toNat<l.length:=by omega
  have hdu:duI l z=jy l.length (kX l (bf l[z.toNat])):=by unfold duI;rw[if_pos h0,Xm l hlt]
  have hul:=Ac l[z.toNat] (sJ hw hlt);rw[hdu]
  repeat' (first|(refine rg_ ?_;intro K hK)|(refine hq_ ?_;clear hK K)|refine ca_ ?_ ?_|refine gq_ ?_|(refine c2_ ?_ ?_<;>(intro hb hb';try(exfalso;omega)))|(refine cg_ ?_;first|refine cT_ ((uH l[z.toNat] (sJ hw hlt)).to (lK _)) ?_)|refine sz_ (a5_ @aW @aJ @aG @GExpr.el @GPart.el) ?_|refine nv ?_|exact bq_|fail)
  refine dZ (X:=Nat×Nat) (fun q=> [.k,.d,.d,.d,.d,.v (.c false [.own 0 q.2]),.d,.d,.d,.d,.d,.d,.d,.d,.d,.d,.d,.d,.d,.d,.d,.d,.k,.k,.v (.c false [.raw (.int .i64 (q.1:Nat))])]) (fun q=> [⟨(kX l ((bf l[z.toNat]).take q.1)).map ln,3,1,q.2,true⟩]) (fun q bs=>bs) (fun q=>q.1≤(bf l[z.toNat]).length) (fun q=>(bf l[z.toNat]).length - q.1) (0,0) (y_ _) ?_ ?_
  ·simp[bU,dW,bH,bK,AV.fits,AC.fits,FB,bQ,kX]
  rintro⟨k,v⟩ hk;have hk':k≤(bf l[z.toNat]).length:=hk;clear hk;have hrl:=Aj l (bf l[z.toNat]) k;simp only[FB,bQ];by_cases hlk:k<(bf l[z.toNat]).length
  ·have hrv:oC (bg l (bf l[z.toNat])[k] l.length)=rv l (bf l[z.toNat])[k]:=rfl;by_cases hr:0≤rv l (bf l[z.toNat])[k]
   ·have hs:=P8 l (bf l[z.toNat]) hlk hr;have hlv:=U1 l _ hr;have hcast:((rv l (bf l[z.toNat])[k]).toNat:Int)=rv l (bf l[z.toNat])[k]:=by omega
    repeat' (first|(refine rg_ ?_;intro K hK)|(refine hq_ ?_;clear hK K)|refine ca_ ?_ ?_|refine gq_ ?_|(refine c2_ ?_ ?_<;>(intro hb hb';try(exfalso;omega)))|(refine cg_ ?_;first|refine cT_ (uP l (bf l[z.toNat])[k] hn) ?_)|refine sz_ (a6_ @aW @aJ @aG @GExpr.el @GPart.el hrv) ?_|refine nv ?_|exact bq_|fail)
    all_goals first
     |(simp only[d_,k_,a_,c_];omega)
     | (refine dB (k+1,v+1) ?_ (show k+1≤(bf l[z.toNat]).length by omega) (show(bf l[z.toNat]).length - (k+1)<(bf l[z.toNat]).length - k by omega)
        simp[bU,dW,bH,bK,AV.fits,AC.fits,FB,bQ,hs,ln,li,hcast])
   ·have hs:=P9 l (bf l[z.toNat]) hlk hr
    repeat' (first|(refine rg_ ?_;intro K hK)|(refine hq_ ?_;clear hK K)|refine ca_ ?_ ?_|refine gq_ ?_|(refine c2_ ?_ ?_<;>(intro hb hb';try(exfalso;omega)))|(refine cg_ ?_;first|refine cT_ (uP l (bf l[z.toNat])[k] hn) ?_)|refine sz_ (a6_ @aW @aJ @aG @GExpr.el @GPart.el hrv) ?_|refine nv ?_|exact bq_|fail)
    all_goals first
     |(simp only[d_,k_,a_,c_];omega)
     | (refine dB (k+1,v) ?_ (show k+1≤(bf l[z.toNat]).length by omega) (show(bf l[z.toNat]).length - (k+1)<(bf l[z.toNat]).length - k by omega)
        simp[bU,dW,bH,bK,AV.fits,AC.fits,FB,bQ,hs])
  ·obtain rfl:k=(bf l[z.toNat]).length:=by omega
   rw[q_]at hrl⊢
   repeat' (first|(refine rg_ ?_;intro K hK)|(refine hq_ ?_;clear hK K)|refine ca_ ?_ ?_|refine gq_ ?_|(refine c2_ ?_ ?_<;>(intro hb hb';try(exfalso;omega)))|(refine cg_ ?_;first|(refine bP (Hq l.length (kX l (bf l[z.toNat])) (Ld l _) hn (by omega)) (aJ _) ?_ ?_))|refine sz_ (a5_ @aW @aJ @aG @GExpr.el @GPart.el) ?_|refine nv ?_|exact bq_|fail)
   exact Fe rfl rfl rfl rfl rfl rfl (r_ rfl)
def EL :IC:=(zd_ [zz_ 4 (.mov (.k (.slice none 0 0)))] (zd_ [zz_ 7 (.brow true 3 1 0 false []),zw_ 5 7] (.seq (zd_ [zk_ 6 0] (.block 0 (.loop (.seq (zd_ [zw_ 8 6,zw_ 9 0,zf_ 10 false 9,zl_ 11 .lss 8 10] (.cond (.t 11) .skip (.exit 0))) (.seq (.block 1 (zd_ [zw_ 14 0,zw_ 15 6,zp_ 16 107 14 15,zw_ 17 1,zp_ 18 67 16 17] (.cond (.t 18) (.reg false [zw_ 19 5,zw_ 20 6,zz_ 21 (.brow false 3 1 1 false [(.t 20)]),zz_ 22 (.app 3 1 (.t 19) (.t 21)),zw_ 5 22]) .skip))) (.reg false [zw_ 12 6,zm_ 13 .add 12 1,zw_ 6 13])))))) (zd_ [zw_ 23 5,zw_ 4 23] .ret))))
theorem Gx :ak Tryz.prog (Tryz.f106.body.getD .skip)=some EL:=by kernel_rfl
theorem Gp(l:List GPart)(z:Int)(hw:l.length+D.wts (l.map GPart.toD)≤1048576):dU Tryz.prog 106 [.sl (l.map GPart.toD),li z] ((usI l z).map ln) 3 1:=by
 have hn:l.length≤1048576:=by omega
 refine tJ (fn:=Tryz.f106) (t:=4) (hc:=Gx) (h:= ?_);unfold EL;refine zb_ ?_;change AWP _ _ _ (st0 24 _);simp only[undef,stS,st0,stN,D.av,D.avN,dn,aY,dA,dw,gy,dD,eY,eX,aW,aJ,aG,GExpr.aF,GExpr.aA,GExpr.aH,GExpr.el,GPart.aF,GPart.aA,GPart.aH,GPart.el,l_,p_,i_,f_,j_,a_,c_,n_,o_]
 repeat' (first|(refine rg_ ?_;intro K hK)|(refine hq_ ?_;clear hK K)|refine ca_ ?_ ?_|refine sz_ (a5_ @aW @aJ @aG @GExpr.el @GPart.el) ?_|refine nv ?_|(refine c2_ ?_ ?_<;>(intro hb hb';try(exfalso;omega)))|exact bq_|fail)
 refine dZ (X:=Nat×Nat) (fun q=> [.k,.k,.d,.d,.d,.v (.c false [.own 0 q.2]),.v (.c false [.raw (.int .i64 (q.1:Nat))])]) (fun q=> [⟨(iE q.1 fun k=>oG (du l k) z).map ln,3,1,q.2,true⟩]) (fun q bs=> []) (fun q=>q.1≤l.length) (fun q=>l.length - q.1) (0,0) (y_ _) ?_ ?_
 ·simp[bU,dW,bH,bK,AV.fits,AC.fits,FB,bQ,iE]
 rintro⟨k,v⟩ hk;have hk':k≤l.length:=hk;clear hk;have hsl:=uM k fun k=>oG (du l k) z
 have hdl:=Xl l k;simp only[FB,bQ];by_cases hlk:k<l.length
 ·have hd:=pK l (k:Int) hw;rw[J5]at hd;cases hh:oG (du l k) z with
  | true=>
    have hs:(iE (k+1) fun k=>oG (du l k) z)=(iE k fun k=>oG (du l k) z)++ [k]:=by rw[vX,if_pos hh]
    repeat' (first|(refine rg_ ?_;intro K hK)|(refine hq_ ?_;clear hK K)|refine ca_ ?_ ?_|(refine cg_ ?_;first|(refine bP hd (aJ _) ?_ ?_)|refine cT_ (jZ (du l k) z (by omega)) ?_)|refine sz_ (a6_ @aW @aJ @aG @GExpr.el @GPart.el hh) ?_|refine nv ?_|(refine c2_ ?_ ?_<;>(intro hb hb';try(exfalso;omega)))|exact bq_|fail)
    all_goals first
     |(simp only[d_,k_,a_,c_];omega)
     | (refine dB (k+1,v+1) ?_ (show k+1≤l.length by omega) (show l.length - (k+1)<l.length - k by omega)
        simp[bU,dW,bH,bK,AV.fits,AC.fits,FB,bQ,hs,ln,li])
  | false=>
    have hs:(iE (k+1) fun k=>oG (du l k) z)=iE k fun k=>oG (du l k) z:=by rw[vX,if_neg (by simp[hh]),L_]
    repeat' (first|(refine rg_ ?_;intro K hK)|(refine hq_ ?_;clear hK K)|refine ca_ ?_ ?_|(refine cg_ ?_;first|(refine bP hd (aJ _) ?_ ?_)|refine cT_ (jZ (du l k) z (by omega)) ?_)|refine sz_ (a6_ @aW @aJ @aG @GExpr.el @GPart.el hh) ?_|refine nv ?_|(refine c2_ ?_ ?_<;>(intro hb hb';try(exfalso;omega)))|exact bq_|fail)
    all_goals first
     |(simp only[d_,k_,a_,c_];omega)
     | (refine dB (k+1,v) ?_ (show k+1≤l.length by omega) (show l.length - (k+1)<l.length - k by omega)
        simp[bU,dW,bH,bK,AV.fits,AC.fits,FB,bQ,hs])
 ·obtain rfl:k=l.length:=by omega
  repeat' (first|(refine rg_ ?_;intro K hK)|(refine hq_ ?_;clear hK K)|refine ca_ ?_ ?_|refine sz_ (a5_ @aW @aJ @aG @GExpr.el @GPart.el) ?_|refine nv ?_|(refine c2_ ?_ ?_<;>(intro hb hb';try(exfalso;omega)))|exact bq_|fail)
  exact Fe rfl rfl rfl rfl rfl rfl (r_ rfl)
def nrI(l:List GPart)(b:Bool)(z:Int):List Nat:=if b then usI l z else duI l z
theorem ZX(l:List GPart)(z:Int):nrI l true z=usI l z:=rfl
theorem YU(l:List GPart)(z:Int):nrI l false z=duI l z:=rfl
theorem Zh(l:List GPart)(z:Int):∀x∈usI l z,x<l.length:=fun x h=>(nZ.1 h).1
theorem XV(l:List GPart)(z:Int):(usI l z).length≤l.length:=uM _ _
theorem Fg(l:List GPart)(z:Int):(duI l z).Pairwise (· < ·):=by
 unfold duI du;split
 ·split
  ·exact jV _ _
  ·exact List.Pairwise.nil
 ·exact List.Pairwise.nil
theorem V4(l:List GPart)(b:Bool)(z:Int):∀x∈nrI l b z,x<l.length:=by cases b;exact ZA l z;exact Zh l z
theorem QF(l:List GPart)(b:Bool)(z:Int):(nrI l b z).length≤l.length:=by cases b;exact Yy l z;exact XV l z
theorem OH(l:List GPart)(b:Bool)(z:Int):(nrI l b z).Pairwise (· < ·):=by cases b;exact Fg l z;exact jV _ _
theorem oL{p:Nat→Bool}{g h:Nat→Nat}:∀{n:Nat},(∀x,x<n→g x=h x)→eU p g n=eU p h n
 |0,_=>rfl
 |n+1,e=>by simp only[eU];rw[oL (fun x hx=>e x (by omega)),e n (by omega)]
theorem Bv{p:Nat→Bool}{g h:Nat→Nat}:∀{n:Nat},(∀x,x<n→g x≤h x)→eU p g n≤eU p h n
 |0,_=>x_ _
 | n+1,e=>by
   simp only[eU];have:=Bv (p:=p) (g:=g) (h:=h) (n:=n) (fun x hx=>e x (by omega));have:=e n (by omega);split<;>omega
theorem KQ{g h:Nat→Nat}:∀(n:Nat),eU (fun _=>true) (fun x=>g x+h x) n=eU (fun _=>true) g n+eU (fun _=>true) h n
 |0=>rfl
 |n+1=>by simp only[eU,if_true];rw[KQ n];omega
theorem PK :∀(a b:List D),D.wts (a++b)=D.wts a+D.wts b
 | [],b=>by simp[D.wts]
 |x::a,b=>by simp only[f_,D.wts,PK a b];omega
theorem KP(l:List GPart):∀k,k≤l.length→eU (fun _=>true) (fun i=>match l[i]? with|some y=>y.toD.wt+1|none=>0) k=k+D.wts ((l.take k).map GPart.toD)
 |0,_=>by simp[eU,D.wts]
 | k+1,h=>by
   have hk:k<l.length:=by omega
   rw[b_ hk,K_,PK];simp only[eU,if_true,m_ hk,l_,p_,D.wts];rw[KP l k (by omega)];omega
theorem UL(n:Nat)(l:List Nat):(jy n l).length≤l.length:=by
 have h1 :∀(l:List Nat) (n:Nat),(jy n l).length≤l.length:=by
  intro l
  induction l with
  |nil=>intro n;simp[KX]
  | cons x l ih=>
    intro n;have h2:=wE (sN (jV n fun k=>(x::l).contains k)) (n:=n) (fun y hy=>(nZ.1 hy).1);have h3:=wE (sN (jV n fun k=>l.contains k)) (n:=n) (fun y hy=>(nZ.1 hy).1);have h4:=ih n;unfold jy at h4⊢;have hle:eU (jM (iE n fun k=>l.contains k)) (fun _=>1) n≤eU (jM (iE n fun k=>(x::l).contains k)) (fun _=>1) n+1:=by
     have:∀m,eU (jM (iE n fun k=>l.contains k)) (fun _=>1) m≤eU (jM (iE n fun k=>(x::l).contains k)) (fun _=>1) m+(if x<m then 1 else 0):=by
      intro m
      induction m with
      |zero=>simp[eU]
      | succ m ihm=>
        simp only[eU];have key:m≠x→jM (iE n fun k=>l.contains k) m=jM (iE n fun k=>(x::l).contains k) m:=by
         intro hne;unfold jM;congr 1;rw[u_,e_,e_,nZ,nZ];simp[hne]
        by_cases e:m=x
        ·subst e;rw[if_neg (Nat.lt_irrefl _)]at ihm;rw[if_pos (Nat.lt_succ_self _)];split<;>split<;>omega
        ·rw[key e];generalize hce:(if jM (iE n fun k=>(x::l).contains k) m=true then 1 else 0)=cc;by_cases h:x<m
         ·rw[if_pos h]at ihm;rw[if_pos (by omega)];omega
         ·rw[if_neg h]at ihm;rw[if_neg (by omega)];omega
     have:=this n;split at this<;>omega
    simp only[a_];omega
 exact h1 l n
theorem Xk(l:List GPart)(hw:l.length+D.wts (l.map GPart.toD)≤1048576):eU (fun _=>true) (fun x=>(du l x).length) l.length≤1048576:=by
 have h1:eU (fun _=>true) (fun x=>(du l x).length) l.length≤eU (fun _=>true) (fun i=>match l[i]? with|some y=>y.toD.wt+1|none=>0) l.length:=by
  refine Bv fun x hx=> ?_
  rw[Xm l hx,m_ hx];have h2:=UL l.length (kX l (bf l[x]));have h3:=Aj l (bf l[x]) (bf l[x]).length;rw[q_]at h3;have h4:=Uu l[x];show _≤l[x].toD.wt+1;omega
 rw[KP l _ (x_ _),q_]at h1;omega
theorem Sm(q:Nat→Nat→Bool)(n:Nat):∀m,eU (fun _=>true) (fun x=>(iE n fun k=>q k x).length) m=eU (fun _=>true) (fun k=>(iE m fun x=>q k x).length) n:=by
 intro m
 induction m with
 | zero=>
   simp only[eU];have:∀n,eU (fun _=>true) (fun k=>(iE 0 fun x=>q k x).length) n=0:=fun n=>by
    induction n with
    |zero=>rfl
    |succ n ih=>simp only[eU,ih];simp[iE]
   rw[this]
 | succ m ih=>
   simp only[eU,if_true];rw[ih];have h1:∀n,(iE n fun k=>q k m).length=eU (fun _=>true) (fun k=>if q k m then 1 else 0) n:=fun n=>by
    induction n with
    |zero=>rfl
    |succ n ih2=>rw[vX,k_,ih2];simp only[eU,if_true];split<;>rfl
   rw[h1,← KQ];refine oL fun k hk=> ?_
   rw[vX,k_];split<;>rfl
theorem KU{n:Nat}{l:List Nat}(hs:l.Pairwise (· < ·))(hb:∀x∈l,x<n):iE n (fun x=>l.contains x)=l:=(P5 hs (fun x=>⟨fun h=>⟨hb x h,h⟩,fun h=>h.2⟩)).symm
theorem TN(l:List GPart)(k:Nat):(du l k).Pairwise (· < ·):=by have:=Fg l (k:Int);rwa[J5]at this
theorem Zg(l:List GPart)(hw:l.length+D.wts (l.map GPart.toD)≤1048576):eU (fun _=>true) (fun x=>(usI l (x:Int)).length) l.length≤1048576:=by
 have h1:=Sm (fun k x=>(du l k).contains x) l.length l.length;have h2:eU (fun _=>true) (fun x=>(usI l (x:Int)).length) l.length=eU (fun _=>true) (fun x=>(iE l.length fun k=>(du l k).contains x).length) l.length:=oL fun x hx=>by
  unfold usI;congr 2
  funext k
  exact pF
 have h3:eU (fun _=>true) (fun k=>(iE l.length fun x=>(du l k).contains x).length) l.length=eU (fun _=>true) (fun x=>(du l x).length) l.length:=oL fun k hk=>by
  rw[KU (TN l k) (Y2 l k)]
 rw[h2,h1,h3];exact Xk l hw
theorem Zt(l:List GPart)(b:Bool)(hw:l.length+D.wts (l.map GPart.toD)≤1048576):eU (fun _=>true) (fun x=>(nrI l b (x:Int)).length) l.length≤1048576:=by
 cases b
 ·simp only[YU,J5];exact Xk l hw
 ·exact Zg l hw
def x9 :IC:=(zd_ [zz_ 6 (.mov (.k (.slice none 0 0)))] (.seq (zd_ [zw_ 7 2] (.cond (.t 7) (zd_ [zw_ 8 0,zw_ 9 1,zp_ 10 106 8 9,zw_ 6 10] .ret) .skip)) (zd_ [zw_ 11 0,zw_ 12 1,zp_ 13 107 11 12,zw_ 6 13] .ret)))
theorem xA :ak Tryz.prog (Tryz.f100.body.getD .skip)=some x9:=by kernel_rfl
theorem Ez(l:List GPart)(z:Int)(b:Bool)(hw:l.length+D.wts (l.map GPart.toD)≤1048576):dU Tryz.prog 100 [.sl (l.map GPart.toD),li z,.leaf (.bool b)] ((nrI l b z).map ln) 3 1:=by
 have hu:=Gp l z hw;have hd:=pK l z hw;cases b with
 | true=>
   rw[ZX];refine jH (fn:=Tryz.f100) (t:=6) (hc:=xA) (h:= ?_);unfold x9;refine zb_ ?_;change AWP _ _ _ (st0 14 _);simp only[undef,stS,st0,stN,D.av,D.avN,dn,aY,dA,dw,gy,dD,eY,eX,aW,aJ,aG,GPart.aF,GPart.aA,GPart.aH,GPart.el,l_,p_,i_,f_,j_,a_,c_,n_,o_]
   repeat' (first|(refine rg_ ?_;intro K hK)|(refine hq_ ?_;clear hK K)|refine ca_ ?_ ?_|(refine cg_ ?_;first|(refine bP hu (aJ _) ?_ ?_))|refine sz_ (a4_ @aW @aJ @aG @GPart.el) ?_|refine nv ?_|(refine c2_ ?_ ?_<;>(intro hb hb';try(exfalso;omega)))|exact bq_|fail)
   exact aU ⟨0,_,_,rfl,rfl,rfl,rfl,rfl,rfl,r_ rfl⟩
 | false=>
   rw[YU];refine jH (fn:=Tryz.f100) (t:=6) (hc:=xA) (h:= ?_);unfold x9;refine zb_ ?_;change AWP _ _ _ (st0 14 _);simp only[undef,stS,st0,stN,D.av,D.avN,dn,aY,dA,dw,gy,dD,eY,eX,aW,aJ,aG,GPart.aF,GPart.aA,GPart.aH,GPart.el,l_,p_,i_,f_,j_,a_,c_,n_,o_]
   repeat' (first|(refine rg_ ?_;intro K hK)|(refine hq_ ?_;clear hK K)|refine ca_ ?_ ?_|(refine cg_ ?_;first|(refine bP hd (aJ _) ?_ ?_))|refine sz_ (a4_ @aW @aJ @aG @GPart.el) ?_|refine nv ?_|(refine c2_ ?_ ?_<;>(intro hb hb';try(exfalso;omega)))|exact bq_|fail)
   exact aU ⟨0,_,_,rfl,rfl,rfl,rfl,rfl,rfl,r_ rfl⟩
def Ig :IC:=(zd_ [zz_ 6 (.mov (.k (.slice none 0 0)))] (zd_ [zw_ 11 0,zw_ 12 1,zw_ 13 2,zo_ 14 100 11 12 13,zw_ 7 14] (.seq (zd_ [zk_ 8 0] (.block 0 (.loop (.seq (zd_ [zw_ 15 8,zw_ 16 7,zf_ 17 false 16,zl_ 18 .lss 15 17] (.cond (.t 18) .skip (.exit 0))) (.seq (.block 1 (zd_ [zw_ 21 0,zw_ 22 7,zw_ 23 8,ze_ 24 1 22 23,zs_ 25 1 24,zw_ 26 2,zo_ 27 100 21 25 26,zw_ 9 27] (zd_ [zk_ 10 0] (.block 2 (.loop (.seq (zd_ [zw_ 28 10,zw_ 29 9,zf_ 30 false 29,zl_ 31 .lss 28 30] (.cond (.t 31) .skip (.exit 2))) (.seq (.block 3 (zd_ [zw_ 34 7,zw_ 35 9,zw_ 36 10,ze_ 37 1 35 36,zs_ 38 1 37,zp_ 39 67 34 38,zz_ 40 (.not (.t 39))] (.cond (.t 40) (.reg false [zw_ 41 7,zw_ 42 9,zw_ 43 10,ze_ 44 1 42 43,zs_ 45 1 44,zz_ 46 (.brow false 3 1 1 false [(.t 45)]),zz_ 47 (.app 3 1 (.t 41) (.t 46)),zw_ 7 47]) .skip))) (.reg false [zw_ 32 10,zm_ 33 .add 32 1,zw_ 10 33])))))))) (.reg false [zw_ 19 8,zm_ 20 .add 19 1,zw_ 8 20])))))) (zd_ [zw_ 48 7,zq_ 49 101 48,zw_ 6 49] .ret))))
theorem JF :ak Tryz.prog (Tryz.f87.body.getD .skip)=some Ig:=by kernel_rfl
theorem Tf(l:List GPart)(z:Int)(b:Bool)(hw:l.length+D.wts (l.map GPart.toD)≤1048576):dU Tryz.prog 87 [.sl (l.map GPart.toD),li z,.leaf (.bool b)] ((cl l.length (nrI l b) z).map ln) 3 1:=by
 have hn:l.length≤1048576:=by omega
 have hlt:=V4 l b;refine jH (fn:=Tryz.f87) (t:=6) (hc:=JF) (h:= ?_);unfold Ig;refine zb_ ?_;change AWP _ _ _ (st0 50 _);simp only[undef,stS,st0,stN,D.av,D.avN,dn,aY,dA,dw,gy,dD,eY,eX,aW,aJ,aG,GPart.aF,GPart.aA,GPart.aH,GPart.el,l_,p_,i_,f_,j_,a_,c_,n_,o_]
 repeat' (first|(refine rg_ ?_;intro K hK)|(refine hq_ ?_;clear hK K)|refine ca_ ?_ ?_|(refine cg_ ?_;first|(refine bP (Ez l z b hw) (aJ _) ?_ ?_))|refine sz_ (a4_ @aW @aJ @aG @GPart.el) ?_|refine nv ?_|(refine c2_ ?_ ?_<;>(intro hb hb';try(exfalso;omega)))|exact bq_|fail)
 refine dZ (X:=Nat×List Nat×Nat) (fun q=> [.k,.d,.k,.d,.d,.d,.d,.v (.c false [.own 0 q.2.2]),.v (.c false [.raw (.int .i64 (q.1:Nat))])]) (fun q=> [⟨q.2.1.map ln,3,1,q.2.2,true⟩]) (fun q bs=>bs) (fun q=>AllInv l.length (nrI l b) z q.1 q.2.1) (fun q=>l.length - q.1) (0,nrI l b z,0) (AllInv.start hlt (OH l b z)) ?_ ?_
 ·simp[bU,dW,bH,bK,AV.fits,AC.fits,FB,bQ]
 rintro⟨k,o,v⟩ hi;have hI:AllInv l.length (nrI l b) z k o:=hi;clear hi;have hol:=wz hI.nd hI.lt;have hkl:=hI.le;simp only[FB,bQ];by_cases hlk:k<o.length
 ·have hnear:=Ez l (o[k]:Int) b hw;have hml:=QF l b (o[k]:Int)
  repeat' (first|(refine rg_ ?_;intro K hK)|(refine hq_ ?_;clear hK K)|refine ca_ ?_ ?_|(refine cg_ ?_;first|(refine bP hnear (aJ _) ?_ ?_))|refine sz_ (a4_ @aW @aJ @aG @GPart.el) ?_|refine nv ?_|(refine c2_ ?_ ?_<;>(intro hb hb';try(exfalso;omega)))|exact bq_|fail)
  refine dZ (X:=Nat×List Nat×Nat) (fun q=> [.k,.d,.k,.d,.d,.d,.d,.v (.c false [.own 0 q.2.2]),.k,.k,.v (.c false [.raw (.int .i64 (q.1:Nat))])]) (fun q=> [⟨q.2.1.map ln,3,1,q.2.2,true⟩,⟨(nrI l b (o[k]:Int)).map ln,3,1,0,true⟩]) (fun q bs=>bs) (fun q=>MoreInv l.length (nrI l b) z k o[k] q.1 q.2.1) (fun q=>(nrI l b (o[k]:Int)).length - q.1) (0,o,v) (MoreInv.start hI hlk) ?_ ?_
  ·simp[bU,dW,bH,bK,AV.fits,AC.fits,FB,bQ]
  rintro⟨j,u,v2⟩ hi2;have hJ:MoreInv l.length (nrI l b) z k o[k] j u:=hi2;clear hi2;have hul:=wz hJ.nd hJ.lt;have hjl:=hJ.jle;simp only[FB,bQ];by_cases hlj:j<(nrI l b (o[k]:Int)).length
  ·cases hh:oG u (((nrI l b (o[k]:Int))[j]:Nat):Int)with
   | true=>
     have hc:u.contains (nrI l b (o[k]:Int))[j]=true:=by rw[← pF];exact hh
     repeat' (first|(refine rg_ ?_;intro K hK)|(refine hq_ ?_;clear hK K)|refine ca_ ?_ ?_|(refine cg_ ?_;first|refine cT_ (jZ u (((nrI l b (o[k]:Int))[j]:Nat):Int) (by omega)) ?_)|refine sz_ (a5_ @aW @aJ @aG @GPart.el hh) ?_|refine nv ?_|(refine c2_ ?_ ?_<;>(intro hb hb';try(exfalso;omega)))|exact bq_|fail)
     refine dB (j+1,u,v2) ?_ (hJ.skip hlj hc) (show _ - (j+1)<_ - j by omega);simp[bU,dW,bH,bK,AV.fits,AC.fits,FB,bQ]
   | false=>
     have hc:u.contains (nrI l b (o[k]:Int))[j]=false:=by rw[← pF];exact hh
     repeat' (first|(refine rg_ ?_;intro K hK)|(refine hq_ ?_;clear hK K)|refine ca_ ?_ ?_|(refine cg_ ?_;first|refine cT_ (jZ u (((nrI l b (o[k]:Int))[j]:Nat):Int) (by omega)) ?_)|refine sz_ (a5_ @aW @aJ @aG @GPart.el hh) ?_|refine nv ?_|(refine c2_ ?_ ?_<;>(intro hb hb';try(exfalso;omega)))|exact bq_|fail)
     all_goals first
      |(simp only[d_,k_,a_,c_];omega)
      | (refine dB (j+1,u++ [(nrI l b (o[k]:Int))[j]],v2+1) ?_ (hJ.put hlt hlj hc) (show _ - (j+1)<_ - j by omega)
         simp[bU,dW,bH,bK,AV.fits,AC.fits,FB,bQ,ln,li])
  ·obtain rfl:j=(nrI l b (o[k]:Int)).length:=by omega
   have hF:=hJ.fin
   repeat' (first|(refine rg_ ?_;intro K hK)|(refine hq_ ?_;clear hK K)|refine ca_ ?_ ?_|refine sz_ (a4_ @aW @aJ @aG @GPart.el) ?_|refine nv ?_|(refine c2_ ?_ ?_<;>(intro hb hb';try(exfalso;omega)))|exact bq_|fail)
   refine dB (k+1,u,v2) ?_ hF (show _ - (k+1)<_ - k by omega);simp[bU,dW,bH,bK,AV.fits,AC.fits,FB,bQ]
 ·obtain rfl:k=o.length:=by omega
  have hfin:=hI.fin;rw[← hfin]
  repeat' (first|(refine rg_ ?_;intro K hK)|(refine hq_ ?_;clear hK K)|refine ca_ ?_ ?_|(refine cg_ ?_;first|(refine bP (Ia l.length o hI.lt hn (by omega)) (aJ _) ?_ ?_))|refine sz_ (a4_ @aW @aJ @aG @GPart.el) ?_|refine nv ?_|(refine c2_ ?_ ?_<;>(intro hb hb';try(exfalso;omega)))|exact bq_|fail)
  exact aU ⟨1,_,_,rfl,rfl,rfl,rfl,rfl,rfl,r_ rfl⟩
def uo :IC:=(zd_ [zz_ 4 (.mov (.k (.slice none 0 0)))] (zd_ [zw_ 5 0,zw_ 6 1,zz_ 7 (.call 87 [(.t 5),(.t 6),(.k (.bool false))]),zw_ 4 7] .ret))
theorem yg :ak Tryz.prog (Tryz.f68.body.getD .skip)=some uo:=by kernel_rfl
theorem CP(l:List GPart)(z:Int)(hw:l.length+D.wts (l.map GPart.toD)≤1048576):dU Tryz.prog 68 [.sl (l.map GPart.toD),li z] ((cl l.length (nrI l false) z).map ln) 3 1:=by
 have ha:=Tf l z false hw;refine jH (fn:=Tryz.f68) (t:=4) (hc:=yg) (h:= ?_);unfold uo;refine zb_ ?_;change AWP _ _ _ (st0 8 _);simp only[undef,stS,st0,stN,D.av,D.avN,dn,aY,dA,dw,gy,dD,eY,eX,aW,aJ,aG,GPart.aF,GPart.aA,GPart.aH,GPart.el,l_,p_,i_,f_,j_,a_,c_,n_,o_]
 repeat' (first|(refine rg_ ?_;intro K hK)|(refine hq_ ?_;clear hK K)|refine ca_ ?_ ?_|(refine cg_ ?_;first|(refine bP ha (aJ _) ?_ ?_))|refine sz_ (a4_ @aW @aJ @aG @GPart.el) ?_|refine nv ?_|(refine c2_ ?_ ?_<;>(intro hb hb';try(exfalso;omega)))|exact bq_|fail)
 exact aU ⟨0,_,_,rfl,rfl,rfl,rfl,rfl,rfl,r_ rfl⟩
def BL :IC:=(zd_ [zz_ 3 (.mov (.k (.slice none 0 0)))] (zd_ [zs_ 4 1 1,zw_ 5 0,zp_ 6 90 4 5,zw_ 3 6] .ret))
theorem ES :ak Tryz.prog (Tryz.f89.body.getD .skip)=some BL:=by kernel_rfl
theorem PD(l:List GPart)(z:Int)(os:List Own)(hw:l.length+D.wts (l.map GPart.toD)≤1048576):
 fE Tryz.prog 89 [.c false [.raw (.int .i64 z)],.bptr 0 0] os [[.sl false (l.map GPart.toD)]] (.c false [.own os.length 0]) (os++ [⟨(nrI l false z).map ln,3,1,0,true⟩]) [[.sl false (l.map GPart.toD)]]:=by
 have hd:=yB l z hw;refine Kr (fn:=Tryz.f89) (rs:= [.tmp 3]) (by kernel_rfl) (by kernel_rfl) (by kernel_rfl) ES (by simp) (by simp) ?_;unfold BL;refine zb_ ?_;change iT _ _ _ _ (stS 7 _ _ _);simp only[undef,stS,st0,stN,D.av,D.avN,dn,aY,dA,dw,gy,dD,eY,eX,aW,aJ,aG,GPart.aF,GPart.aA,GPart.aH,GPart.el,l_,p_,i_,f_,j_,a_,c_,n_,o_]
 repeat' (first|(refine rg_ ?_;intro K hK)|(refine hq_ ?_;clear hK K)|refine ca_ ?_ ?_|(refine cg_ ?_;first|(refine bP hd (aJ _) ?_ ?_))|refine sz_ (a4_ @aW @aJ @aG @GPart.el) ?_|refine nv ?_|(refine c2_ ?_ ?_<;>(intro hb hb';try(exfalso;omega)))|exact bq_|fail)
 exact aU ⟨gU _,⟨rfl,trivial⟩,by simp[AC.fits],rfl,by simp[AV.fits,AC.fits]⟩
def MQ :IC:=(zd_ [zz_ 4 (.mov (.k (.slice none 0 0)))] (zd_ [zz_ 8 (.brow true 3 1 0 false []),zw_ 5 8] (zd_ [zw_ 9 1,zw_ 10 0,zz_ 11 (.callv (.t 9) [(.t 10)]),zw_ 6 11] (.seq (.block 0 (.loop (.seq (zd_ [zw_ 12 6,zf_ 13 false 12,zm_ 14 .gtr 13 0] (.cond (.t 14) .skip (.exit 0))) (.block 1 (zd_ [zw_ 15 6,zz_ 16 (.iad 1 (.t 15) (.k (.int .i64 0))),zs_ 17 1 16,zw_ 7 17] (zd_ [zw_ 18 6,zz_ 19 (.lsl 1 (.t 18) (some (.k (.int .i64 1))) none),zw_ 6 19] (zd_ [zw_ 20 5,zw_ 21 7,zp_ 22 72 20 21,zz_ 23 (.not (.t 22))] (.cond (.t 23) (zd_ [zw_ 24 5,zw_ 25 7,zz_ 26 (.brow false 3 1 1 false [(.t 25)]),zz_ 27 (.app 3 1 (.t 24) (.t 26)),zw_ 5 27] (.reg false [zw_ 28 6,zw_ 29 1,zw_ 30 7,zz_ 31 (.callv (.t 29) [(.t 30)]),zz_ 32 (.app 3 1 (.t 28) (.t 31)),zw_ 6 32])) .skip)))))))) (zd_ [zw_ 33 5,zq_ 34 102 33,zw_ 4 34] .ret)))))
theorem MP :ak Tryz.prog (Tryz.f88.body.getD .skip)=some MQ:=by kernel_rfl
theorem X7(c:Nat)(hc:AB Tryz.prog c=true)(L:List D)(n:Nat)(f:Int→List Nat)(hlt:∀z,∀x∈f z,x<n)(hlen:∀z,(f z).length≤n)(hn:n≤1048576)(hT:eU (fun _=>true) (fun x=>(f (x:Int)).length) n≤1048576)
 (hstep:∀(z:Int) (os:List Own),fE Tryz.prog c [.c false [.raw (.int .i64 z)],.bptr 0 0] os [[.sl false L]] (.c false [.own os.length 0]) (os++ [⟨(f z).map ln,3,1,0,true⟩]) [[.sl false L]]) (z:Int):
 fE Tryz.prog 88 [.c false [.raw (.int .i64 z)],.c false [.cl c [0]]] [] [[.sl false L]] (.c false [.own 0 0]) [⟨(cl n f z).map ln,3,1,0,true⟩] [[.sl false L]]:=by
 refine Xy (fn:=Tryz.f88) (t:=4) (by kernel_rfl) (by kernel_rfl) (by kernel_rfl) MP (by simp) (fun pk=>⟨rfl,trivial⟩) (by simp[AC.fits]) ?_;unfold MQ;refine zb_ ?_;change iT _ _ _ _ (stS 35 _ _ _);have hfz:=hlen z;simp only[undef,stS,st0,stN,D.av,D.avN,dn,aY,dA,dw,gy,dD,eY,eX,aW,aJ,aG,GPart.aF,GPart.aA,GPart.aH,GPart.el,l_,p_,i_,f_,j_,a_,c_,n_,o_]
 repeat' (first|(refine rg_ ?_;intro K hK)|(refine hq_ ?_;clear hK K)|refine ca_ ?_ ?_|((with_reducible refine NK ?_);first|(refine callV hc (hstep z _) ?_))|((with_reducible refine Fq ?_);first|(refine Fz hc (hstep z _) ?_))|refine sz_ (a4_ @aW @aJ @aG @GPart.el) ?_|refine nv ?_|(refine c2_ ?_ ?_<;>(intro hb hb';try(exfalso;omega)))|exact bq_|fail)
 refine yE (X:=List Nat×List Nat×Nat×Nat) (fun q=> [.d,.k,.d,.d,.d,.v (.c false [.own 0 q.2.2.1]),.v (.c false [.own 1 q.2.2.2])]) (fun q=> [⟨q.1.map ln,3,1,q.2.2.1,true⟩,⟨q.2.1.map ln,3,1,q.2.2.2,true⟩]) (fun q bs=>bs) (fun q=>TodoInv n f z q.1 q.2.1) (fun q=>DL n f q.1 q.2.1) ([],f z,0,0) (TodoInv.start hlt) (by intro q;simp) ?_ ?_
 ·simp[bU,dW,bH,bK,AV.fits,AC.fits,FB,bQ]
 rintro⟨o,t,v1,v2⟩ hi;have hI:TodoInv n f z o t:=hi;clear hi;have hol:=wz hI.nd hI.lt;have htl:=hI.t;simp only[FB,bQ];by_cases h0:0<t.length
 ·have htk:(t.map ln).take t.length=t.map ln:=M_ (by simp);have hmd:(t.map ln).drop 1=(t.drop 1).map ln:=by rw[a_c]
  have hdl:(t.drop 1).length=t.length - 1:=t_;cases hh:oG o ((t[0]:Nat):Int)with
  | true=>
    have hcc:o.contains t[0]=true:=by rw[← pF];exact hh
    repeat' (first|(refine rg_ ?_;intro K hK)|(refine hq_ ?_;clear hK K)|refine ca_ ?_ ?_|(with_reducible refine QL ?_)|(refine cg_ ?_;first|refine cT_ (Az o ((t[0]:Nat):Int) (by omega)) ?_)|((with_reducible refine NK ?_);first|(refine callV hc (hstep ((t[0]:Nat):Int) _) ?_))|((with_reducible refine Fq ?_);first|(refine Fz hc (hstep ((t[0]:Nat):Int) _) ?_))|refine sz_ (a7_ @aW @aJ @aG @GPart.el hh htk hmd) ?_|refine nv ?_|(refine c2_ ?_ ?_<;>(intro hb hb';try(exfalso;omega)))|exact bq_|fail)
    refine dB (o,t.drop 1,v1,v2+1) ?_ (hI.skip h0 hcc) (Om h0);simp[bU,dW,bH,bK,AV.fits,AC.fits,FB,bQ]
  | false=>
    have hcc:o.contains t[0]=false:=by rw[← pF];exact hh
    have hp:=hI.put hlt h0 hcc;have hpt:=hp.t;rw[k_,hdl]at hpt
    repeat' (first|(refine rg_ ?_;intro K hK)|(refine hq_ ?_;clear hK K)|refine ca_ ?_ ?_|(with_reducible refine QL ?_)|(refine cg_ ?_;first|refine cT_ (Az o ((t[0]:Nat):Int) (by omega)) ?_)|((with_reducible refine NK ?_);first|(refine callV hc (hstep ((t[0]:Nat):Int) _) ?_))|((with_reducible refine Fq ?_);first|(refine Fz hc (hstep ((t[0]:Nat):Int) _) ?_))|refine sz_ (a7_ @aW @aJ @aG @GPart.el hh htk hmd) ?_|refine nv ?_|(refine c2_ ?_ ?_<;>(intro hb hb';try(exfalso;omega)))|exact bq_|fail)
    all_goals first
     |(simp only[d_,k_,a_,c_,t_];omega)
     | (refine dB (o++ [t[0]],t.drop 1++f ((t[0]:Nat):Int),v1+1,v2+1+1) ?_ hp (RV hI h0 hcc)
        simp[bU,dW,bH,bK,AV.fits,AC.fits,FB,bQ,ln,li])
 ·obtain rfl:t= []:=List.eq_nil_of_length_eq_zero (by omega);have hfin:=hI.fin;rw[← hfin]
  repeat' (first|(refine rg_ ?_;intro K hK)|(refine hq_ ?_;clear hK K)|refine ca_ ?_ ?_|(refine cg_ ?_;first|(refine bP (Hq n o hI.lt hn (by omega)) (aJ _) ?_ ?_))|refine sz_ (a4_ @aW @aJ @aG @GPart.el) ?_|refine nv ?_|(refine c2_ ?_ ?_<;>(intro hb hb';try(exfalso;omega)))|exact bq_|fail)
  exact aU ⟨2,0,rfl,rfl,rfl,rfl⟩
def uq :IC:=(zd_ [zz_ 2 (.box (.t 0)),zz_ 4 (.mov (.k (.slice none 0 0)))] (zd_ [zw_ 5 1,zz_ 6 (.mkf 89 [(.t 2)]),zp_ 7 88 5 6,zw_ 4 7] .ret))
theorem yh :ak Tryz.prog (Tryz.f73.body.getD .skip)=some uq:=by kernel_rfl
theorem CQ(l:List GPart)(z:Int)(hw:l.length+D.wts (l.map GPart.toD)≤1048576):dU Tryz.prog 73 [.sl (l.map GPart.toD),li z] ((cl l.length (nrI l false) z).map ln) 3 1:=by
 have ha:=X7 89 (by kernel_rfl) (l.map GPart.toD) l.length (nrI l false) (V4 l false) (QF l false) (by omega) (Zt l false hw) (fun z os=>PD l z os hw) z;refine jH (fn:=Tryz.f73) (t:=4) (hc:=yh) (h:= ?_);unfold uq;refine zb_ ?_;change AWP _ _ _ (st0 8 _);simp only[undef,stS,st0,stN,D.av,D.avN,dn,aY,dA,dw,gy,dD,eY,eX,aW,aJ,aG,GPart.aF,GPart.aA,GPart.aH,GPart.el,l_,p_,i_,f_,j_,a_,c_,n_,o_]
 repeat' (first|(refine rg_ ?_;intro K hK)|(refine hq_ ?_;clear hK K)|refine ca_ ?_ ?_|(refine cg_ ?_;first|(refine callS ha ?_))|refine sz_ (a4_ @aW @aJ @aG @GPart.el) ?_|refine nv ?_|(refine c2_ ?_ ?_<;>(intro hb hb';try(exfalso;omega)))|exact bq_|fail)
 exact aU ⟨0,_,_,rfl,rfl,rfl,rfl,rfl,rfl,r_ rfl⟩
noncomputable def onC(l:List GPart)(z:Int):Bool:=oG (cl l.length (nrI l false) z) z
def BI :IC:=(zd_ [zj_ 4 false] (zd_ [zw_ 5 0,zw_ 6 1,zp_ 7 68 5 6,zw_ 8 1,zp_ 9 67 7 8,zw_ 4 9] .ret))
theorem EM :ak Tryz.prog (Tryz.f42.body.getD .skip)=some BI:=by kernel_rfl
theorem uh(l:List GPart)(z:Int)(hw:l.length+D.wts (l.map GPart.toD)≤1048576):aB Tryz.prog 42 [.sl (l.map GPart.toD),li z] (.c false [.raw (.bool (onC l z))]):=by
 have hau:=CP l z hw;have hcl:=Xv l.length (nrI l false) z;refine kQ (fn:=Tryz.f42) (t:=4) (hc:=EM) (h:= ?_);unfold BI;refine zb_ ?_;change AWP _ _ _ (st0 10 _);simp only[undef,stS,st0,stN,D.av,D.avN,dn,aY,dA,dw,gy,dD,eY,eX,aW,aJ,aG,GPart.aF,GPart.aA,GPart.aH,GPart.el,l_,p_,i_,f_,j_,a_,c_,n_,o_]
 repeat' (first|(refine rg_ ?_;intro K hK)|(refine hq_ ?_;clear hK K)|refine ca_ ?_ ?_|(refine cg_ ?_;first|(refine bP hau (aJ _) ?_ ?_)|refine cT_ (jZ (cl l.length (nrI l false) z) z (by omega)) ?_)|refine sz_ (a4_ @aW @aJ @aG @GPart.el) ?_|refine nv ?_|(refine c2_ ?_ ?_<;>(intro hb hb';try(exfalso;omega)))|exact bq_|fail)
 exact aU ⟨_,rfl,rfl,trivial⟩
def BJ :IC:=(zd_ [zj_ 4 false] (zd_ [zw_ 5 0,zw_ 6 1,zp_ 7 73 5 6,zw_ 8 1,zp_ 9 72 7 8,zw_ 4 9] .ret))
theorem EN :ak Tryz.prog (Tryz.f46.body.getD .skip)=some BJ:=by kernel_rfl
theorem uj(l:List GPart)(z:Int)(hw:l.length+D.wts (l.map GPart.toD)≤1048576):aB Tryz.prog 46 [.sl (l.map GPart.toD),li z] (.c false [.raw (.bool (onC l z))]):=by
 have hau:=CQ l z hw;have hcl:=Xv l.length (nrI l false) z;refine kQ (fn:=Tryz.f46) (t:=4) (hc:=EN) (h:= ?_);unfold BJ;refine zb_ ?_;change AWP _ _ _ (st0 10 _);simp only[undef,stS,st0,stN,D.av,D.avN,dn,aY,dA,dw,gy,dD,eY,eX,aW,aJ,aG,GPart.aF,GPart.aA,GPart.aH,GPart.el,l_,p_,i_,f_,j_,a_,c_,n_,o_]
 repeat' (first|(refine rg_ ?_;intro K hK)|(refine hq_ ?_;clear hK K)|refine ca_ ?_ ?_|(refine cg_ ?_;first|(refine bP hau (aJ _) ?_ ?_)|refine cT_ (Az (cl l.length (nrI l false) z) z (by omega)) ?_)|refine sz_ (a4_ @aW @aJ @aG @GPart.el) ?_|refine nv ?_|(refine c2_ ?_ ?_<;>(intro hb hb';try(exfalso;omega)))|exact bq_|fail)
 exact aU ⟨_,rfl,rfl,trivial⟩
end
end Go.Proofs.YtagaefgglphkgaaGreat
