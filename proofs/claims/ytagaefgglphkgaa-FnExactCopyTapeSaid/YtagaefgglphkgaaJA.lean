/-
  Texts joined: Lib Types App Fin Mark Mk Own Read Kinds Names.
-/
import Derived.WalkKit
import Derived.WalkSpells
import Derived.WalkLawsBesides
import Derived.ProofKit
import Derived.OpenShut
import Derived.Below
import Derived.Carry
import Derived.Outline
import Derived.Lib.Hide
import Derived.Laws.OwnMore
import Derived.Laws.MakeOwn
import Derived.Maps.AppendAt
import Derived.Deep.AppendLies
import Derived.Deep.RegionHeld3
import Derived.Deep.DeepCutAuto
import Derived.Deep.DeepFit
import Derived.Deep.QuietTactic
import Derived.Deep.Slices
import Derived.BigQuiet
import Derived.RegionTactic
import Derived.OwnWalk
import Derived.Test.YtagaefgglphkgaaRows
import Derived.ChangeSame
import Derived.Test.YtagaefgglphkgaaProg
import Derived.Laws.IdiomStrings
import Derived.Laws.Concat
import Derived.KernelRfl
set_option maxHeartbeats 1000000
set_option maxRecDepth 20000
set_option linter.unusedSimpArgs false
set_option linter.unusedVariables false
namespace Go.Proofs.Ytagaefgglphkgaa
open Go.RowKit
section
open List renaming getElem?_eq_getElem→a_,mem_map→b_,cons_append→c_,nil_append→d_,getElem?_append_right→e_,getElem?_append_left→h_,mem_append→i_,length_take→j_,take_append_drop→k_,append_nil→m_,take_succ_eq_append_getElem→n_,getElem?_eq_some_iff→o_,length_cons→r_,mem_cons→t_,drop_eq_getElem_cons→u_,nodup_append→z_,mem_of_mem_take→B_,length_append→H_,length_set→N_,nodup_cons→R_,drop_eq_nil_of_le→U_,singleton_append→W_,sizeOf_lt_of_mem→X_,append_assoc→a_c,length_map→a_g
open DataW renaming trod→f_,trod_struct→A_,trod_int→a_i,TrodAll→a_m,Trod→a_q
open Nat renaming lt_of_lt_of_le→g_,le_refl→p_,zero_add→q_,le_trans→s_,min_eq_left→F_,lt_or_ge→J_,add_zero→Q_,add_assoc→Y_,sub_self→a_b,strongRecOn→a_h,lt_irrefl→a_n,zero_mul→a_o
open Below renaming heap_setCell→l_,heap_alloc→C_,refl→O_
open Value renaming oneCell'→v_,ownBlock→K_,okWide→a_a
open Or renaming inr→w_,inl→I_
open List.cons renaming injEq→x_
open Value.slice renaming injEq→y_
open World renaming setCell→D_,cell?_of_block→M_,cell?_setCell_other→P_,frozen?_of_block→S_,cell? →T_,cells?_some→a_d,frozen? →a_k
open SizeOf renaming sizeOf→E_
open Builtin renaming append_→G_,firstCells→Z_,lenOf→a_l
open UInt8 renaming ofNat→L_
theorem UZ{a b:Prop}(h:a)(g:b):a∧b:=⟨h,g⟩
theorem iZ{k:IntKind}{a b:Int}(h:a=b):Ending.returned (.int k a)= .returned (.int k b):=by rw[h]
def At(w:World)(b o:Nat)(cs:List Value):Prop:=∀j u,cs[j]? =some u→w.cell? ⟨b,o+j,none⟩=some u
theorem At.head{w:World}{b o:Nat}{c:Value}{cs:List Value}(h:At w b o (c::cs)):w.cell? ⟨b,o,none⟩=some c:=h 0 c rfl
theorem At.nth{w:World}{b o:Nat}{cs:List Value}(h:At w b o cs)(j:Nat){u:Value}(hj:cs[j]? =some u):w.cell? ⟨b,o+j,none⟩=some u:=h j u hj
theorem At.left{w:World}{b o:Nat}{c1 c2:List Value}(h:At w b o (c1++c2)):At w b o c1:=fun j u hj=>by
 refine h j u ?_;rw[h_]
 ·exact hj
 ·exact(o_.1 hj).1
theorem At.right{w:World}{b o:Nat}{c1 c2:List Value}(h:At w b o (c1++c2)):At w b (o+c1.length) c2:=fun j u hj=>by
 have:=h (c1.length+j) u (by rw[e_ (by omega)];simpa using hj);rwa[← Y_]at this
inductive D where
 |leaf (v:Value)
 |sl (l:List D)
 |agg (l:List D)
mutual
def R(w:World):D→List Nat→List Value→Prop
 | .leaf v,fp,cs=>fp= []∧cs= [v]
 | .agg l,fp,cs=>Rs w l fp cs
 | .sl l,fp,cs=>∃A cap,cs= [.slice A l.length cap]∧l.length≤cap∧cap≤maxLen∧((l= []∧fp= [])∨∃b o fp' cs',A=some ⟨b,o,none⟩∧fp=b::fp'∧b<w.heap.size∧Rs w l fp' cs'∧At w b o cs')
def Rs(w:World):List D→List Nat→List Value→Prop
 | [],fp,cs=>fp= []∧cs= []
 |d::l,fp,cs=>∃f1 f2 c1 c2,fp=f1++f2∧cs=c1++c2∧R w d f1 c1∧Rs w l f2 c2
end
mutual
def D.sz :D→Nat
 | .leaf _=>1
 | .sl _=>1
 | .agg l=>D.szs l
def D.szs :List D→Nat
 | []=>0
 |d::l=>d.sz+D.szs l
end
mutual
theorem R.len{w:World}:∀{d:D} {fp:List Nat} {cs:List Value},R w d fp cs→cs.length=d.sz
 | .leaf _,_,_,h=>by rw[h.2];rfl
 | .sl _,_,_,h=>by obtain⟨A,cap,rfl,_⟩:=h;rfl
 | .agg l,_,_,h=>by rw[D.sz];exact Rs.len (l:=l) (by simpa[R]using h)
theorem Rs.len{w:World}:∀{l:List D} {fp:List Nat} {cs:List Value},Rs w l fp cs→cs.length=D.szs l
 | [],_,_,h=>by rw[h.2];rfl
 | d::l,_,_,h=>by
   obtain⟨f1,f2,c1,c2,rfl,rfl,h1,h2⟩:=h;rw[H_,h1.len,Rs.len h2,D.szs]
end
mutual
theorem R.same{w w':World}:∀{d:D} {fp:List Nat} {cs:List Value},R w d fp cs→(∀b∈fp,w'.heap[b]? =w.heap[b]?)→w.heap.size≤w'.heap.size→R w' d fp cs
 | .leaf _,_,_,h,_,_=>h
 | .agg l,fp,cs,h,hs,hz=>by
   rw[R]at h⊢;exact Rs.same h hs hz
 | .sl l,fp,cs,h,hs,hz=>by
   rw[R]at h⊢;obtain⟨A,cap,rfl,h1,h2,h3⟩:=h;refine⟨A,cap,rfl,h1,h2, ?_⟩;rcases h3 with h3|⟨b,o,fp',cs',rfl,rfl,hb,hr,ha⟩
   ·exact I_ h3
   ·refine w_ ⟨b,o,fp',cs',rfl,rfl,by omega,Rs.same hr (fun x hx=>hs x (by simp[hx])) hz,fun j u hj=> ?_⟩;rw[M_ (w:=w) (hs b (by simp))];exact ha j u hj
theorem Rs.same{w w':World}:∀{l:List D} {fp:List Nat} {cs:List Value},Rs w l fp cs→(∀b∈fp,w'.heap[b]? =w.heap[b]?)→w.heap.size≤w'.heap.size→Rs w' l fp cs
 | [],_,_,h,_,_=>h
 | d::l,_,_,h,hs,hz=>by
   obtain⟨f1,f2,c1,c2,rfl,rfl,h1,h2⟩:=h;exact⟨f1,f2,c1,c2,rfl,rfl,h1.same (fun b hb=>hs b (by simp[hb])) hz,Rs.same h2 (fun b hb=>hs b (by simp[hb])) hz⟩
end
mutual
theorem R.lt{w:World}:∀{d:D} {fp:List Nat} {cs:List Value},R w d fp cs→∀b∈fp,b<w.heap.size
 | .leaf _,_,_,h,b,hb=>by rw[h.1]at hb;simp at hb
 | .agg l,fp,cs,h,b,hb=>by
   rw[R]at h;exact Rs.lt h b hb
 | .sl l,fp,cs,h,b,hb=>by
   rw[R]at h;obtain⟨A,cap,rfl,h1,h2,h3⟩:=h;rcases h3 with h3|⟨b',o,fp',cs',rfl,rfl,hb',hr,ha⟩
   ·rw[h3.2]at hb;simp at hb
   ·rcases t_.1 hb with rfl|hb
    ·exact hb'
    ·exact Rs.lt hr b hb
theorem Rs.lt{w:World}:∀{l:List D} {fp:List Nat} {cs:List Value},Rs w l fp cs→∀b∈fp,b<w.heap.size
 | [],_,_,h,b,hb=>by rw[h.1]at hb;simp at hb
 | d::l,_,_,h,b,hb=>by
   obtain⟨f1,f2,c1,c2,rfl,rfl,h1,h2⟩:=h;rcases i_.1 hb with hb|hb
   ·exact h1.lt b hb
   ·exact Rs.lt h2 b hb
end
theorem R.below{w w':World}{d:D}{fp:List Nat}{cs:List Value}(h:R w d fp cs)(hb:Below w.heap.size w w'):R w' d fp cs:=
 h.same (fun b hm=>hb.block b (h.lt b hm)) hb.size
theorem Rs.below{w w':World}{l:List D}{fp:List Nat}{cs:List Value}(h:Rs w l fp cs)(hb:Below w.heap.size w w'):Rs w' l fp cs:=
 h.same (fun b hm=>hb.block b (h.lt b hm)) hb.size
theorem R.grown{w w':World}{row:Option Nat}{d:D}{fp:List Nat}{cs:List Value}(h:R w d fp cs)(hg:w.grownBy w' row)(hn:∀g,row=some g→g∉fp):R w' d fp cs:=
 h.same (fun b hm=>hg.block b (h.lt b hm) (fun e=>hn b e.symm hm)) hg.size
theorem Rs.grown{w w':World}{row:Option Nat}{l:List D}{fp:List Nat}{cs:List Value}(h:Rs w l fp cs)(hg:w.grownBy w' row)(hn:∀g,row=some g→g∉fp):Rs w' l fp cs:=
 h.same (fun b hm=>hg.block b (h.lt b hm) (fun e=>hn b e.symm hm)) hg.size
theorem R.setCell{w:World}{d:D}{fp:List Nat}{cs:List Value}(h:R w d fp cs){p:Addr}(hp:p.block∉fp)(u:Value):R (w.setCell p u) d fp cs:=
 h.same (fun b hm=>l_ _ _ _ _ (fun e=>hp (e▸hm))) (by simp[D_])
theorem Rs.setCell{w:World}{l:List D}{fp:List Nat}{cs:List Value}(h:Rs w l fp cs){p:Addr}(hp:p.block∉fp)(u:Value):Rs (w.setCell p u) l fp cs:=
 h.same (fun b hm=>l_ _ _ _ _ (fun e=>hp (e▸hm))) (by simp[D_])
theorem Rs.append{w:World}{l2:List D}{f2:List Nat}{c2:List Value}(h2:Rs w l2 f2 c2):∀{l1:List D} {f1:List Nat} {c1:List Value},Rs w l1 f1 c1→Rs w (l1++l2) (f1++f2) (c1++c2)
 | [],_,_,h=>by rw[h.1,h.2];exact h2
 | d::l,_,_,h=>by
   obtain⟨g1,g2,e1,e2,rfl,rfl,h1,h3⟩:=h;exact⟨g1,g2++f2,e1,e2++c2,by simp,by simp,h1,Rs.append h2 h3⟩
theorem Rs.split{w:World}{l2:List D}:∀{l1:List D} {f:List Nat} {c:List Value},Rs w (l1++l2) f c→∃f1 f2 c1 c2,f=f1++f2∧c=c1++c2∧Rs w l1 f1 c1∧Rs w l2 f2 c2
 | [],f,c,h=>⟨[],f,[],c,rfl,rfl,⟨rfl,rfl⟩,h⟩
 | d::l,_,_,h=>by
   obtain⟨g1,g2,e1,e2,rfl,rfl,h1,h3⟩:=h;obtain⟨f1,f2,c1,c2,rfl,rfl,h4,h5⟩:=Rs.split (l1:=l) h3;exact⟨g1++f1,f2,e1++c1,c2,by simp,by simp,⟨g1,f1,e1,c1,rfl,rfl,h1,h4⟩,h5⟩
theorem Rs.one{w:World}{d:D}{f:List Nat}{c:List Value}(h:R w d f c):Rs w [d] f c:=⟨f,[],c,[],by simp,by simp,h,rfl,rfl⟩
theorem Rs.Aa{w:World}{d:D}{f:List Nat}{c:List Value}(h:Rs w [d] f c):R w d f c:=by
 obtain⟨f1,f2,c1,c2,rfl,rfl,h1,h2,h3⟩:=h;simpa[h2,h3]using h1
theorem fH{s:Nat}:∀(l:List D),(∀d∈l,d.sz=s)→D.szs l=l.length*s
 | [],_=>by simp[D.szs]
 | d::l,h=>by
   rw[D.szs,fH l (fun x hx=>h x (by simp[hx])),h d (by simp),r_,Nat.add_mul];omega
theorem Rs.get{w:World}{s:Nat}{l:List D}{fp:List Nat}{cs:List Value}(h:Rs w l fp cs)(hs:∀d∈l,d.sz=s){i:Nat}{d:D}(hd:l[i]? =some d):
 ∃fi ci,R w d fi ci∧(∀x∈fi,x∈fp)∧∀j u,ci[j]? =some u→cs[i*s+j]? =some u:=by
 obtain⟨hi,hd'⟩:=o_.1 hd;have e:l=l.take i++(d::l.drop (i+1)):=by rw[← hd',← u_,k_]
 rw[e]at h;obtain⟨f1,f2,c1,c2,rfl,rfl,h1,h2⟩:=Rs.split h;obtain⟨g1,g2,e1,e2,rfl,rfl,h3,h4⟩:=h2;refine⟨g1,e1,h3,fun x hx=>by simp[hx],fun j u hj=> ?_⟩;have hl:c1.length=i*s:=by
  rw[h1.len,fH (s:=s) _ (fun x hx=>hs x (B_ hx)),j_,F_ (by omega)]
 rw[e_ (by omega),hl,show i*s+j - i*s=j by omega,h_]
 ·exact hj
 ·exact(o_.1 hj).1
def Sl(w:World)(l:List D)(fp:List Nat)(v:Value):Prop:=R w (.sl l) fp [v]
theorem Sl.form{w:World}{l:List D}{fp:List Nat}{v:Value}(h:Sl w l fp v):∃A cap,v= .slice A l.length cap∧l.length≤cap∧cap≤maxLen:=by
 unfold Sl at h;rw[R]at h;obtain⟨A,cap,h1,h2,h3,_⟩:=h;simp only[x_,and_true]at h1;exact⟨A,cap,h1,h2,h3⟩
theorem Sl.elem{w:World}{s:Nat}{l:List D}{fp:List Nat}{A:Option Addr}{n cap:Nat}(h:Sl w l fp (.slice A n cap))(hs:∀d∈l,d.sz=s){k:Nat}{d:D}(hd:l[k]? =some d):
 ∃b o fi ci,A=some ⟨b,o,none⟩∧b<w.heap.size∧b∈fp∧R w d fi ci∧(∀x∈fi,x∈fp)∧At w b (o+k*s) ci:=by
 unfold Sl at h;rw[R]at h;obtain⟨A',cap',h1,_,_,h3⟩:=h;simp only[x_,and_true,y_]at h1;obtain⟨rfl,rfl,rfl⟩:=h1;rcases h3 with⟨rfl,_⟩|⟨b,o,fp',cs',rfl,rfl,hb,hr,ha⟩
 ·simp at hd
 ·obtain⟨fi,ci,h4,h5,h6⟩:=hr.get hs hd;exact⟨b,o,fi,ci,rfl,hb,by simp,h4,fun x hx=>by simp[h5 x hx],fun j u hj=>by
   have:=ha _ u (h6 j u hj);rwa[← Y_]at this⟩
theorem Sl.below{w w':World}{l:List D}{fp:List Nat}{v:Value}(h:Sl w l fp v)(hb:Below w.heap.size w w'):Sl w' l fp v:=R.below h hb
def aX(w:World)(base:Nat)(fp:List Nat):Prop:=fp.Nodup∧∀b∈fp,base≤b∧∀o,w.frozen? ⟨b,o,none⟩=false
theorem aX.nil{w:World}{base:Nat}:aX w base []:=⟨List.nodup_nil,fun _ h=>by simp at h⟩
theorem aX.same{w w':World}{base:Nat}{fp:List Nat}(h:aX w base fp)(hs:∀b∈fp,w'.heap[b]? =w.heap[b]?):aX w' base fp:=
 ⟨h.1,fun b hb=>⟨(h.2 b hb).1,fun o=>by rw[S_ (w:=w) (hs b hb)];exact(h.2 b hb).2 o⟩⟩
theorem aX.mono{w:World}{base base':Nat}{fp:List Nat}(h:aX w base fp)(hb:base'≤base):aX w base' fp:=
 ⟨h.1,fun b hm=>⟨s_ hb (h.2 b hm).1,(h.2 b hm).2⟩⟩
theorem Sl.of_own{w:World}{base:Nat}{e:TypeId}{s:Nat}{v:Value}{l:List D}{fp:List Nat}{cs:List Value}(h:w.ownsRow base e s v l.length cs)(hr:Rs w l fp cs):
 Sl w l (v.ownBlock.toList++fp) v:=by
 unfold Sl;rw[R];obtain⟨h1,h2⟩:=h;rcases h2 with⟨rfl,h3⟩|⟨g,cap,cur,rfl,hg,hh,hn,hm,hsz,ht⟩
 ·have hl:l= []:=List.eq_nil_of_length_eq_zero h3;subst hl;exact⟨none,0,by simp,by simp,by simp,I_ ⟨rfl,by simpa[K_]using hr.1⟩⟩
 ·refine⟨some ⟨g,0,none⟩,cap,rfl,hn,hm,w_ ⟨g,0,fp,cs,rfl,by simp[K_], ?_,hr,fun j u hj=> ?_⟩⟩
  ·rcases J_ g w.heap.size with hlt|hge
   ·exact hlt
   ·rw[Array.getElem?_eq_none hge]at hh;cases hh
  ·subst ht;simp only[q_,T_,hh];rw[List.getElem?_take]at hj;split at hj
   ·simpa using hj
   ·cases hj
theorem aX.of_own{w:World}{base:Nat}{e:TypeId}{s n:Nat}{v:Value}{fp:List Nat}{cs:List Value}(h:w.ownsRow base e s v n cs)(hf:aX w base fp)(hn:∀g,v.ownBlock=some g→g∉fp):
 aX w base (v.ownBlock.toList++fp):=by
 obtain⟨h1,h2⟩:=h;rcases h2 with⟨rfl,h3⟩|⟨g,cap,cur,rfl,hg,hh,_⟩
 ·simpa[K_]using hf
 ·refine⟨by simp only[K_,Option.toList,W_,R_];exact⟨hn g rfl,hf.1⟩,fun b hb=> ?_⟩;simp only[K_,Option.toList,W_,t_]at hb;rcases hb with rfl|hb
  ·refine⟨hg,fun o=> ?_⟩;simp only[a_k,hh];simp
  ·exact hf.2 b hb
def TU :Value→Prop
 | .int k n=>(Lit.int k n).wf=true
 | .string s=>s.size≤maxLen
 |_=>True
def lF :Value→Nat
 | .string s=>s.size
 |_=>0
mutual
def D.wf :D→Prop
 | .leaf v=>TU v
 | .sl l=>D.wfs l
 | .agg l=>D.wfs l
def D.wfs :List D→Prop
 | []=>True
 |d::l=>d.wf∧D.wfs l
end
mutual
def D.wt :D→Nat
 | .leaf v=>lF v
 | .sl l=>l.length+D.wts l
 | .agg l=>D.wts l
def D.wts :List D→Nat
 | []=>0
 |d::l=>d.wt+D.wts l
end
theorem D.pq :∀{l:List D},D.wfs l→∀{d:D},d∈l→d.wf
 | [],_,_,h=>by simp at h
 | x::l,hw,d,h=>by
   rcases t_.1 h with rfl|h
   ·exact hw.1
   ·exact D.pq hw.2 h
theorem D.oM(l:List D)(k:Nat)(hk:k<l.length):D.wts (l.drop k)=(l[k]).wt+D.wts (l.drop (k+1)):=by
 rw[u_ hk,D.wts]
def bU(left:Int)(k:Nat)(r:Int):Prop:=(left<k∧r= -1)∨((k:Int)≤left∧r=left - k)
def QT(left:Int)(k:Nat)(w:World)(e:Ending)(w':World):Prop:=∃r:Int,e= .returned (.int .i64 r)∧bU left k r∧ -1≤r∧r≤left∧Below w.heap.size w w'
def jf(P:Program)(f:Nat)(d:D):Prop:=∀(w:World) (fp:List Nat) (cs:List Value) (left:Int),R w d fp cs→d.wf→0≤left→left≤1048576→Calls P f #[.agg cs.toArray,.int .i64 left] w (QT left d.wt w)
def gY(P:Program)(f:Nat)(l:List D):Prop:=∀(w:World) (fp:List Nat) (v:Value) (left:Int),Sl w l fp v→D.wfs l→0≤left→left≤1048576→Calls P f #[v,.int .i64 left] w (QT left (l.length+D.wts l) w)
theorem bU.step{a b:Int}{j k:Nat}(h:bU a j b){c:Int}(hb:0≤b)(h':bU b k c):bU a (j+k) c:=by
 unfold bU at*;omega
theorem bU.stop{a b:Int}{j:Nat}(h:bU a j b)(hb:b<0)(k:Nat):bU a (j+k) (-1):=by
 unfold bU at*;omega
theorem bU.sub{a:Int}{k:Nat}(h:(k:Int)≤a):bU a k (a - k):=by
 unfold bU;omega
theorem bU.out{a:Int}{k:Nat}(h:a<k):bU a k (-1):=by
 unfold bU;omega
theorem bU.le{a b:Int}{j:Nat}(h:bU a j b)(hb:0≤b):(j:Int)+b=a:=by
 unfold bU at h;omega
theorem DJ{B:Nat}{W w1:World}(hb:Below B W w1):(∀b o,b<B→w1.cell? ⟨b,o,none⟩=W.cell? ⟨b,o,none⟩)∧(∀b o,b<B→w1.frozen? ⟨b,o,none⟩=W.frozen? ⟨b,o,none⟩):=
 ⟨fun b o h=>hb.cell (p:=⟨b,o,none⟩) h,fun b o h=>hb.frozen (p:=⟨b,o,none⟩) h⟩
theorem Sl.ak{α:Type}{f:α→D}{w:World}{l:List α}{fp:List Nat}{v:Value}(h:Sl w (l.map f) fp v):∃A cap,v= .slice A l.length cap∧l.length≤cap∧cap≤maxLen:=by
 obtain⟨A,cap,h1,h2,h3⟩:=h.form;rw[a_g]at h1 h2;exact⟨A,cap,h1,h2,h3⟩
def mP(d:D)(w:World)(e:Ending)(w':World):Prop:=∃fp cs,e= .returned (.agg cs.toArray)∧R w' d fp cs∧aX w' w.heap.size fp∧Below w.heap.size w w'
def kY(l:List D)(w:World)(e:Ending)(w':World):Prop:=∃fp v,e= .returned v∧Sl w' l fp v∧aX w' w.heap.size fp∧Below w.heap.size w w'
def iJ(P:Program)(f:Nat)(d:D):Prop:=∀(w:World) (fp:List Nat) (cs:List Value),R w d fp cs→d.wt≤1048576→Calls P f #[.agg cs.toArray] w (mP d w)
def fV(P:Program)(f:Nat)(l:List D):Prop:=∀(w:World) (fp:List Nat) (v:Value),Sl w l fp v→l.length+D.wts l≤1048576→Calls P f #[v] w (kY l w)
theorem D.jW :∀{l:List D} {d:D},d∈l→d.wt≤D.wts l
 | [],_,h=>by simp at h
 | x::l,d,h=>by
   rcases t_.1 h with rfl|h
   ·rw[D.wts];omega
   ·have:=D.jW h;rw[D.wts];omega
def sets :List Value→Nat→List Value→List Value
 |xs,_,[]=>xs
 |xs,i,c::cs=>sets (xs.set i c) (i+1) cs
def setCells(w:World)(g i:Nat)(cs:List Value):World:=
 match cs with
 | []=>w
 |c::cs=>setCells (w.setCell ⟨g,i,none⟩ c) g (i+1) cs
theorem jB :∀(cs xs:List Value) (i:Nat),(sets xs i cs).length=xs.length
 | [],_,_=>rfl
 |c::cs,xs,i=>by rw[sets,jB cs,N_]
theorem jJ :∀(cs xs:List Value) (i:Nat),i+cs.length≤xs.length→(sets xs i cs).take (i+cs.length)=xs.take i++cs
 | [],xs,i,_=>by simp[sets]
 | c::cs,xs,i,h=>by
   rw[r_]at h;rw[sets,r_,show i+(cs.length+1)=(i+1)+cs.length by omega,jJ cs _ _ (by rw[N_];omega)];have:(xs.set i c).take (i+1)=xs.take i++ [c]:=by
    rw[n_ (by rw[N_];omega),List.take_set_of_le (by omega),List.getElem_set_self]
   rw[this];simp
def Row(w:World)(g:Nat)(e:TypeId)(xs:List Value):Prop:=w.heap[g]? =some (.cells xs.toArray e (0,0))
theorem Row.lt{w:World}{g:Nat}{e:TypeId}{xs:List Value}(h:Row w g e xs):g<w.heap.size:=by
 rcases J_ g w.heap.size with hlt|hge
 ·exact hlt
 ·unfold Row at h;rw[Array.getElem?_eq_none hge]at h;cases h
theorem Row.cell{w:World}{g:Nat}{e:TypeId}{xs:List Value}(h:Row w g e xs)(i:Nat):w.cell? ⟨g,i,none⟩=xs[i]? :=by
 unfold Row at h;simp[T_,h]
theorem Row.at_{w:World}{g:Nat}{e:TypeId}{xs:List Value}(h:Row w g e xs){i:Nat}(hi:i<xs.length):w.cell? ⟨g,i,none⟩=some xs[i]:=by
 rw[h.cell,a_ hi]
theorem Row.frozen{w:World}{g:Nat}{e:TypeId}{xs:List Value}(h:Row w g e xs)(i:Nat):w.frozen? ⟨g,i,none⟩=false:=by
 unfold Row at h;simp[a_k,h]
theorem Row.set{w:World}{g:Nat}{e:TypeId}{xs:List Value}(h:Row w g e xs)(i:Nat)(u:Value):Row (w.setCell ⟨g,i,none⟩ u) g e (xs.set i u):=by
 unfold Row at h⊢;simp[D_,Array.getElem?_modify,h]
theorem Row.sets{g:Nat}{e:TypeId}:∀(cs:List Value) {w:World} {xs:List Value} (_:Row w g e xs) (i:Nat),Row (setCells w g i cs) g e (sets xs i cs)
 | [],_,_,h,_=>by rw[setCells];exact h
 |c::cs,_,_,h,i=>by rw[setCells,Go.Proofs.Ytagaefgglphkgaa.sets];exact Row.sets cs (h.set i c) (i+1)
theorem Row.same{w w':World}{g:Nat}{e:TypeId}{xs:List Value}(h:Row w g e xs)(hs:w'.heap[g]? =w.heap[g]?):Row w' g e xs:=hs.trans h
theorem Row.below{w w':World}{g:Nat}{e:TypeId}{xs:List Value}(h:Row w g e xs)(hb:Below w.heap.size w w'):Row w' g e xs:=(hb.block g h.lt).trans h
theorem Row.new(w:World)(e:TypeId)(cs:Array Value):Row (w.alloc (.cells cs e)) w.heap.size e cs.toList:=by
 unfold Row;exact heap_alloc_new w _
theorem mW{g k:Nat}(hk:k≠g):∀(cs:List Value) (w:World) (i:Nat),(setCells w g i cs).heap[k]? =w.heap[k]?
 | [],_,_=>by rw[setCells]
 |c::cs,w,i=>by rw[setCells,mW hk cs];exact l_ _ _ _ _ hk
theorem oI{g:Nat}:∀(cs:List Value) (w:World) (i:Nat),(setCells w g i cs).heap.size=w.heap.size
 | [],_,_=>by rw[setCells]
 |c::cs,w,i=>by rw[setCells,oI cs];simp[D_]
theorem iH{B g:Nat}(hg:B≤g){a:World}:∀(cs:List Value) {w:World} (_:Below B a w) (i:Nat),Below B a (setCells w g i cs)
 | [],_,h,_=>by rw[setCells];exact h
 |c::cs,_,h,i=>by rw[setCells];exact iH hg cs (h.setCell (p:=⟨g,i,none⟩) hg c) (i+1)
theorem Sl.pG{w:World}{g:Nat}{e:TypeId}{xs:List Value}{l:List D}{fp:List Nat}{n:Nat}(h:Row w g e xs)(hr:Rs w l fp xs)(hn:l.length=n)(hm:n≤maxLen):Sl w l (g::fp) (.slice (some ⟨g,0,none⟩) n n):=by
 subst hn;unfold Sl;rw[R];exact⟨_,_,rfl,p_ _,hm,w_ ⟨g,0,fp,xs,rfl,rfl,h.lt,hr,fun j u hj=>by rw[q_,h.cell,hj]⟩⟩
theorem aX.lZ{w:World}{base g:Nat}{e:TypeId}{xs:List Value}{fp:List Nat}(h:Row w g e xs)(hg:base≤g)(hf:aX w (g+1) fp):aX w base (g::fp):=by
 refine⟨R_.2 ⟨fun hm=>by have:=(hf.2 g hm).1;omega,hf.1⟩,fun b hb=> ?_⟩;rcases t_.1 hb with rfl|hb
 ·exact⟨hg,h.frozen⟩
 ·exact⟨by have:=(hf.2 b hb).1;omega,(hf.2 b hb).2⟩
theorem aX.append{w:World}{base mid:Nat}{f1 f2:List Nat}(h1:aX w base f1)(hm:∀b∈f1,b<mid)(h2:aX w mid f2)(hb:base≤mid):aX w base (f1++f2):=by
 refine⟨z_.2 ⟨h1.1,h2.1,fun a ha b hb' e=> ?_⟩,fun b hb'=> ?_⟩
 ·have:=hm a ha;have:=(h2.2 b hb').1;omega
 ·rcases i_.1 hb' with h|h
  ·exact h1.2 b h
  ·exact⟨s_ hb (h2.2 b h).1,(h2.2 b h).2⟩
theorem aX.below{w w':World}{base:Nat}{fp:List Nat}(h:aX w base fp)(hl:∀b∈fp,b<w.heap.size)(hb:Below w.heap.size w w'):aX w' base fp:=h.same fun b hm=>hb.block b (hl b hm)
theorem aX.setCell{w:World}{base:Nat}{fp:List Nat}(h:aX w base fp){p:Addr}(hp:p.block∉fp)(u:Value):aX (w.setCell p u) base fp:=
 h.same fun b hm=>l_ _ _ _ _ (fun e=>hp (e▸hm))
theorem R.setCells{w:World}{d:D}{fp:List Nat}{cs:List Value}(h:R w d fp cs){g:Nat}(hp:g∉fp)(i:Nat)(us:List Value):R (setCells w g i us) d fp cs:=
 h.same (fun b hm=>mW (fun e:b=g=>hp (e▸hm)) _ _ _) (by rw[oI];exact p_ _)
theorem Rs.setCells{w:World}{d:List D}{fp:List Nat}{cs:List Value}(h:Rs w d fp cs){g:Nat}(hp:g∉fp)(i:Nat)(us:List Value):Rs (setCells w g i us) d fp cs:=
 h.same (fun b hm=>mW (fun e:b=g=>hp (e▸hm)) _ _ _) (by rw[oI];exact p_ _)
theorem aX.setCells{w:World}{base:Nat}{fp:List Nat}(h:aX w base fp){g:Nat}(hp:g∉fp)(i:Nat)(us:List Value):aX (setCells w g i us) base fp:=
 h.same fun b hm=>mW (fun e:b=g=>hp (e▸hm)) _ _ _
structure Kept (lo hi:Nat) (w w':World):Prop where
 os:w'.os=w.os
 tape:w'.tape=w.tape
 output:w'.output=w.output
 size:w.heap.size≤w'.heap.size
 block:∀k,k<w.heap.size→(k<lo∨hi≤k)→w'.heap[k]? =w.heap[k]?
theorem Kept.refl(lo hi:Nat)(w:World):Kept lo hi w w:=⟨rfl,rfl,rfl,p_ _,fun _ _ _=>rfl⟩
theorem Kept.trans{lo hi:Nat}{a b c:World}(h:Kept lo hi a b)(k:Kept lo hi b c):Kept lo hi a c:=
 ⟨k.os.trans h.os,k.tape.trans h.tape,k.output.trans h.output,s_ h.size k.size,fun i hi' ho=>(k.block i (g_ hi' h.size) ho).trans (h.block i hi' ho)⟩
theorem Kept.below{lo hi:Nat}{a b c:World}(h:Kept lo hi a b)(k:Below b.heap.size b c):Kept lo hi a c:=
 h.trans ⟨k.os,k.tape,k.output,k.size,fun i hi' _=>k.block i hi'⟩
theorem Kept.setCell{lo hi:Nat}{a b:World}(h:Kept lo hi a b){p:Addr}(h1:lo≤p.block)(h2:p.block<hi)(u:Value):Kept lo hi a (b.setCell p u):=
 h.trans ⟨rfl,rfl,rfl,by simp[D_],fun i hi' ho=>l_ _ _ _ _ (by omega)⟩
theorem Kept.alloc{lo hi:Nat}{a b:World}(h:Kept lo hi a b)(o:Obj):Kept lo hi a (b.alloc o):=
 h.trans ⟨rfl,rfl,rfl,by simp,fun i hi' _=>C_ _ _ _ hi'⟩
theorem Kept.drew{lo hi:Nat}{a b:World}(h:Kept lo hi a b):Kept lo hi a b.drew:=h.trans ⟨rfl,rfl,rfl,p_ _,fun _ _ _=>rfl⟩
theorem Kept.toBelow{lo hi B:Nat}{a b c:World}(h:Below B a b)(k:Kept lo hi b c)(hB:B≤lo)(hs:B≤b.heap.size):Below B a c:=
 h.trans ⟨k.os,k.tape,k.output,k.size,fun i hi'=>k.block i (by omega) (by omega)⟩
theorem R.kept{lo hi:Nat}{w w':World}{d:D}{fp:List Nat}{cs:List Value}(h:R w d fp cs)(hk:Kept lo hi w w')(ho:∀b∈fp,b<lo∨hi≤b):R w' d fp cs:=
 h.same (fun b hm=>hk.block b (h.lt b hm) (ho b hm)) hk.size
theorem Sl.kept{lo hi:Nat}{w w':World}{l:List D}{fp:List Nat}{v:Value}(h:Sl w l fp v)(hk:Kept lo hi w w')(ho:∀b∈fp,b<lo∨hi≤b):Sl w' l fp v:=R.kept h hk ho
theorem aX.kept{lo hi base:Nat}{w w':World}{fp:List Nat}(h:aX w base fp)(hl:∀b∈fp,b<w.heap.size)(hk:Kept lo hi w w')(ho:∀b∈fp,b<lo∨hi≤b):aX w' base fp:=
 h.same fun b hm=>hk.block b (hl b hm) (ho b hm)
theorem aX.past{base hi lo:Nat}{w:World}{fp:List Nat}(h:aX w base fp)(hb:hi≤base):∀b∈fp,b<lo∨hi≤b:=fun b hm=>w_ (s_ hb (h.2 b hm).1)
theorem Row.far{w:World}{g:Nat}{e:TypeId}{xs:List Value}(h:Row w g e xs){p:Addr}(hp:g≠p.block)(u:Value):Row (w.setCell p u) g e xs:=(l_ _ _ _ _ hp).trans h
theorem CX{w w1:World}{a b c:Array Value}{ta tb tc:TypeId}(h:Below (((w.alloc (.cells a ta)).alloc (.cells b tb)).alloc (.cells c tc)).heap.size (((w.alloc (.cells a ta)).alloc (.cells b tb)).alloc (.cells c tc)) w1):
 Row w1 w.heap.size ta a.toList∧Row w1 (w.heap.size+1) tb b.toList∧Row w1 (w.heap.size+2) tc c.toList∧w.heap.size+3≤w1.heap.size∧Below w.heap.size w w1:=by
 have e1:(w.alloc (.cells a ta)).heap.size=w.heap.size+1:=by simp
 have e2:((w.alloc (.cells a ta)).alloc (.cells b tb)).heap.size=w.heap.size+2:=by simp
 have e3:(((w.alloc (.cells a ta)).alloc (.cells b tb)).alloc (.cells c tc)).heap.size=w.heap.size+3:=by simp
 have r0:=Row.new w ta a;have r1:=Row.new (w.alloc (.cells a ta)) tb b;have r2:=Row.new ((w.alloc (.cells a ta)).alloc (.cells b tb)) tc c;rw[e1]at r1;rw[e2]at r2;refine⟨?_, ?_,r2.below h,by have:=h.size;omega, ?_⟩
 ·exact Row.below (Row.same (Row.same r0 (C_ _ _ _ (by omega))) (C_ _ _ _ (by omega))) h
 ·exact Row.below (Row.same r1 (C_ _ _ _ (by omega))) h
 ·exact((((O_ _ _).alloc (p_ _) _).alloc (by omega) _).alloc (by omega) _).trans (h.mono (by omega))
theorem mP.fin{lo hi:Nat}{d:D}{w b c:World}{fp:List Nat}{cs:List Value}(hK:Kept lo hi b c)(hr:R b d fp cs)(hf:aX b w.heap.size fp)(ho:∀x∈fp,x<lo∨hi≤x)(hb:Below w.heap.size w b)(hlo:w.heap.size≤lo):
 mP d w (.returned (.agg cs.toArray)) c:=
 ⟨fp,cs,rfl,hr.kept hK ho,hf.kept hr.lt hK ho,Kept.toBelow hb hK hlo hb.size⟩
theorem nX{lo hi:Nat}{f g:List Nat}(h:∀x∈f,x<lo∨hi≤x)(k:∀x∈g,x<lo∨hi≤x):∀x∈f++g,x<lo∨hi≤x:=fun x hx=>by
 rcases i_.1 hx with h'|h'
 ·exact h x h'
 ·exact k x h'
def dZ(w:World)(e:Ending)(w':World):Prop:=e= .returned (.bool true)∧Below w.heap.size w w'
def iK(P:Program)(f:Nat)(d:D):Prop:=∀(w:World) (f1 f2:List Nat) (c1 c2:List Value),R w d f1 c1→R w d f2 c2→Calls P f #[.agg c1.toArray,.agg c2.toArray] w (dZ w)
def fZ(P:Program)(f:Nat)(l:List D):Prop:=∀(w:World) (f1 f2:List Nat) (v1 v2:Value),Sl w l f1 v1→Sl w l f2 v2→Calls P f #[v1,v2] w (dZ w)
theorem qw{w w1:World}{a b:Array Value}{ta tb:TypeId}(h:Below ((w.alloc (.cells a ta)).alloc (.cells b tb)).heap.size ((w.alloc (.cells a ta)).alloc (.cells b tb)) w1):
 Row w1 w.heap.size ta a.toList∧Row w1 (w.heap.size+1) tb b.toList∧w.heap.size+2≤w1.heap.size∧Below w.heap.size w w1:=by
 have e1:(w.alloc (.cells a ta)).heap.size=w.heap.size+1:=by simp
 have e2:((w.alloc (.cells a ta)).alloc (.cells b tb)).heap.size=w.heap.size+2:=by simp
 have r0:=Row.new w ta a;have r1:=Row.new (w.alloc (.cells a ta)) tb b;rw[e1]at r1;refine⟨?_,r1.below h,by have:=h.size;omega, ?_⟩
 ·exact Row.below (Row.same r0 (C_ _ _ _ (by omega))) h
 ·exact(((O_ _ _).alloc (p_ _) _).alloc (by omega) _).trans (h.mono (by omega))
theorem Um{w w1:World}{a:Array Value}{ta:TypeId}(h:Below (w.alloc (.cells a ta)).heap.size (w.alloc (.cells a ta)) w1):
 Row w1 w.heap.size ta a.toList∧w.heap.size+1≤w1.heap.size∧Below w.heap.size w w1:=by
 have e1:(w.alloc (.cells a ta)).heap.size=w.heap.size+1:=by simp
 exact⟨(Row.new w ta a).below h,by have:=h.size;omega,((O_ _ _).alloc (p_ _) _).trans (h.mono (by omega))⟩
theorem qX{B:Nat}{a w:World}(h:Below B a w)(n:Nat):Below B a (w.drewN n):=⟨h.os,h.tape,h.output,h.size,h.block⟩
def li(n:Int):D:= .leaf (.int .i64 n)
def ls(s:ByteArray):D:= .leaf (.string s)
theorem Ah{l:List Int}:∀d∈l.map li,d.sz=1:=fun d h=>by obtain⟨_,_,rfl⟩:=b_.1 h;rfl
theorem wX{l:List ByteArray}:∀d∈l.map ls,d.sz=1:=fun d h=>by obtain⟨_,_,rfl⟩:=b_.1 h;rfl
section
variable{w:World}{fp:List Nat}{cs:List Value}{l l':List D}
theorem dK :R w (.agg l) fp cs=Rs w l fp cs:=by rw[R]
theorem dW :Rs w [] fp cs=(fp= []∧cs= []):=by rw[Rs]
theorem bP{v:Value}:Rs w (.leaf v::l) fp cs↔∃c,cs=v::c∧Rs w l fp c:=by
 rw[Rs];constructor
 ·rintro⟨f1,f2,c1,c2,rfl,rfl,⟨rfl,rfl⟩,h⟩;exact⟨c2,rfl,h⟩
 ·rintro⟨c,rfl,h⟩;exact⟨[],fp,[v],c,rfl,rfl,⟨rfl,rfl⟩,h⟩
theorem iq :Rs w (.sl l'::l) fp cs↔∃v c f1 f2,fp=f1++f2∧cs=v::c∧Sl w l' f1 v∧Rs w l f2 c:=by
 rw[Rs];constructor
 ·rintro⟨f1,f2,c1,c2,rfl,rfl,h1,h2⟩;have h:=h1;rw[R]at h;obtain⟨A,cap,rfl,_⟩:=h;exact⟨_,c2,f1,f2,rfl,rfl,h1,h2⟩
 ·rintro⟨v,c,f1,f2,rfl,rfl,h1,h2⟩;exact⟨f1,f2,[v],c,rfl,rfl,h1,h2⟩
theorem dX :Rs w (.agg l'::l) fp cs↔Rs w (l'++l) fp cs:=by
 constructor
 ·intro h;rw[Rs]at h;obtain⟨f1,f2,c1,c2,rfl,rfl,h1,h2⟩:=h;rw[dK]at h1;exact Rs.append h2 h1
 ·intro h;obtain⟨f1,f2,c1,c2,rfl,rfl,h1,h2⟩:=Rs.split h;rw[Rs];exact⟨f1,f2,c1,c2,rfl,rfl,by rw[dK];exact h1,h2⟩
end
structure GOrigin where
 cell:Int
 row:Int
def GOrigin.toD(x:GOrigin):D:= .agg [li x.cell,li x.row]
theorem GOrigin.aj(x:GOrigin):x.toD= .agg [li x.cell,li x.row]:=rfl
theorem GOrigin.sz_eq(x:GOrigin):x.toD.sz=2:=by simp[GOrigin.aj,D.sz,D.szs,li,ls]
theorem GOrigin.szs{l:List GOrigin}:∀d∈l.map GOrigin.toD,d.sz=2:=fun d h=>by obtain⟨x,_,rfl⟩:=b_.1 h;exact x.sz_eq
theorem GOrigin.opened{w:World}{fp:List Nat}{cs:List Value}{x:GOrigin}:R w x.toD fp cs↔fp= []∧cs= [.int .i64 x.cell,.int .i64 x.row]:=by
 rw[GOrigin.aj,dK];simp only[dX,c_,d_,li,ls,bP,iq,dW];constructor
 ·rintro⟨_,rfl,⟨_,rfl,⟨rfl,rfl⟩⟩⟩;exact⟨rfl,rfl⟩
 ·rintro⟨rfl,rfl⟩;exact⟨_,rfl,⟨_,rfl,⟨rfl,rfl⟩⟩⟩
structure GRow where
 cells:List Int
 src:List GOrigin
def GRow.toD(x:GRow):D:= .agg [.sl (x.cells.map li),.sl (x.src.map GOrigin.toD)]
theorem GRow.aj(x:GRow):x.toD= .agg [.sl (x.cells.map li),.sl (x.src.map GOrigin.toD)]:=rfl
theorem GRow.sz_eq(x:GRow):x.toD.sz=2:=by simp[GRow.aj,D.sz,D.szs,li,ls]
theorem GRow.szs{l:List GRow}:∀d∈l.map GRow.toD,d.sz=2:=fun d h=>by obtain⟨x,_,rfl⟩:=b_.1 h;exact x.sz_eq
theorem GRow.opened{w:World}{fp:List Nat}{cs:List Value}{x:GRow}:R w x.toD fp cs↔∃v0 v1 f0 f1,fp=f0++f1∧cs= [v0,v1]∧Sl w (x.cells.map li) f0 v0∧Sl w (x.src.map GOrigin.toD) f1 v1:=by
 rw[GRow.aj,dK];simp only[dX,c_,d_,li,ls,bP,iq,dW];constructor
 ·rintro⟨_,_,_,_,rfl,rfl,h0,⟨_,_,_,_,rfl,rfl,h1,⟨rfl,rfl⟩⟩⟩;exact⟨_,_,_,_,by simp,rfl,h0,h1⟩
 ·rintro⟨v0,v1,f0,f1,rfl,rfl,h0,h1⟩;exact⟨_,_,_,_,rfl,rfl,h0,⟨_,_,_,_,(m_ _).symm,rfl,h1,⟨rfl,rfl⟩⟩⟩
inductive GVal where
 |mk (kind:Int) (n:Int) (step:Int) (text:ByteArray) (list:List GVal) (cols:List ByteArray) (rows:List GRow)
def GVal.kind :GVal→Int| .mk kind _ _ _ _ _ _=>kind
def GVal.n :GVal→Int| .mk _ n _ _ _ _ _=>n
def GVal.step :GVal→Int| .mk _ _ step _ _ _ _=>step
def GVal.text :GVal→ByteArray| .mk _ _ _ text _ _ _=>text
def GVal.list :GVal→List GVal| .mk _ _ _ _ list _ _=>list
def GVal.cols :GVal→List ByteArray| .mk _ _ _ _ _ cols _=>cols
def GVal.rows :GVal→List GRow| .mk _ _ _ _ _ _ rows=>rows
mutual
def GVal.toD :GVal→D
 | .mk kind n step text list cols rows=> .agg [li kind,li n,li step,ls text,.sl (GVal.DW list),.sl (cols.map ls),.sl (rows.map GRow.toD)]
def GVal.DW :List GVal→List D
 | []=> []
 |x::l=>x.toD::GVal.DW l
end
theorem GVal.DV(l:List GVal):GVal.DW l=l.map GVal.toD:=by
 induction l with
 |nil=>rfl
 |cons x l ih=>rw[GVal.DW,ih];rfl
theorem GVal.lt_of_mem{x y:GVal}(h:y∈x.list):E_ y<E_ x:=by
 cases x with
 | mk kind n step text list cols rows=>
   have:=X_ h;simp only[GVal.list]at this;simp only[GVal.mk.sizeOf_spec];omega
theorem GVal.aj(x:GVal):x.toD= .agg [li x.kind,li x.n,li x.step,ls x.text,.sl (x.list.map GVal.toD),.sl (x.cols.map ls),.sl (x.rows.map GRow.toD)]:=by
 cases x with
 |mk kind n step text list cols rows=>rw[GVal.toD,GVal.DV];rfl
theorem GVal.sz_eq(x:GVal):x.toD.sz=7:=by simp[GVal.aj,D.sz,D.szs,li,ls]
theorem GVal.szs{l:List GVal}:∀d∈l.map GVal.toD,d.sz=7:=fun d h=>by obtain⟨x,_,rfl⟩:=b_.1 h;exact x.sz_eq
theorem GVal.opened{w:World}{fp:List Nat}{cs:List Value}{x:GVal}:R w x.toD fp cs↔∃v0 v1 v2 f0 f1 f2,fp=f0++(f1++f2)∧cs= [.int .i64 x.kind,.int .i64 x.n,.int .i64 x.step,.string x.text,v0,v1,v2]∧Sl w (x.list.map GVal.toD) f0 v0∧Sl w (x.cols.map ls) f1 v1∧Sl w (x.rows.map GRow.toD) f2 v2:=by
 rw[GVal.aj,dK];simp only[dX,c_,d_,li,ls,bP,iq,dW];constructor
 ·rintro⟨_,rfl,⟨_,rfl,⟨_,rfl,⟨_,rfl,⟨_,_,_,_,rfl,rfl,h0,⟨_,_,_,_,rfl,rfl,h1,⟨_,_,_,_,rfl,rfl,h2,⟨rfl,rfl⟩⟩⟩⟩⟩⟩⟩⟩;exact⟨_,_,_,_,_,_,by simp,rfl,h0,h1,h2⟩
 ·rintro⟨v0,v1,v2,f0,f1,f2,rfl,rfl,h0,h1,h2⟩;exact⟨_,rfl,⟨_,rfl,⟨_,rfl,⟨_,rfl,⟨_,_,_,_,rfl,rfl,h0,⟨_,_,_,_,rfl,rfl,h1,⟨_,_,_,_,(m_ _).symm,rfl,h2,⟨rfl,rfl⟩⟩⟩⟩⟩⟩⟩⟩
structure GTok where
 kind:Int
 n:Int
 pos:Int
 text:ByteArray
def GTok.toD(x:GTok):D:= .agg [li x.kind,li x.n,li x.pos,ls x.text]
theorem GTok.aj(x:GTok):x.toD= .agg [li x.kind,li x.n,li x.pos,ls x.text]:=rfl
theorem GTok.sz_eq(x:GTok):x.toD.sz=4:=by simp[GTok.aj,D.sz,D.szs,li,ls]
theorem GTok.szs{l:List GTok}:∀d∈l.map GTok.toD,d.sz=4:=fun d h=>by obtain⟨x,_,rfl⟩:=b_.1 h;exact x.sz_eq
theorem GTok.opened{w:World}{fp:List Nat}{cs:List Value}{x:GTok}:R w x.toD fp cs↔fp= []∧cs= [.int .i64 x.kind,.int .i64 x.n,.int .i64 x.pos,.string x.text]:=by
 rw[GTok.aj,dK];simp only[dX,c_,d_,li,ls,bP,iq,dW];constructor
 ·rintro⟨_,rfl,⟨_,rfl,⟨_,rfl,⟨_,rfl,⟨rfl,rfl⟩⟩⟩⟩⟩;exact⟨rfl,rfl⟩
 ·rintro⟨rfl,rfl⟩;exact⟨_,rfl,⟨_,rfl,⟨_,rfl,⟨_,rfl,⟨rfl,rfl⟩⟩⟩⟩⟩
inductive GExpr where
 |mk (kind:Int) (n:Int) (text:ByteArray) (args:List GExpr)
def GExpr.kind :GExpr→Int| .mk kind _ _ _=>kind
def GExpr.n :GExpr→Int| .mk _ n _ _=>n
def GExpr.text :GExpr→ByteArray| .mk _ _ text _=>text
def GExpr.args :GExpr→List GExpr| .mk _ _ _ args=>args
mutual
def GExpr.toD :GExpr→D
 | .mk kind n text args=> .agg [li kind,li n,ls text,.sl (GExpr.DW args)]
def GExpr.DW :List GExpr→List D
 | []=> []
 |x::l=>x.toD::GExpr.DW l
end
theorem GExpr.DV(l:List GExpr):GExpr.DW l=l.map GExpr.toD:=by
 induction l with
 |nil=>rfl
 |cons x l ih=>rw[GExpr.DW,ih];rfl
theorem GExpr.lt_of_mem{x y:GExpr}(h:y∈x.args):E_ y<E_ x:=by
 cases x with
 | mk kind n text args=>
   have:=X_ h;simp only[GExpr.args]at this;simp only[GExpr.mk.sizeOf_spec];omega
theorem GExpr.aj(x:GExpr):x.toD= .agg [li x.kind,li x.n,ls x.text,.sl (x.args.map GExpr.toD)]:=by
 cases x with
 |mk kind n text args=>rw[GExpr.toD,GExpr.DV];rfl
theorem GExpr.sz_eq(x:GExpr):x.toD.sz=4:=by simp[GExpr.aj,D.sz,D.szs,li,ls]
theorem GExpr.szs{l:List GExpr}:∀d∈l.map GExpr.toD,d.sz=4:=fun d h=>by obtain⟨x,_,rfl⟩:=b_.1 h;exact x.sz_eq
theorem GExpr.opened{w:World}{fp:List Nat}{cs:List Value}{x:GExpr}:R w x.toD fp cs↔∃v0 f0,fp=f0∧cs= [.int .i64 x.kind,.int .i64 x.n,.string x.text,v0]∧Sl w (x.args.map GExpr.toD) f0 v0:=by
 rw[GExpr.aj,dK];simp only[dX,c_,d_,li,ls,bP,iq,dW];constructor
 ·rintro⟨_,rfl,⟨_,rfl,⟨_,rfl,⟨_,_,_,_,rfl,rfl,h0,⟨rfl,rfl⟩⟩⟩⟩⟩;exact⟨_,_,by simp,rfl,h0⟩
 ·rintro⟨v0,f0,rfl,rfl,h0⟩;exact⟨_,rfl,⟨_,rfl,⟨_,rfl,⟨_,_,_,_,(m_ _).symm,rfl,h0,⟨rfl,rfl⟩⟩⟩⟩⟩
structure GCell where
 id:Int
 ver:Int
 kind:Int
 name:ByteArray
 code:ByteArray
 n:Int
def GCell.toD(x:GCell):D:= .agg [li x.id,li x.ver,li x.kind,ls x.name,ls x.code,li x.n]
theorem GCell.aj(x:GCell):x.toD= .agg [li x.id,li x.ver,li x.kind,ls x.name,ls x.code,li x.n]:=rfl
theorem GCell.sz_eq(x:GCell):x.toD.sz=6:=by simp[GCell.aj,D.sz,D.szs,li,ls]
theorem GCell.szs{l:List GCell}:∀d∈l.map GCell.toD,d.sz=6:=fun d h=>by obtain⟨x,_,rfl⟩:=b_.1 h;exact x.sz_eq
theorem GCell.opened{w:World}{fp:List Nat}{cs:List Value}{x:GCell}:R w x.toD fp cs↔fp= []∧cs= [.int .i64 x.id,.int .i64 x.ver,.int .i64 x.kind,.string x.name,.string x.code,.int .i64 x.n]:=by
 rw[GCell.aj,dK];simp only[dX,c_,d_,li,ls,bP,iq,dW];constructor
 ·rintro⟨_,rfl,⟨_,rfl,⟨_,rfl,⟨_,rfl,⟨_,rfl,⟨_,rfl,⟨rfl,rfl⟩⟩⟩⟩⟩⟩⟩;exact⟨rfl,rfl⟩
 ·rintro⟨rfl,rfl⟩;exact⟨_,rfl,⟨_,rfl,⟨_,rfl,⟨_,rfl,⟨_,rfl,⟨_,rfl,⟨rfl,rfl⟩⟩⟩⟩⟩⟩⟩
structure GNb where
 cells:List GCell
def GNb.toD(x:GNb):D:= .agg [.sl (x.cells.map GCell.toD)]
theorem GNb.aj(x:GNb):x.toD= .agg [.sl (x.cells.map GCell.toD)]:=rfl
theorem GNb.sz_eq(x:GNb):x.toD.sz=1:=by simp[GNb.aj,D.sz,D.szs,li,ls]
theorem GNb.szs{l:List GNb}:∀d∈l.map GNb.toD,d.sz=1:=fun d h=>by obtain⟨x,_,rfl⟩:=b_.1 h;exact x.sz_eq
theorem GNb.opened{w:World}{fp:List Nat}{cs:List Value}{x:GNb}:R w x.toD fp cs↔∃v0 f0,fp=f0∧cs= [v0]∧Sl w (x.cells.map GCell.toD) f0 v0:=by
 rw[GNb.aj,dK];simp only[dX,c_,d_,li,ls,bP,iq,dW];constructor
 ·rintro⟨_,_,_,_,rfl,rfl,h0,⟨rfl,rfl⟩⟩;exact⟨_,_,by simp,rfl,h0⟩
 ·rintro⟨v0,f0,rfl,rfl,h0⟩;exact⟨_,_,_,_,(m_ _).symm,rfl,h0,⟨rfl,rfl⟩⟩
structure GPart where
 kind:Int
 name:ByteArray
 expr:GExpr
 value:GVal
 pos:Int
def GPart.toD(x:GPart):D:= .agg [li x.kind,ls x.name,GExpr.toD x.expr,GVal.toD x.value,li x.pos]
theorem GPart.aj(x:GPart):x.toD= .agg [li x.kind,ls x.name,GExpr.toD x.expr,GVal.toD x.value,li x.pos]:=rfl
theorem GPart.sz_eq(x:GPart):x.toD.sz=14:=by simp[GPart.aj,GExpr.aj,GVal.aj,D.sz,D.szs,li,ls]
theorem GPart.szs{l:List GPart}:∀d∈l.map GPart.toD,d.sz=14:=fun d h=>by obtain⟨x,_,rfl⟩:=b_.1 h;exact x.sz_eq
theorem GPart.opened{w:World}{fp:List Nat}{cs:List Value}{x:GPart}:R w x.toD fp cs↔∃v0 v1 v2 v3 f0 f1 f2 f3,fp=f0++(f1++(f2++f3))∧cs= [.int .i64 x.kind,.string x.name,.int .i64 x.expr.kind,.int .i64 x.expr.n,.string x.expr.text,v0,.int .i64 x.value.kind,.int .i64 x.value.n,.int .i64 x.value.step,.string x.value.text,v1,v2,v3,.int .i64 x.pos]∧Sl w (x.expr.args.map GExpr.toD) f0 v0∧Sl w (x.value.list.map GVal.toD) f1 v1∧Sl w (x.value.cols.map ls) f2 v2∧Sl w (x.value.rows.map GRow.toD) f3 v3:=by
 rw[GPart.aj,dK];simp only[GExpr.aj,GVal.aj,dX,c_,d_,li,ls,bP,iq,dW];constructor
 ·rintro⟨_,rfl,⟨_,rfl,⟨_,rfl,⟨_,rfl,⟨_,rfl,⟨_,_,_,_,rfl,rfl,h0,⟨_,rfl,⟨_,rfl,⟨_,rfl,⟨_,rfl,⟨_,_,_,_,rfl,rfl,h1,⟨_,_,_,_,rfl,rfl,h2,⟨_,_,_,_,rfl,rfl,h3,⟨_,rfl,⟨rfl,rfl⟩⟩⟩⟩⟩⟩⟩⟩⟩⟩⟩⟩⟩⟩⟩;exact⟨_,_,_,_,_,_,_,_,by simp,rfl,h0,h1,h2,h3⟩
 ·rintro⟨v0,v1,v2,v3,f0,f1,f2,f3,rfl,rfl,h0,h1,h2,h3⟩;exact⟨_,rfl,⟨_,rfl,⟨_,rfl,⟨_,rfl,⟨_,rfl,⟨_,_,_,_,rfl,rfl,h0,⟨_,rfl,⟨_,rfl,⟨_,rfl,⟨_,rfl,⟨_,_,_,_,rfl,rfl,h1,⟨_,_,_,_,rfl,rfl,h2,⟨_,_,_,_,(m_ _).symm,rfl,h3,⟨_,rfl,⟨rfl,rfl⟩⟩⟩⟩⟩⟩⟩⟩⟩⟩⟩⟩⟩⟩⟩
structure GEdit where
 kind:Int
 pos:Int
 cell:GCell
def GEdit.toD(x:GEdit):D:= .agg [li x.kind,li x.pos,GCell.toD x.cell]
theorem GEdit.aj(x:GEdit):x.toD= .agg [li x.kind,li x.pos,GCell.toD x.cell]:=rfl
theorem GEdit.sz_eq(x:GEdit):x.toD.sz=8:=by simp[GEdit.aj,GCell.aj,D.sz,D.szs,li,ls]
theorem GEdit.szs{l:List GEdit}:∀d∈l.map GEdit.toD,d.sz=8:=fun d h=>by obtain⟨x,_,rfl⟩:=b_.1 h;exact x.sz_eq
theorem GEdit.opened{w:World}{fp:List Nat}{cs:List Value}{x:GEdit}:R w x.toD fp cs↔fp= []∧cs= [.int .i64 x.kind,.int .i64 x.pos,.int .i64 x.cell.id,.int .i64 x.cell.ver,.int .i64 x.cell.kind,.string x.cell.name,.string x.cell.code,.int .i64 x.cell.n]:=by
 rw[GEdit.aj,dK];simp only[GCell.aj,dX,c_,d_,li,ls,bP,iq,dW];constructor
 ·rintro⟨_,rfl,⟨_,rfl,⟨_,rfl,⟨_,rfl,⟨_,rfl,⟨_,rfl,⟨_,rfl,⟨_,rfl,⟨rfl,rfl⟩⟩⟩⟩⟩⟩⟩⟩⟩;exact⟨rfl,rfl⟩
 ·rintro⟨rfl,rfl⟩;exact⟨_,rfl,⟨_,rfl,⟨_,rfl,⟨_,rfl,⟨_,rfl,⟨_,rfl,⟨_,rfl,⟨_,rfl,⟨rfl,rfl⟩⟩⟩⟩⟩⟩⟩⟩⟩
structure GRead where
 kind:Int
 n:Int
 time:Int
 text:ByteArray
 result:GVal
def GRead.toD(x:GRead):D:= .agg [li x.kind,li x.n,li x.time,ls x.text,GVal.toD x.result]
theorem GRead.aj(x:GRead):x.toD= .agg [li x.kind,li x.n,li x.time,ls x.text,GVal.toD x.result]:=rfl
theorem GRead.sz_eq(x:GRead):x.toD.sz=11:=by simp[GRead.aj,GVal.aj,D.sz,D.szs,li,ls]
theorem GRead.szs{l:List GRead}:∀d∈l.map GRead.toD,d.sz=11:=fun d h=>by obtain⟨x,_,rfl⟩:=b_.1 h;exact x.sz_eq
theorem GRead.opened{w:World}{fp:List Nat}{cs:List Value}{x:GRead}:R w x.toD fp cs↔∃v0 v1 v2 f0 f1 f2,fp=f0++(f1++f2)∧cs= [.int .i64 x.kind,.int .i64 x.n,.int .i64 x.time,.string x.text,.int .i64 x.result.kind,.int .i64 x.result.n,.int .i64 x.result.step,.string x.result.text,v0,v1,v2]∧Sl w (x.result.list.map GVal.toD) f0 v0∧Sl w (x.result.cols.map ls) f1 v1∧Sl w (x.result.rows.map GRow.toD) f2 v2:=by
 rw[GRead.aj,dK];simp only[GVal.aj,dX,c_,d_,li,ls,bP,iq,dW];constructor
 ·rintro⟨_,rfl,⟨_,rfl,⟨_,rfl,⟨_,rfl,⟨_,rfl,⟨_,rfl,⟨_,rfl,⟨_,rfl,⟨_,_,_,_,rfl,rfl,h0,⟨_,_,_,_,rfl,rfl,h1,⟨_,_,_,_,rfl,rfl,h2,⟨rfl,rfl⟩⟩⟩⟩⟩⟩⟩⟩⟩⟩⟩⟩;exact⟨_,_,_,_,_,_,by simp,rfl,h0,h1,h2⟩
 ·rintro⟨v0,v1,v2,f0,f1,f2,rfl,rfl,h0,h1,h2⟩;exact⟨_,rfl,⟨_,rfl,⟨_,rfl,⟨_,rfl,⟨_,rfl,⟨_,rfl,⟨_,rfl,⟨_,rfl,⟨_,_,_,_,rfl,rfl,h0,⟨_,_,_,_,rfl,rfl,h1,⟨_,_,_,_,(m_ _).symm,rfl,h2,⟨rfl,rfl⟩⟩⟩⟩⟩⟩⟩⟩⟩⟩⟩⟩
structure GTape where
 cell:Int
 ver:Int
 reads:List GRead
def GTape.toD(x:GTape):D:= .agg [li x.cell,li x.ver,.sl (x.reads.map GRead.toD)]
theorem GTape.aj(x:GTape):x.toD= .agg [li x.cell,li x.ver,.sl (x.reads.map GRead.toD)]:=rfl
theorem GTape.sz_eq(x:GTape):x.toD.sz=3:=by simp[GTape.aj,D.sz,D.szs,li,ls]
theorem GTape.szs{l:List GTape}:∀d∈l.map GTape.toD,d.sz=3:=fun d h=>by obtain⟨x,_,rfl⟩:=b_.1 h;exact x.sz_eq
theorem GTape.opened{w:World}{fp:List Nat}{cs:List Value}{x:GTape}:R w x.toD fp cs↔∃v0 f0,fp=f0∧cs= [.int .i64 x.cell,.int .i64 x.ver,v0]∧Sl w (x.reads.map GRead.toD) f0 v0:=by
 rw[GTape.aj,dK];simp only[dX,c_,d_,li,ls,bP,iq,dW];constructor
 ·rintro⟨_,rfl,⟨_,rfl,⟨_,_,_,_,rfl,rfl,h0,⟨rfl,rfl⟩⟩⟩⟩;exact⟨_,_,by simp,rfl,h0⟩
 ·rintro⟨v0,f0,rfl,rfl,h0⟩;exact⟨_,rfl,⟨_,rfl,⟨_,_,_,_,(m_ _).symm,rfl,h0,⟨rfl,rfl⟩⟩⟩⟩
structure GBind where
 name:ByteArray
 value:GVal
def GBind.toD(x:GBind):D:= .agg [ls x.name,GVal.toD x.value]
theorem GBind.aj(x:GBind):x.toD= .agg [ls x.name,GVal.toD x.value]:=rfl
theorem GBind.sz_eq(x:GBind):x.toD.sz=8:=by simp[GBind.aj,GVal.aj,D.sz,D.szs,li,ls]
theorem GBind.szs{l:List GBind}:∀d∈l.map GBind.toD,d.sz=8:=fun d h=>by obtain⟨x,_,rfl⟩:=b_.1 h;exact x.sz_eq
theorem GBind.opened{w:World}{fp:List Nat}{cs:List Value}{x:GBind}:R w x.toD fp cs↔∃v0 v1 v2 f0 f1 f2,fp=f0++(f1++f2)∧cs= [.string x.name,.int .i64 x.value.kind,.int .i64 x.value.n,.int .i64 x.value.step,.string x.value.text,v0,v1,v2]∧Sl w (x.value.list.map GVal.toD) f0 v0∧Sl w (x.value.cols.map ls) f1 v1∧Sl w (x.value.rows.map GRow.toD) f2 v2:=by
 rw[GBind.aj,dK];simp only[GVal.aj,dX,c_,d_,li,ls,bP,iq,dW];constructor
 ·rintro⟨_,rfl,⟨_,rfl,⟨_,rfl,⟨_,rfl,⟨_,rfl,⟨_,_,_,_,rfl,rfl,h0,⟨_,_,_,_,rfl,rfl,h1,⟨_,_,_,_,rfl,rfl,h2,⟨rfl,rfl⟩⟩⟩⟩⟩⟩⟩⟩⟩;exact⟨_,_,_,_,_,_,by simp,rfl,h0,h1,h2⟩
 ·rintro⟨v0,v1,v2,f0,f1,f2,rfl,rfl,h0,h1,h2⟩;exact⟨_,rfl,⟨_,rfl,⟨_,rfl,⟨_,rfl,⟨_,rfl,⟨_,_,_,_,rfl,rfl,h0,⟨_,_,_,_,rfl,rfl,h1,⟨_,_,_,_,(m_ _).symm,rfl,h2,⟨rfl,rfl⟩⟩⟩⟩⟩⟩⟩⟩⟩
theorem GOrigin.gZ(x:GOrigin):x.toD.wt=0:=by
 simp[GOrigin.aj,D.wt,D.wts,li,ls,lF]<;>omega
theorem GRow.gZ(x:GRow):x.toD.wt=0+((x.cells.map li).length+D.wts (x.cells.map li))+((x.src.map GOrigin.toD).length+D.wts (x.src.map GOrigin.toD)):=by
 simp[GRow.aj,D.wt,D.wts,li,ls,lF]<;>omega
theorem GVal.gZ(x:GVal):x.toD.wt=0+x.text.size+((x.list.map GVal.toD).length+D.wts (x.list.map GVal.toD))+((x.cols.map ls).length+D.wts (x.cols.map ls))+((x.rows.map GRow.toD).length+D.wts (x.rows.map GRow.toD)):=by
 simp[GVal.aj,D.wt,D.wts,li,ls,lF]<;>omega
theorem GTok.gZ(x:GTok):x.toD.wt=0+x.text.size:=by
 simp[GTok.aj,D.wt,D.wts,li,ls,lF]<;>omega
theorem GExpr.gZ(x:GExpr):x.toD.wt=0+x.text.size+((x.args.map GExpr.toD).length+D.wts (x.args.map GExpr.toD)):=by
 simp[GExpr.aj,D.wt,D.wts,li,ls,lF]<;>omega
theorem GCell.gZ(x:GCell):x.toD.wt=0+x.name.size+x.code.size:=by
 simp[GCell.aj,D.wt,D.wts,li,ls,lF]<;>omega
theorem GNb.gZ(x:GNb):x.toD.wt=0+((x.cells.map GCell.toD).length+D.wts (x.cells.map GCell.toD)):=by
 simp[GNb.aj,D.wt,D.wts,li,ls,lF]<;>omega
theorem GPart.gZ(x:GPart):x.toD.wt=0+x.name.size+x.expr.toD.wt+x.value.toD.wt:=by
 simp[GPart.aj,D.wt,D.wts,li,ls,lF]<;>omega
theorem GEdit.gZ(x:GEdit):x.toD.wt=0+x.cell.toD.wt:=by
 simp[GEdit.aj,D.wt,D.wts,li,ls,lF]<;>omega
theorem GRead.gZ(x:GRead):x.toD.wt=0+x.text.size+x.result.toD.wt:=by
 simp[GRead.aj,D.wt,D.wts,li,ls,lF]<;>omega
theorem GTape.gZ(x:GTape):x.toD.wt=0+((x.reads.map GRead.toD).length+D.wts (x.reads.map GRead.toD)):=by
 simp[GTape.aj,D.wt,D.wts,li,ls,lF]<;>omega
theorem GBind.gZ(x:GBind):x.toD.wt=0+x.name.size+x.value.toD.wt:=by
 simp[GBind.aj,D.wt,D.wts,li,ls,lF]<;>omega
mutual
def D.one :D→Prop
 | .leaf v=>v.oneCell'=true
 | .sl _=>True
 | .agg l=>D.ones l
def D.ones :List D→Prop
 | []=>True
 |d::l=>d.one∧D.ones l
end
mutual
theorem R.one{w:World}:∀{d:D} {fp:List Nat} {cs:List Value},R w d fp cs→d.one→∀u∈cs,u.oneCell'=true
 | .leaf v,_,_,h,ho,u,hu=>by rw[h.2]at hu;simp at hu;subst hu;exact ho
 | .sl _,_,_,h,_,u,hu=>by
   rw[R]at h;obtain⟨A,cap,rfl,_⟩:=h;simp at hu;subst hu;rfl
 | .agg l,fp,cs,h,ho,u,hu=>by
   rw[R]at h;exact Rs.one_ h ho u hu
theorem Rs.one_{w:World}:∀{l:List D} {fp:List Nat} {cs:List Value},Rs w l fp cs→D.ones l→∀u∈cs,u.oneCell'=true
 | [],_,_,h,_,u,hu=>by rw[h.2]at hu;simp at hu
 | d::l,_,_,h,ho,u,hu=>by
   obtain⟨f1,f2,c1,c2,rfl,rfl,h1,h2⟩:=h;rcases i_.1 hu with hu|hu
   ·exact h1.one ho.1 u hu
   ·exact Rs.one_ h2 ho.2 u hu
end
theorem D.ones_of :∀{l:List D},(∀d∈l,d.one)→D.ones l
 | [],_=>trivial
 |d::l,h=>⟨h d (by simp),D.ones_of fun x hx=>h x (by simp[hx])⟩
theorem uz{P:Program}{w:World}(base:Nat)(t ty e:TypeId)(i:TypeInfo)(size:Nat)(ht:P.underlying t=some (.slice e))(hi:P.info? e=some i)
 (v:Value) (n:Nat) (xs:List Value) (hown:w.ownsRow base e size v n xs) (c:Nat):(G_ #[t,t] ty #[v,.slice none 0 c]).run P w= .ok v w:=by
 rcases hown.2 with⟨rfl,rfl⟩|⟨g,cap,cur,rfl,_,_,hnc,_⟩
 ·simp[G_,run_underlying ht,sizeOf,typeInfo,hi,a_l,Z_]
 ·simp[G_,run_underlying ht,sizeOf,typeInfo,hi,a_l,Z_,hnc,storeCells]
theorem Sl.cells{w:World}{l:List D}{fp:List Nat}{A:Option Addr}{m c:Nat}(h:Sl w l fp (.slice A m c)):m=l.length∧∃fp' cs,Rs w l fp' cs∧(∀b∈fp',b∈fp)∧
 ((l= []∧cs= [])∨∃b o,A=some ⟨b,o,none⟩∧b<w.heap.size∧At w b o cs):=by
 unfold Sl at h;rw[R]at h;obtain⟨A',cap',h1,_,_,h3⟩:=h;simp only[x_,and_true,y_]at h1;obtain⟨rfl,rfl,rfl⟩:=h1;refine⟨rfl, ?_⟩;rcases h3 with⟨rfl,rfl⟩|⟨b,o,fp',cs',rfl,rfl,hb,hr,ha⟩
 ·exact⟨[],[],⟨rfl,rfl⟩,fun _ h=>h,I_ ⟨rfl,rfl⟩⟩
 ·exact⟨fp',cs',hr,fun x hx=>by simp[hx],w_ ⟨b,o,rfl,hb,ha⟩⟩
theorem Row.grown{w w':World}{g:Nat}{e:TypeId}{xs:List Value}{row:Option Nat}(h:Row w g e xs)(hg:w.grownBy w' row)(hne:some g≠row):Row w' g e xs:=(hg.block g h.lt hne).trans h
theorem Ep{w:World}{base:Nat}{e:TypeId}{s:Nat}{v:Value}{n:Nat}{xs:List Value}(h:w.ownsRow base e s v n xs):∃A c,v= .slice A n c:=by
 rcases h.2 with⟨rfl,rfl⟩|⟨g,cap,cur,rfl,_⟩
 ·exact⟨_,_,rfl⟩
 ·exact⟨_,_,rfl⟩
theorem BR{w w':World}{base:Nat}{e:TypeId}{s:Nat}{v:Value}{n:Nat}{xs:List Value}(h:w.ownsRow base e s v n xs)(hb:Below w.heap.size w w'):w'.ownsRow base e s v n xs:=by
 obtain⟨h1,h2⟩:=h;refine⟨h1, ?_⟩;rcases h2 with h2|⟨g,cap,cur,hv,hg,hh,r⟩
 ·exact I_ h2
 ·refine w_ ⟨g,cap,cur,hv,hg, ?_,r⟩;rw[hb.block]
  ·exact hh
  ·rcases J_ g w.heap.size with hlt|hge
   ·exact hlt
   ·rw[Array.getElem?_eq_none hge]at hh;cases hh
theorem Gh{w:World}{base:Nat}{e:TypeId}{s:Nat}{v:Value}{n:Nat}{xs:List Value}(h:w.ownsRow base e s v n xs){a:Addr}(ha:v.ownBlock≠some a.block)(u:Value):(w.setCell a u).ownsRow base e s v n xs:=by
 obtain⟨h1,h2⟩:=h;refine⟨h1, ?_⟩;rcases h2 with h2|⟨g,cap,cur,hv,hg,hh,r⟩
 ·exact I_ h2
 ·refine w_ ⟨g,cap,cur,hv,hg,by rw[l_ _ _ _ _ (fun e=>ha (by rw[hv,e];rfl))];exact hh,r⟩
theorem Eo{w:World}{base base':Nat}{e:TypeId}{s:Nat}{v:Value}{n:Nat}{xs:List Value}(h:w.ownsRow base e s v n xs)(hb:base'≤base):w.ownsRow base' e s v n xs:=by
 obtain⟨h1,h2⟩:=h;refine⟨h1, ?_⟩;rcases h2 with h2|⟨g,cap,cur,hv,hg,r⟩
 ·exact I_ h2
 ·exact w_ ⟨g,cap,cur,hv,s_ hb hg,r⟩
end
section
open List renaming getElem?_eq_getElem→a_,mem_map→b_,cons_append→c_,nil_append→d_,getElem?_append_right→e_,getElem?_append_left→h_,mem_append→i_,length_take→j_,take_append_drop→k_,append_nil→m_,take_succ_eq_append_getElem→n_,getElem?_eq_some_iff→o_,length_cons→r_,mem_cons→t_,drop_eq_getElem_cons→u_,nodup_append→z_,mem_of_mem_take→B_,length_append→H_,length_set→N_,nodup_cons→R_,drop_eq_nil_of_le→U_,singleton_append→W_,sizeOf_lt_of_mem→X_,append_assoc→a_c,length_map→a_g
open DataW renaming trod→f_,trod_struct→A_,trod_int→a_i,TrodAll→a_m,Trod→a_q
open Nat renaming lt_of_lt_of_le→g_,le_refl→p_,zero_add→q_,le_trans→s_,min_eq_left→F_,lt_or_ge→J_,add_zero→Q_,add_assoc→Y_,sub_self→a_b,strongRecOn→a_h,lt_irrefl→a_n,zero_mul→a_o
open Below renaming heap_setCell→l_,heap_alloc→C_,refl→O_
open Value renaming oneCell'→v_,ownBlock→K_,okWide→a_a
open Or renaming inr→w_,inl→I_
open List.cons renaming injEq→x_
open Value.slice renaming injEq→y_
open World renaming setCell→D_,cell?_of_block→M_,cell?_setCell_other→P_,frozen?_of_block→S_,cell? →T_,cells?_some→a_d,frozen? →a_k
open SizeOf renaming sizeOf→E_
open Builtin renaming append_→G_,firstCells→Z_,lenOf→a_l
open UInt8 renaming ofNat→L_
open Go.RowKit Go.WideShapes Go.ChangeShapes Go.ChangeAt
section
variable{H:Type}{enc:TypeId×Value→H}{P:Program}
theorem sH{f:Func}{s:ChangeSpec}{apart fresh handsOn again:Bool}{W W':World}{args:Array Value}{v:Value}{ds gs:List (DataW H)}{before pa pv:List MemPlace}
 (hW:DataW.Whole enc P f.params.toList s.vars apart W args.toList ds gs before)
 (hres:∀(b:Nat) (sp:Nat→Bool) (hd:Bool),a_m enc P W' b sp hd f.resultTypes.toList (v.resultList f.resultTypes.size) (s.fn H (ds++gs)).results [])
 (hargs:∀sp:Nat→Bool,(∀p∈before,sp p.block=true)→a_m enc P W' 0 sp true f.params.toList args.toList (s.fn H (ds++gs)).args pa)
 (hvars:∀sp:Nat→Bool,(∀p∈before,sp p.block=true)→DataW.TrodVars enc P W' sp s.vars (s.fn H (ds++gs)).vars pv)
 (hps:before=pa++pv) (hb:Below W.heap.size W W')
 (hok:∀(j:Nat) (t:TypeId) (r:Value),f.resultTypes[j]? =some t→(v.resultList f.resultTypes.size)[j]? =some r→a_a P W' .any 0 t r):
 s.post enc P f apart fresh handsOn again W args v W':=by
 have hlt:∀p∈before,p.block<W.heap.size:=fun p hp=>hW.lt p hp
 have hold:∀p∈before,(fun b=>decide (b<W.heap.size)) p.block=true:=fun p hp=>by simpa using hlt p hp
 refine⟨ds,gs,before,[],pa,pv,hW,hres _ _ _,hargs _ hold,hvars _ hold,World.keptBut_mono (fun p hp=>⟨hp, ?_⟩) (hb.frame (·∈before)),fun _=> ?_⟩
 ·rw[hps,i_]at hp;exact w_ hp
 ·obtain⟨_,_,_,_,_,hz,hn⟩:=hW;refine⟨hok,_,_,([]++pa)++pv,⟨[]++pa,pv,trodAll_append (hargs _ (fun _ _=>rfl)) (hres _ _ _),hvars _ (fun _ _=>rfl),rfl, ?_, ?_⟩, ?_⟩
  ·intro b off hp;have hin:MemPlace.cell b off∈before:=by rw[hps];simpa using hp
   rw[hb.frozen (hlt _ hin)];exact hz b off hin
  ·intro ha;have:=hn ha;rw[hps]at this;simpa using this
  ·intro p hp _;rw[hps];simpa using hp
end
theorem Us :ownKnob Try.prog.godebug=none:=by kernel_rfl
theorem lW :laidOutB Try.prog=true:=by kernel_rfl
end
section
open List renaming getElem?_eq_getElem→a_,mem_map→b_,cons_append→c_,nil_append→d_,getElem?_append_right→e_,getElem?_append_left→h_,mem_append→i_,length_take→j_,take_append_drop→k_,append_nil→m_,take_succ_eq_append_getElem→n_,getElem?_eq_some_iff→o_,length_cons→r_,mem_cons→t_,drop_eq_getElem_cons→u_,nodup_append→z_,mem_of_mem_take→B_,length_append→H_,length_set→N_,nodup_cons→R_,drop_eq_nil_of_le→U_,singleton_append→W_,sizeOf_lt_of_mem→X_,append_assoc→a_c,length_map→a_g
open DataW renaming trod→f_,trod_struct→A_,trod_int→a_i,TrodAll→a_m,Trod→a_q
open Nat renaming lt_of_lt_of_le→g_,le_refl→p_,zero_add→q_,le_trans→s_,min_eq_left→F_,lt_or_ge→J_,add_zero→Q_,add_assoc→Y_,sub_self→a_b,strongRecOn→a_h,lt_irrefl→a_n,zero_mul→a_o
open Below renaming heap_setCell→l_,heap_alloc→C_,refl→O_
open Value renaming oneCell'→v_,ownBlock→K_,okWide→a_a
open Or renaming inr→w_,inl→I_
open List.cons renaming injEq→x_
open Value.slice renaming injEq→y_
open World renaming setCell→D_,cell?_of_block→M_,cell?_setCell_other→P_,frozen?_of_block→S_,cell? →T_,cells?_some→a_d,frozen? →a_k
open SizeOf renaming sizeOf→E_
open Builtin renaming append_→G_,firstCells→Z_,lenOf→a_l
open UInt8 renaming ofNat→L_
def Cb(n:Nat):List UInt8:=if h:n=0 then []else Cb (n / 10)++ [L_ (48+n % 10)]
termination_by n
decreasing_by omega
theorem Dv :Cb 0= []:=by rw[Cb];simp
theorem H6{n:Nat}(h:n≠0):Cb n=Cb (n / 10)++ [L_ (48+n % 10)]:=by rw[Cb];simp[h]
def iY(k:Int):ByteArray:=if k≤0 then⟨#[109,48]⟩else⟨(109::Cb k.toNat).toArray⟩
mutual
def D.cnt :D→Nat
 | .leaf _=>1
 | .sl l=>D.cnts l
 | .agg l=>D.cnts l
def D.cnts :List D→Nat
 | []=>0
 |d::l=>d.cnt+D.cnts l
end
def nD(v:Value)(k:Int):Value:=match v with| .string _=> .string (iY k)|_=> .int .i64 k
mutual
def D.mk :D→Int→D
 | .leaf v,k=> .leaf (nD v k)
 | .sl l,k=> .sl (D.mks l k)
 | .agg l,k=> .agg (D.mks l k)
def D.mks :List D→Int→List D
 | [],_=> []
 |d::l,k=>d.mk k::D.mks l (k+d.cnt)
end
theorem D.pI(k:Int):D.mks [] k= []:=by rw[D.mks]
theorem D.lV(d:D)(l:List D)(k:Int):D.mks (d::l) k=d.mk k::D.mks l (k+d.cnt):=by rw[D.mks]
theorem D.fG :D.cnts []=0:=by rw[D.cnts]
theorem D.rX(d:D)(l:List D):D.cnts (d::l)=d.cnt+D.cnts l:=by rw[D.cnts]
theorem D.aY :∀(l:List D) (k:Int),(D.mks l k).length=l.length
 | [],_=>by rw[D.pI]
 |d::l,k=>by rw[D.lV,r_,r_,D.aY l]
theorem D.qV :∀(a b:List D),D.cnts (a++b)=D.cnts a+D.cnts b
 | [],b=>by rw[D.fG,d_,q_]
 |d::a,b=>by rw[c_,D.rX,D.rX,D.qV a b,Y_]
theorem D.pK :∀(a b:List D) (k:Int),D.mks (a++b) k=D.mks a k++D.mks b (k+D.cnts a)
 | [],b,k=>by rw[D.pI,D.fG,d_,d_];simp
 | d::a,b,k=>by
   rw[c_,D.lV,D.lV,D.pK a b,D.rX,c_];congr 3
   push_cast
   omega
mutual
theorem D.yj :∀(d:D) (k:Int),(d.mk k).sz=d.sz
 | .leaf _,_=>rfl
 | .sl _,_=>rfl
 | .agg l,k=>by rw[D.mk,D.sz,D.sz,D.KN l]
theorem D.KN :∀(l:List D) (k:Int),D.szs (D.mks l k)=D.szs l
 | [],_=>by rw[D.pI]
 |d::l,k=>by rw[D.lV,D.szs,D.szs,D.yj d,D.KN l]
end
mutual
theorem D.TS :∀(d:D) (k:Int),(d.mk k).cnt=d.cnt
 | .leaf _,_=>rfl
 | .sl l,k=>by rw[D.mk,D.cnt,D.cnt,D.Ae l]
 | .agg l,k=>by rw[D.mk,D.cnt,D.cnt,D.Ae l]
theorem D.Ae :∀(l:List D) (k:Int),D.cnts (D.mks l k)=D.cnts l
 | [],_=>by rw[D.pI]
 |d::l,k=>by rw[D.lV,D.cnts,D.cnts,D.TS d,D.Ae l]
end
theorem D.fP(l:List D){i:Nat}(h:i<l.length):D.cnts (l.take (i+1))=D.cnts (l.take i)+(l[i]).cnt:=by
 rw[n_ h,D.qV,D.rX,D.fG,Q_]
theorem D.dB(l:List D)(i:Nat):D.cnts (l.take i)≤D.cnts l:=by
 have:=D.qV (l.take i) (l.drop i);rw[k_]at this;omega
def part(l:List D)(k:Int)(i:Nat):List D:=D.mks (l.take i) k++l.drop i
theorem kM(l:List D)(k:Int):part l k 0=l:=by simp[part,D.pI]
theorem gU(l:List D)(k:Int){i:Nat}(h:l.length≤i):part l k i=D.mks l k:=by
 unfold part;rw[List.take_of_length_le h,U_ h,m_]
theorem lT(l:List D)(k:Int){i:Nat}(h:i<l.length):(part l k i)[i]? =some l[i]:=by
 unfold part;rw[e_ (by rw[D.aY,j_];omega),D.aY,j_,F_ (by omega),a_b,List.getElem?_drop,Q_,a_ h]
theorem jL(l:List D)(k:Int){i:Nat}(h:i<l.length):(part l k i).set i ((l[i]).mk (k+D.cnts (l.take i)))=part l k (i+1):=by
 unfold part;have hl:(D.mks (l.take i) k).length=i:=by rw[D.aY,j_];omega
 rw[n_ h,D.pK,List.set_append_right _ _ (by omega),hl,a_b,u_ h,List.set_cons_zero,D.lV,D.pI,a_c];rfl
theorem ji{l:List D}{s:Nat}(hs:∀d∈l,d.sz=s)(k:Int)(i:Nat):∀d∈part l k i,d.sz=s:=by
 intro d hd;unfold part at hd;rcases i_.1 hd with h|h
 ·have aux:∀(l:List D) (k:Int),(∀d∈l,d.sz=s)→∀d∈D.mks l k,d.sz=s:=by
   intro l
   induction l with
   |nil=>intro k _ d hd;rw[D.pI]at hd;simp at hd
   | cons x l ih=>
     intro k hx d hd;rw[D.lV]at hd;rcases t_.1 hd with rfl|hd
     ·rw[D.yj];exact hx x (by simp)
     ·exact ih _ (fun y hy=>hx y (by simp[hy])) d hd
  exact aux _ _ (fun y hy=>hs y (B_ hy)) d h
 ·exact hs d (List.mem_of_mem_drop h)
theorem pJ(l:List D)(k:Int){i:Nat}(h:i<l.length):(D.mks l k)[i]? =some ((l[i]).mk (k+D.cnts (l.take i))):=by
 have e:D.mks l k=part l k l.length:=(gU l k (p_ _)).symm;have hp:=jL l k h;have:D.mks l k=D.mks (l.take (i+1)) k++D.mks (l.drop (i+1)) (k+D.cnts (l.take (i+1))):=by rw[← D.pK,k_]
 rw[this,h_ (by rw[D.aY,j_];omega),n_ h,D.pK,e_ (by rw[D.aY,j_];omega),D.aY,j_,F_ (by omega),a_b,D.lV];rfl
mutual
def D.l9 :D→Nat
 | .leaf _=>0
 | .sl l=>D.cnts l
 | .agg l=>D.l7 l
def D.l7 :List D→Nat
 | []=>0
 |d::l=>d.l9+D.l7 l
end
mutual
def D.amk :D→Int→D
 | .leaf v,_=> .leaf v
 | .sl l,k=> .sl (D.mks l k)
 | .agg l,k=> .agg (D.Ip l k)
def D.Ip :List D→Int→List D
 | [],_=> []
 |d::l,k=>d.amk k::D.Ip l (k+d.l9)
end
structure Touch (fp:List Nat) (w w':World):Prop where
 os:w'.os=w.os
 tape:w'.tape=w.tape
 output:w'.output=w.output
 size:w.heap.size≤w'.heap.size
 block:∀k,k<w.heap.size→k∉fp→w'.heap[k]? =w.heap[k]?
 froz:∀b o,b<w.heap.size→w'.frozen? ⟨b,o,none⟩=w.frozen? ⟨b,o,none⟩
theorem Touch.refl(fp:List Nat)(w:World):Touch fp w w:=⟨rfl,rfl,rfl,p_ _,fun _ _ _=>rfl,fun _ _ _=>rfl⟩
theorem Touch.trans{fp:List Nat}{a b c:World}(h:Touch fp a b)(k:Touch fp b c):Touch fp a c:=
 ⟨k.os.trans h.os,k.tape.trans h.tape,k.output.trans h.output,s_ h.size k.size,fun i hi hn=>(k.block i (g_ hi h.size) hn).trans (h.block i hi hn),fun b o hb=>(k.froz b o (g_ hb h.size)).trans (h.froz b o hb)⟩
theorem Touch.mono{fp fp':List Nat}{a b:World}(h:Touch fp a b)(hf:∀x∈fp,x∈fp'):Touch fp' a b:=
 ⟨h.os,h.tape,h.output,h.size,fun i hi hn=>h.block i hi fun hm=>hn (hf i hm),h.froz⟩
theorem Touch.of_below{fp:List Nat}{a b:World}(h:Below a.heap.size a b):Touch fp a b:=
 ⟨h.os,h.tape,h.output,h.size,fun i hi _=>h.block i hi,fun x o hx=>h.frozen (p:=⟨x,o,none⟩) hx⟩
theorem Touch.below{fp:List Nat}{a b c:World}(h:Touch fp a b)(k:Below b.heap.size b c):Touch fp a c:=h.trans (Touch.of_below k)
theorem Touch.toBelow{fp:List Nat}{B:Nat}{a b c:World}(h:Below B a b)(k:Touch fp b c)(hf:∀x∈fp,B≤x)(hs:B≤b.heap.size):Below B a c:=
 h.trans ⟨k.os,k.tape,k.output,k.size,fun i hi=>k.block i (by omega) (fun hm=>by have:=hf i hm;omega)⟩
theorem Touch.kept{fp:List Nat}{lo hi:Nat}{a b:World}(h:Touch fp a b)(hf:∀x∈fp,lo≤x∧x<hi):Kept lo hi a b:=
 ⟨h.os,h.tape,h.output,h.size,fun i hi' ho=>h.block i hi' (fun hm=>by have:=hf i hm;omega)⟩
theorem aX.touch{fp:List Nat}{a b:World}{base:Nat}{g:List Nat}(hF:aX a base g)(hl:∀x∈g,x<a.heap.size)(h:Touch fp a b):aX b base g:=
 ⟨hF.1,fun x hx=>⟨(hF.2 x hx).1,fun o=>by rw[h.froz x o (hl x hx)];exact(hF.2 x hx).2 o⟩⟩
theorem R.touch{fp:List Nat}{a b:World}{d:D}{g:List Nat}{cs:List Value}(hR:R a d g cs)(h:Touch fp a b)(hd:∀x∈g,x∉fp):R b d g cs:=
 hR.same (fun x hx=>h.block x (hR.lt x hx) (hd x hx)) h.size
theorem Sl.touch{fp:List Nat}{a b:World}{l:List D}{g:List Nat}{v:Value}(hR:Sl a l g v)(h:Touch fp a b)(hd:∀x∈g,x∉fp):Sl b l g v:=R.touch hR h hd
theorem Row.touch{fp:List Nat}{a b:World}{g:Nat}{e:TypeId}{xs:List Value}(hR:Row a g e xs)(h:Touch fp a b)(hd:g∉fp):Row b g e xs:=(h.block g hR.lt hd).trans hR
structure Inr (b lo hi:Nat) (fi:List Nat) (w w':World):Prop where
 os:w'.os=w.os
 tape:w'.tape=w.tape
 output:w'.output=w.output
 size:w.heap.size≤w'.heap.size
 block:∀x,x<w.heap.size→x≠b→x∉fi→w'.heap[x]? =w.heap[x]?
 cell:∀off,(off<lo∨hi≤off)→w'.cell? ⟨b,off,none⟩=w.cell? ⟨b,off,none⟩
 froz:∀x o,x<w.heap.size→w'.frozen? ⟨x,o,none⟩=w.frozen? ⟨x,o,none⟩
section
variable{b lo hi:Nat}{fi:List Nat}{w a c:World}
theorem Inr.refl(b lo hi:Nat)(fi:List Nat)(w:World):Inr b lo hi fi w w:=⟨rfl,rfl,rfl,p_ _,fun _ _ _ _=>rfl,fun _ _=>rfl,fun _ _ _=>rfl⟩
theorem Inr.below(h:Inr b lo hi fi w a)(hb:b<w.heap.size)(k:Below a.heap.size a c):Inr b lo hi fi w c:=
 ⟨k.os.trans h.os,k.tape.trans h.tape,k.output.trans h.output,s_ h.size k.size,fun x hx h1 h2=>(k.block x (g_ hx h.size)).trans (h.block x hx h1 h2),fun off ho=>(k.cell (p:=⟨b,off,none⟩) (g_ hb h.size)).trans (h.cell off ho),fun x o hx=>(k.frozen (p:=⟨x,o,none⟩) (g_ hx h.size)).trans (h.froz x o hx)⟩
theorem Inr.touch{F:List Nat}(h:Inr b lo hi fi w a)(hb:b<w.heap.size)(k:Touch F a c)(hF:∀x∈F,x∈fi)(hn:b∉F):Inr b lo hi fi w c:=
 ⟨k.os.trans h.os,k.tape.trans h.tape,k.output.trans h.output,s_ h.size k.size,fun x hx h1 h2=>(k.block x (g_ hx h.size) (fun hm=>h2 (hF x hm))).trans (h.block x hx h1 h2),fun off ho=>(M_ (k.block b (g_ hb h.size) hn)).trans (h.cell off ho),fun x o hx=>(k.froz x o (g_ hx h.size)).trans (h.froz x o hx)⟩
theorem Inr.setCell(h:Inr b lo hi fi w a){off:Nat}(h1:lo≤off)(h2:off<hi)(u:Value):Inr b lo hi fi w (a.setCell ⟨b,off,none⟩ u):=
 ⟨h.os,h.tape,h.output,by simpa[D_]using h.size,fun x hx h3 h4=>(l_ _ _ _ _ h3).trans (h.block x hx h3 h4),
  fun o ho=>by
   rw[P_]
   ·exact h.cell o ho
   ·intro e;injection e with _ e2;omega,
  fun x o hx=>by rw[World.frozen?_setCell];exact h.froz x o hx⟩
theorem Inr.nR{fp:List Nat}(h:Inr b lo hi fi w a)(hb:b∈fp)(hf:∀x∈fi,x∈fp):Touch fp w a:=
 ⟨h.os,h.tape,h.output,h.size,fun x hx hn=>h.block x hx (fun e=>hn (e▸hb)) (fun hm=>hn (hf x hm)),h.froz⟩
end
theorem At.below{w a:World}{b o:Nat}{cs:List Value}(h:At w b o cs)(hb:b<w.heap.size)(k:Below w.heap.size w a):At a b o cs:=
 fun j u hj=>(k.cell (p:=⟨b,o+j,none⟩) hb).trans (h j u hj)
theorem At.touch{w a:World}{b o:Nat}{cs:List Value}{F:List Nat}(h:At w b o cs)(hb:b<w.heap.size)(k:Touch F w a)(hn:b∉F):At a b o cs:=
 fun j u hj=>(M_ (k.block b hb hn)).trans (h j u hj)
theorem At.set{w:World}{b o:Nat}{cs:List Value}(h:At w b o cs){j:Nat}(hj:j<cs.length)(u:Value):At (w.setCell ⟨b,o+j,none⟩ u) b o (cs.set j u):=by
 intro i v hi;rw[List.getElem?_set]at hi;split at hi
 ·next e=>
  subst e
  try rw[if_pos hj]at hi
  cases hi;exact World.cell?_setCell_same _ _ _ (h j _ (a_ hj))
 ·next e=>
  rw[P_]
  ·exact h i v hi
  ·intro e2;injection e2 with _ e3;omega
theorem Rs.yh{w:World}{a b:List Nat}(h:(a++b).Nodup):a.Nodup∧b.Nodup∧∀x∈a,x∉b:=
 ⟨(z_.1 h).1,(z_.1 h).2.1,fun x hx hy=>(z_.1 h).2.2 x hx x hy rfl⟩
theorem Sl.focus{w:World}{s:Nat}{l:List D}{fp:List Nat}{A:Option Addr}{n cap:Nat}(h:Sl w l fp (.slice A n cap))(hnd:fp.Nodup)(hs:∀d∈l,d.sz=s){k:Nat}{d:D}(hd:l[k]? =some d):
 ∃b o fi ci,A=some ⟨b,o,none⟩∧b<w.heap.size∧b∈fp∧R w d fi ci∧(∀x∈fi,x∈fp)∧b∉fi∧fi.Nodup∧At w b (o+k*s) ci∧
  ∀(w':World) (d':D) (ci':List Value),d'.sz=s→R w' d' fi ci'→At w' b (o+k*s) ci'→Inr b (o+k*s) (o+k*s+s) fi w w'→Sl w' (l.set k d') fp (.slice A n cap):=by
 unfold Sl at h;rw[R]at h;obtain⟨A',cap',h1,hle,hcap,h3⟩:=h;simp only[x_,and_true,y_]at h1;obtain⟨rfl,rfl,rfl⟩:=h1;rcases h3 with⟨rfl,_⟩|⟨b,o,fp',cs',rfl,rfl,hb,hr,ha⟩
 ·simp at hd
 ·obtain⟨hi,hd'⟩:=o_.1 hd;have e:l=l.take k++(d::l.drop (k+1)):=by rw[← hd',← u_,k_]
  rw[e]at hr;obtain⟨f1,f2,c1,c2,rfl,rfl,h1,h2⟩:=Rs.split hr;obtain⟨g1,g2,e1,e2,rfl,rfl,h3,h4⟩:=h2;have hl:c1.length=k*s:=by
   rw[h1.len,fH (s:=s) _ (fun x hx=>hs x (B_ hx)),j_,F_ (by omega)]
  have hl1:e1.length=s:=by rw[h3.len,hs d (List.mem_of_getElem? hd)]
  have hnd':=(R_.1 hnd)
  obtain⟨n1,n2,n3⟩:=Rs.yh (w:=w) hnd'.2;obtain⟨n4,n5,n6⟩:=Rs.yh (w:=w) n2;have ha2:At w b (o+k*s) (e1++e2):=by have:=ha.right;rwa[hl]at this
  refine⟨b,o,g1,e1,rfl,hb,by simp,h3,fun x hx=>by simp[hx],fun hm=>hnd'.1 (by simp[hm]),n4,ha2.left, ?_⟩;intro w' d' ci' hsz hR' hA' hI;have hbl:∀x∈f1++g2,w'.heap[x]? =w.heap[x]? :=by
   intro x hx;have hx':x∈f1++(g1++g2):=by rcases i_.1 hx with h|h<;>simp[h]
   refine hI.block x (Rs.lt hr x hx') (fun e=>hnd'.1 (e▸hx')) (fun hm=> ?_);rcases i_.1 hx with h|h
   ·exact n3 x h (by simp[hm])
   ·exact n6 x hm h
  unfold Sl;rw[R];have hls:(l.set k d').length=l.length:=N_;have hc':ci'.length=s:=by rw[hR'.len,hsz]
  refine⟨_,cap,by rw[hls],by rw[hls];exact hle,hcap,w_ ⟨b,o,f1++(g1++g2),c1++(ci'++e2),rfl,rfl,g_ hb hI.size, ?_, ?_⟩⟩
  ·have e':l.set k d'=l.take k++(d'::l.drop (k+1)):=by rw[List.set_eq_take_append_cons_drop,if_pos hi]
   rw[e'];have h5:Rs w' (d'::l.drop (k+1)) (g1++g2) (ci'++e2):=by
    rw[Rs];exact⟨g1,g2,ci',e2,rfl,rfl,hR',h4.same (fun x hx=>hbl x (by simp[hx])) hI.size⟩
   exact Rs.append h5 (h1.same (fun x hx=>hbl x (by simp[hx])) hI.size)
  ·intro j u hj;rcases J_ j c1.length with hj1|hj1
   ·rw[h_ hj1]at hj;rw[hI.cell _ (I_ (by omega))];exact ha j u (by rw[h_ hj1];exact hj)
   ·rw[e_ hj1]at hj;rcases J_ (j - c1.length) ci'.length with hj2|hj2
    ·rw[h_ hj2]at hj;have:=hA' _ u hj;rwa[show o+k*s+(j - c1.length)=o+j by omega]at this
    ·rw[e_ hj2]at hj;rw[hI.cell _ (w_ (by omega))];refine ha j u ?_;rw[e_ hj1,e_ (by omega),← hj];congr 1;omega
def QY(l:List D)(fp:List Nat)(v:Value)(k:Int)(w:World)(e:Ending)(w':World):Prop:=e= .returned (.int .i64 (k+D.cnts l))∧Sl w' (D.mks l k) fp v∧Touch fp w w'
def bC(P:Program)(f:Nat)(l:List D):Prop:=∀(w:World) (fp:List Nat) (v:Value) (k:Int),Sl w l fp v→aX w 0 fp→0≤k→k+D.cnts l≤4611686018427387904→Calls P f #[v,.int .i64 k] w (QY l fp v k w)
def IL(n:Nat)(k:Int)(w:World)(e:Ending)(w':World):Prop:=e= .returned (.int .i64 (k+n))∧Below w.heap.size w w'
def bD(P:Program)(f:Nat)(l:List D):Prop:=∀(w:World) (fp:List Nat) (v:Value) (k:Int),Sl w (D.mks l k) fp v→0≤k→k+D.cnts l≤4611686018427387904→Calls P f #[v,.int .i64 k] w (IL (D.cnts l) k w)
def DU(P:Program)(f:Nat)(d:D):Prop:=∀(w:World) (fp:List Nat) (cs:List Value) (k:Int),R w (d.amk k) fp cs→0≤k→k+d.l9≤4611686018427387904→Calls P f #[.agg cs.toArray,.int .i64 k] w (IL d.l9 k w)
theorem Sl.inr{b lo hi:Nat}{F:List Nat}{w a:World}{l:List D}{g:List Nat}{v:Value}(h:Sl w l g v)(hI:Inr b lo hi F w a)(hb:b∉g)(hd:∀x∈g,x∉F):Sl a l g v:=
 R.same h (fun x hx=>hI.block x (R.lt h x hx) (fun e=>hb (e▸hx)) (hd x hx)) hI.size
theorem aX.inr{b lo hi:Nat}{F:List Nat}{w a:World}{base:Nat}{g:List Nat}(h:aX w base g)(hl:∀x∈g,x<w.heap.size)(hI:Inr b lo hi F w a):aX a base g:=
 ⟨h.1,fun x hx=>⟨(h.2 x hx).1,fun o=>by rw[hI.froz x o (hl x hx)];exact(h.2 x hx).2 o⟩⟩
theorem Inr.mono{b lo hi:Nat}{F F':List Nat}{w a:World}(h:Inr b lo hi F w a)(hf:∀x∈F,x∈F'):Inr b lo hi F' w a:=
 ⟨h.os,h.tape,h.output,h.size,fun x hx h1 h2=>h.block x hx h1 (fun hm=>h2 (hf x hm)),h.cell,h.froz⟩
theorem aX.sub{w:World}{base:Nat}{fp g:List Nat}(h:aX w base fp)(hn:g.Nodup)(hs:∀x∈g,x∈fp):aX w base g:=⟨hn,fun x hx=>h.2 x (hs x hx)⟩
mutual
def D.thin :D→Prop
 | .leaf _=>True
 | .sl l=>D.fQ l
 | .agg l=>D.JE l
def D.fQ :List D→Prop
 | []=>True
 |d::l=>d.sz≤14∧d.thin∧D.fQ l
def D.JE :List D→Prop
 | []=>True
 |d::l=>d.thin∧D.JE l
end
mutual
theorem D.cnt_le :∀(d:D),d.thin→d.cnt≤d.sz+14*d.wt
 | .leaf _,_=>by simp only[D.cnt,D.sz];omega
 | .sl l,h=>by
   have:=D.rW l h;simp only[D.cnt,D.sz,D.wt];omega
 | .agg l,h=>by
   have:=D.Iq l h;simp only[D.cnt,D.sz,D.wt];omega
theorem D.rW :∀(l:List D),D.fQ l→D.cnts l≤14*(l.length+D.wts l)
 | [],_=>by simp only[D.cnts];omega
 | d::l,h=>by
   obtain⟨h1,h2,h3⟩:=h;have e1:=D.cnt_le d h2;have e2:=D.rW l h3;simp only[D.cnts,D.wts,r_];omega
theorem D.Iq :∀(l:List D),D.JE l→D.cnts l≤D.szs l+14*D.wts l
 | [],_=>by simp only[D.cnts,D.szs];omega
 | d::l,h=>by
   obtain⟨h1,h2⟩:=h;have e1:=D.cnt_le d h1;have e2:=D.Iq l h2;simp only[D.cnts,D.wts,D.szs];omega
end
mutual
theorem D.SI :∀(d:D),d.l9≤d.cnt
 | .leaf _=>by simp only[D.l9];omega
 | .sl l=>by simp only[D.l9,D.cnt];omega
 | .agg l=>by
   have:=D.DN l;simp only[D.l9,D.cnt];omega
theorem D.DN :∀(l:List D),D.l7 l≤D.cnts l
 | []=>by simp only[D.l7];omega
 | d::l=>by
   have e1:=D.SI d;have e2:=D.DN l;simp only[D.l7,D.cnts];omega
end
theorem D.iG{l:List D}(h:∀d∈l,d.sz≤14∧d.thin):D.fQ l:=by
 induction l with
 |nil=>trivial
 |cons d l ih=>exact⟨(h d (by simp)).1,(h d (by simp)).2,ih fun x hx=>h x (by simp[hx])⟩
theorem LX(l:List Int):D.fQ (l.map li):=D.iG fun d hd=>by obtain⟨x,_,rfl⟩:=b_.1 hd;exact⟨by simp[li,D.sz],trivial⟩
theorem LW(l:List ByteArray):D.fQ (l.map ls):=D.iG fun d hd=>by obtain⟨x,_,rfl⟩:=b_.1 hd;exact⟨by simp[ls,D.sz],trivial⟩
theorem GOrigin.thin(x:GOrigin):x.toD.thin:=by
 rw[GOrigin.aj];exact⟨trivial,trivial,trivial⟩
theorem GOrigin.fQ(l:List GOrigin):D.fQ (l.map GOrigin.toD):=D.iG fun d hd=>by obtain⟨y,_,rfl⟩:=b_.1 hd;exact⟨by rw[GOrigin.sz_eq];omega,y.thin⟩
theorem GRow.thin(x:GRow):x.toD.thin:=by
 rw[GRow.aj];exact⟨LX _,GOrigin.fQ _,trivial⟩
theorem GRow.fQ(l:List GRow):D.fQ (l.map GRow.toD):=D.iG fun d hd=>by obtain⟨y,_,rfl⟩:=b_.1 hd;exact⟨by rw[GRow.sz_eq];omega,y.thin⟩
theorem GVal.thin(x:GVal):x.toD.thin:=by
 rw[GVal.aj];exact⟨trivial,trivial,trivial,trivial,(D.iG fun d hd=>by obtain⟨y,hy,rfl⟩:=b_.1 hd;exact⟨by rw[GVal.sz_eq];omega,GVal.thin y⟩),LW _,GRow.fQ _,trivial⟩
termination_by E_ x
decreasing_by exact GVal.lt_of_mem hy
theorem GVal.fQ(l:List GVal):D.fQ (l.map GVal.toD):=D.iG fun d hd=>by obtain⟨y,_,rfl⟩:=b_.1 hd;exact⟨by rw[GVal.sz_eq];omega,y.thin⟩
theorem GTok.thin(x:GTok):x.toD.thin:=by
 rw[GTok.aj];exact⟨trivial,trivial,trivial,trivial,trivial⟩
theorem GTok.fQ(l:List GTok):D.fQ (l.map GTok.toD):=D.iG fun d hd=>by obtain⟨y,_,rfl⟩:=b_.1 hd;exact⟨by rw[GTok.sz_eq];omega,y.thin⟩
theorem GExpr.thin(x:GExpr):x.toD.thin:=by
 rw[GExpr.aj];exact⟨trivial,trivial,trivial,(D.iG fun d hd=>by obtain⟨y,hy,rfl⟩:=b_.1 hd;exact⟨by rw[GExpr.sz_eq];omega,GExpr.thin y⟩),trivial⟩
termination_by E_ x
decreasing_by exact GExpr.lt_of_mem hy
theorem GExpr.fQ(l:List GExpr):D.fQ (l.map GExpr.toD):=D.iG fun d hd=>by obtain⟨y,_,rfl⟩:=b_.1 hd;exact⟨by rw[GExpr.sz_eq];omega,y.thin⟩
theorem GCell.thin(x:GCell):x.toD.thin:=by
 rw[GCell.aj];exact⟨trivial,trivial,trivial,trivial,trivial,trivial,trivial⟩
theorem GCell.fQ(l:List GCell):D.fQ (l.map GCell.toD):=D.iG fun d hd=>by obtain⟨y,_,rfl⟩:=b_.1 hd;exact⟨by rw[GCell.sz_eq];omega,y.thin⟩
theorem GNb.thin(x:GNb):x.toD.thin:=by
 rw[GNb.aj];exact⟨GCell.fQ _,trivial⟩
theorem GNb.fQ(l:List GNb):D.fQ (l.map GNb.toD):=D.iG fun d hd=>by obtain⟨y,_,rfl⟩:=b_.1 hd;exact⟨by rw[GNb.sz_eq];omega,y.thin⟩
theorem GPart.thin(x:GPart):x.toD.thin:=by
 rw[GPart.aj];exact⟨trivial,trivial,GExpr.thin _,GVal.thin _,trivial,trivial⟩
theorem GPart.fQ(l:List GPart):D.fQ (l.map GPart.toD):=D.iG fun d hd=>by obtain⟨y,_,rfl⟩:=b_.1 hd;exact⟨by rw[GPart.sz_eq];omega,y.thin⟩
theorem GEdit.thin(x:GEdit):x.toD.thin:=by
 rw[GEdit.aj];exact⟨trivial,trivial,GCell.thin _,trivial⟩
theorem GEdit.fQ(l:List GEdit):D.fQ (l.map GEdit.toD):=D.iG fun d hd=>by obtain⟨y,_,rfl⟩:=b_.1 hd;exact⟨by rw[GEdit.sz_eq];omega,y.thin⟩
theorem GRead.thin(x:GRead):x.toD.thin:=by
 rw[GRead.aj];exact⟨trivial,trivial,trivial,trivial,GVal.thin _,trivial⟩
theorem GRead.fQ(l:List GRead):D.fQ (l.map GRead.toD):=D.iG fun d hd=>by obtain⟨y,_,rfl⟩:=b_.1 hd;exact⟨by rw[GRead.sz_eq];omega,y.thin⟩
theorem GTape.thin(x:GTape):x.toD.thin:=by
 rw[GTape.aj];exact⟨trivial,trivial,GRead.fQ _,trivial⟩
theorem GTape.fQ(l:List GTape):D.fQ (l.map GTape.toD):=D.iG fun d hd=>by obtain⟨y,_,rfl⟩:=b_.1 hd;exact⟨by rw[GTape.sz_eq];omega,y.thin⟩
theorem J5{a b:ByteArray}(h:a=b):Ending.returned (.string a)= .returned (.string b):=by rw[h]
def UJ(v:Value)(w:World)(e:Ending)(w':World):Prop:=e= .returned v∧Below w.heap.size w w'
theorem QB(n:Nat):(Cb n).length≤n:=by
 induction n using a_h with
 | ind n ih=>
   by_cases h:n=0
   ·subst h;rw[Dv];simp
   ·rw[H6 h,H_];have:=ih (n / 10) (by omega);simp only[r_,List.length_nil];omega
theorem Uy(w:World)(g n:Nat)(hn:n<256)(hc:w.cell? ⟨g,0,none⟩=some (.int .u8 (n:Int))):
 (convert 106 9 (.slice (some ⟨g,0,none⟩) 1 1)).run Try.prog w= .ok (.string ⟨#[L_ n]⟩) w:=by
 have h:=run_convert_bytes_back (P:=Try.prog) w 106 9 5 ⟨g,0,none⟩ 1 [L_ n] Try.underlying106 Try.underlying5 Try.underlying9 (fun j hj=>by
  have:j=0:=by simpa using hj
  subst this;have e:((L_ n).toNat:Int)=(n:Int):=by simp;omega
  simp only[List.getElem_cons_zero,e];exact hc)
 exact h
theorem gX(k:Int)(w:World)(hk:k≤4611686018427387904):Calls Try.prog 44 #[.int .i64 k] w (UJ (.string (iY k)) w):=by
 by_cases h:k≤0
 ·go_enter Try.func44,Try.ntmps44
  go_wp2
  go_ret
  exact⟨J5 (by unfold iY;rw[if_pos h]),O_ _ _⟩
 ·obtain⟨n,rfl⟩:=Int.eq_ofNat_of_zero_le (show 0≤k by omega)
  go_enter Try.func44,Try.ntmps44
  go_wp2
  go_loopw [0,3] (fun kv ov wr=>∃(m:Nat) (l:List UInt8),m≤n∧kv= .int .i64 m∧ov= .string ⟨l.toArray⟩∧Cb n=Cb m++l∧Below w.heap.size w wr) (fun kv _ _=>(intOf kv).toNat)
  case atStart=>exact⟨n,[],by omega,rfl,rfl,by simp,O_ _ _⟩
  case round=>
   obtain⟨m,l,hmn,rfl,rfl,hd,hb⟩:=hrel;have hl:l.length≤n:=by have:=QB n;rw[hd,H_]at this;omega
   have hd':=Lib.hid hd;clear hd;by_cases hm:m=0
   ·have hm':¬(0:Int)<(m:Int):=by omega
    go_wp2
    go_ret
    refine⟨J5 ?_,hb⟩;subst hm;have e:=hd'.out;rw[Dv,d_]at e;unfold iY;rw[if_neg (by omega),Int.toNat_natCast,e,ByteArray.mk_append_mk];rfl
   ·have hm':(0:Int)<(m:Int):=by omega
    have hcv:=Uy (wr.alloc (.cells #[.int .u8 (48+(m:Int) % 10)] 5)) wr.heap.size (48+m % 10) (by omega) (by simp);obtain⟨c,hc⟩:∃c:UInt8,c=L_ (48+m % 10):=⟨_,rfl⟩
    rw[← hc]at hcv;have hc':=Lib.hid hc;clear hc
    go_wp2
    go_roundw
    case rel=>exact⟨m / 10,c::l,by omega,by simp,by rw[ByteArray.mk_append_mk];rfl,by rw[hd'.out,H6 hm,a_c,← hc'.out];rfl,hb.alloc hb.size _⟩
    case measure=>(simp[intOf]<;>omega)
theorem Row.drew{w:World}{g:Nat}{e:TypeId}{xs:List Value}(h:Row w g e xs):Row w.drew g e xs:=h
structure EK (P:Program) where
 t:TypeId
 e:TypeId
 s:Nat
 ht:P.underlying t=some (.slice e)
 info:∃(i:TypeInfo) (z:Value),P.info? e=some i∧i.zero=some z∧i.size=s∧i.bytes≤1024∧z.cells.size=s
 h0:0<s
def jU(w:World)(base:Nat)(e:TypeId)(s:Nat)(l:List D)(f:List Nat)(v:Value):Prop:=
 ∃cs,w.ownsRow base e s v l.length cs∧Rs w l f cs∧aX w base f∧∀g,v.ownBlock=some g→g∉f
def Src(w:World)(l:List D)(f:List Nat)(v:Value):Prop:=
 ∃A c cs,v= .slice A l.length c∧Rs w l f cs∧((l= []∧cs= [])∨∃b o,A=some ⟨b,o,none⟩∧b<w.heap.size∧At w b o cs)
theorem Src.SY{w:World}{l:List D}{fp:List Nat}{v:Value}(h:Sl w l fp v):∃f,Src w l f v∧(∀x∈f,x∈fp):=by
 obtain⟨A,c,rfl,_,_⟩:=h.form;obtain⟨_,f,cs,h1,h2,h3⟩:=h.cells;exact⟨f,⟨A,c,cs,rfl,h1,h3⟩,h2⟩
theorem Src.of_flat{w:World}{l:List D}{fp:List Nat}{v:Value}(h:Sl w l fp v)(hf:∀(f:List Nat) (cs:List Value),Rs w l f cs→f= []):Src w l [] v:=by
 obtain⟨f,⟨A,c,cs,h1,h2,h3⟩,_⟩:=Src.SY h;have:=hf f cs h2;subst this;exact⟨A,c,cs,h1,h2,h3⟩
theorem Src.one{w:World}{g:Nat}{e:TypeId}{cs:List Value}{d:D}{f:List Nat}(h:Row w g e cs)(hR:R w d f cs):Src w [d] f (.slice (some ⟨g,0,none⟩) 1 1):=
 ⟨_,_,cs,rfl,Rs.one hR,w_ ⟨g,0,rfl,h.lt,fun j u hj=>by rw[q_,h.cell,hj]⟩⟩
theorem Src.two{w:World}{g:Nat}{e:TypeId}{cs:List Value}{l:List D}{f:List Nat}{n:Nat}(h:Row w g e cs)(hR:Rs w l f cs)(hn:l.length=n):Src w l f (.slice (some ⟨g,0,none⟩) n n):=by
 subst hn;exact⟨_,_,cs,rfl,hR,w_ ⟨g,0,rfl,h.lt,fun j u hj=>by rw[q_,h.cell,hj]⟩⟩
section
variable{w w':World}{base:Nat}{e:TypeId}{s:Nat}{l:List D}{f:List Nat}{v:Value}
theorem jU.sl(h:jU w base e s l f v):Sl w l (v.ownBlock.toList++f) v:=by
 obtain⟨cs,h1,h2,_⟩:=h;exact Sl.of_own h1 h2
theorem jU.free(h:jU w base e s l f v):aX w base (v.ownBlock.toList++f):=by
 obtain⟨cs,h1,h2,h3,h4⟩:=h;exact aX.of_own h1 h3 h4
theorem jU.lit{g:Nat}(hg:w.heap.size=g)(hb:base≤g):jU (w.alloc (.cells #[] e)) base e s [] [] (.slice (some ⟨g,0,none⟩) 0 0):=by
 subst hg;exact⟨[],World.ownsRow_lit w #[] 0 hb (by simp) (by simp),⟨rfl,rfl⟩,aX.nil,fun _ _=>by simp⟩
theorem jU.nil :jU w base e s [] [] (.slice none 0 0):=
 ⟨[],⟨by simp,I_ ⟨rfl,rfl⟩⟩,⟨rfl,rfl⟩,aX.nil,fun _ _=>by simp⟩
theorem jU.lt(h:jU w base e s l f v):∀x∈f,x<w.heap.size:=by
 obtain⟨cs,h1,h2,_⟩:=h;exact Rs.lt h2
theorem jU.below(h:jU w base e s l f v)(hb:Below w.heap.size w w'):jU w' base e s l f v:=by
 obtain⟨cs,h1,h2,h3,h4⟩:=h;exact⟨cs,BR h1 hb,h2.below hb,h3.below (Rs.lt h2) hb,h4⟩
theorem jU.far(h:jU w base e s l f v){a:Addr}(ha:v.ownBlock≠some a.block)(hf:a.block∉f)(u:Value):jU (w.setCell a u) base e s l f v:=by
 obtain⟨cs,h1,h2,h3,h4⟩:=h;exact⟨cs,Gh h1 ha u,h2.setCell hf u,h3.setCell hf u,h4⟩
theorem jU.mono{base':Nat}(h:jU w base e s l f v)(hb:base'≤base):jU w base' e s l f v:=by
 obtain⟨cs,h1,h2,h3,h4⟩:=h;exact⟨cs,Eo h1 hb,h2,h3.mono hb,h4⟩
theorem jU.form(h:jU w base e s l f v):∃A c,v= .slice A l.length c:=by
 obtain⟨cs,h1,_⟩:=h;exact Ep h1
theorem jU.tos{W:World}(h:jU w' W.heap.size e s l f v)(hb:Below W.heap.size W w'):kY l W (.returned v) w':=⟨_,v,rfl,h.sl,h.free,hb⟩
end
theorem uD{P:Program}{w:World}(k:EK P)(ty:TypeId)(base:Nat)(v:Value)(l0:List D)(f0:List Nat)(hown:jU w base k.e k.s l0 f0 v)(l:List D)(f:List Nat)(vx:Value)(hsrc:Src w l f vx)
 (h1:∀d∈l,d.one) (hds:∀d∈l,d.sz=k.s) (hF:aX w base f) (hdis:∀x∈f,x∉f0∧v.ownBlock≠some x) (hn:l0.length+l.length≤4194304) (hbase:base≤w.heap.size):
 ∃v' w',(G_ #[k.t,k.t] ty #[v,vx]).run P w= .ok v' w'∧jU w' base k.e k.s (l0++l) (f0++f) v'∧w.grownBy w' v.ownBlock∧(v'.ownBlock=v.ownBlock∨v'.ownBlock=some w.heap.size):=by
 obtain⟨cs0,o1,o2,o3,o4⟩:=hown;obtain⟨A,c,cs,rfl,hr,hcs⟩:=hsrc;obtain⟨i,z,hi,hz,hsz,hby,hzs⟩:=k.info;have h0:=k.h0;have hlen:cs.length=l.length*k.s:=by rw[hr.len,fH _ hds]
 have h63:l0.length+l.length≤maxLen:=by unfold maxLen;omega
 have hbytes:(l0.length+l.length)*i.bytes≤140737488355328:=s_ (Nat.mul_le_mul hn hby) (by decide);have key:∃v' w',(G_ #[k.t,k.t] ty #[v,.slice A l.length c]).run P w= .ok v' w'∧w'.ownsRow base k.e k.s v' (l0.length+l.length) (cs0++cs)∧w.grownBy w' v.ownBlock∧(v'.ownBlock=v.ownBlock∨v'.ownBlock=some w.heap.size):=by
  rcases hcs with⟨rfl,rfl⟩|⟨b,o,rfl,hb,ha⟩
  ·cases A with
   |none=>exact⟨v,w,uz base k.t ty k.e i k.s k.ht hi v _ _ o1 c,by simpa using o1,World.grownBy.refl w _,.inl rfl⟩
   | some ad=>
     obtain⟨v',w',hrun,h2,h3,_,h5⟩:=run_append_own_at (P:=P) w base k.t ty k.e i z k.s i.bytes k.ht hi hz hsz rfl hzs h0 v _ _ o1 ad 0 c [] (by simp) (fun j u hj=>by simp at hj) (by simp) (by simpa using h63) (by simpa using hbytes) hbase;exact⟨v',w',hrun,by simpa using h2,h3,h5⟩
  ·have hadd:∀j,(⟨b,o,none⟩:Addr).add j=⟨b,o+j,none⟩:=fun j=>by
    unfold Addr.add;split
    ·next h=>subst h;rfl
    ·rfl
   obtain⟨v',w',hrun,h2,h3,_,h5⟩:=run_append_own_at (P:=P) w base k.t ty k.e i z k.s i.bytes k.ht hi hz hsz rfl hzs h0 v _ _ o1 ⟨b,o,none⟩ l.length c cs hlen (fun j u hj=>by rw[hadd];exact ha j u hj) (hr.one_ (D.ones_of h1)) h63 hbytes hbase;exact⟨v',w',hrun,h2,h3,h5⟩
 obtain⟨v',w',hrun,h2,hg,hat⟩:=key;have hl0:=Rs.lt o2;have hl1:=Rs.lt hr;have r0:=o2.grown hg (fun g hgv=>o4 g hgv);have r1:=hr.grown hg (fun g hgv hm=>(hdis g hm).2 hgv);refine⟨v',w',hrun,⟨cs0++cs,by rw[H_];exact h2,Rs.append r1 r0,⟨z_.2 ⟨o3.1,hF.1,fun a ha b hb' e=>(hdis b hb').1 (e▸ha)⟩,fun b hb=> ?_⟩,fun g hgv hm=> ?_⟩,hg,hat⟩
 ·have hold:base≤b∧(∀o,w.frozen? ⟨b,o,none⟩=false)∧b<w.heap.size∧some b≠v.ownBlock:=by
   rcases i_.1 hb with h|h
   ·exact⟨(o3.2 b h).1,(o3.2 b h).2,hl0 b h,fun e=>o4 b e.symm h⟩
   ·exact⟨(hF.2 b h).1,(hF.2 b h).2,hl1 b h,fun e=>(hdis b h).2 e.symm⟩
  exact⟨hold.1,fun o=>by rw[S_ (w:=w) (hg.block b hold.2.2.1 hold.2.2.2)];exact hold.2.1 o⟩
 ·rcases hat with h|h
  ·rw[h]at hgv;rcases i_.1 hm with h'|h'
   ·exact o4 g hgv h'
   ·exact(hdis g h').2 hgv
  ·rw[h]at hgv;injection hgv with e
   subst e;rcases i_.1 hm with h'|h'
   ·exact a_n _ (hl0 _ h')
   ·exact a_n _ (hl1 _ h')
theorem DF{B:Nat}{a w w1:World}{v:Value}(hb:Below B a w)(hg:w.grownBy w1 v.ownBlock)(hs:B≤w.heap.size)(hv:∀g,v.ownBlock=some g→B≤g):Below B a w1:=hb.grown hg hs hv
theorem Hg{w:World}{base:Nat}:aX w base []:=aX.nil
theorem Sl.take{w:World}{l:List D}{fp:List Nat}{A:Option Addr}{n cap k:Nat}(h:Sl w l fp (.slice A n cap))(hk:k≤l.length):∃f,Sl w (l.take k) f (.slice A k cap)∧∀x∈f,x∈fp:=by
 unfold Sl at h⊢;rw[R]at h;obtain⟨A',cap',h1,h2,h3,h4⟩:=h;simp only[x_,and_true,y_]at h1;obtain⟨rfl,rfl,rfl⟩:=h1;have hl:(l.take k).length=k:=by rw[j_];omega
 rcases h4 with⟨rfl,rfl⟩|⟨b,o,fp',cs',rfl,rfl,hb,hr,ha⟩
 ·have:k=0:=by simpa using hk
  subst this;refine⟨[], ?_,fun _ hx=>hx⟩;rw[R];exact⟨A,cap,by simp,by simp,h3,I_ ⟨by simp,rfl⟩⟩
 ·have hr':=hr;rw[← k_ k l]at hr';obtain⟨f1,f2,c1,c2,rfl,rfl,r1,r2⟩:=Rs.split hr';refine⟨b::f1, ?_,fun x hx=>by
   rcases t_.1 hx with rfl|h
   ·simp
   ·simp[h]⟩
  rw[R];exact⟨_,cap,by rw[hl],by rw[hl];omega,h3,w_ ⟨b,o,f1,c1,rfl,rfl,hb,r1,ha.left⟩⟩
theorem Sl.drop{w:World}{l:List D}{fp:List Nat}{b o n cap k s:Nat}(h:Sl w l fp (.slice (some ⟨b,o,none⟩) n cap))(hs:∀d∈l,d.sz=s)(hk:k≤l.length):∃f,Sl w (l.drop k) f (.slice (some ⟨b,o+k*s,none⟩) (n - k) (cap - k))∧∀x∈f,x∈fp:=by
 unfold Sl at h⊢;rw[R]at h;obtain⟨A',cap',h1,h2,h3,h4⟩:=h;simp only[x_,and_true,y_]at h1;obtain⟨rfl,rfl,rfl⟩:=h1;have hl:(l.drop k).length=l.length - k:=List.length_drop;rcases h4 with⟨rfl,rfl⟩|⟨b',o',fp',cs',hbo,rfl,hb,hr,ha⟩
 ·refine⟨[], ?_,fun _ hx=>hx⟩;rw[R];exact⟨some ⟨b,o+k*s,none⟩,cap - k,by simp,by simp,by omega,I_ ⟨by simp,rfl⟩⟩
 ·injection hbo with hbo
  injection hbo with hb1 hb2 _
  subst hb1 hb2;have hr':=hr;rw[← k_ k l]at hr';obtain⟨f1,f2,c1,c2,rfl,rfl,r1,r2⟩:=Rs.split hr';have hc1:c1.length=k*s:=by rw[r1.len,fH (s:=s) _ (fun d hd=>hs d (B_ hd)),j_,F_ hk]
  refine⟨b::f2, ?_,fun x hx=>by
   rcases t_.1 hx with rfl|h
   ·simp
   ·simp[h]⟩
  rw[R];exact⟨_,_,by rw[hl],by rw[hl];omega,by omega,w_ ⟨b,o+k*s,f2,c2,rfl,rfl,hb,r2,by have:=ha.right;rwa[hc1]at this⟩⟩
theorem Lc{P:Program}{e:TypeId}{s:Nat}(h:(P.info? e).map (fun i=>(i.zero.map (fun z=>z.cells.size),i.size,decide (i.bytes≤1024)))=some (some s,s,true)):
 ∃(i:TypeInfo) (z:Value),P.info? e=some i∧i.zero=some z∧i.size=s∧i.bytes≤1024∧z.cells.size=s:=by
 obtain⟨i,hi,h2⟩:=Option.map_eq_some_iff.1 h;simp only[Prod.mk.injEq,decide_eq_true_eq]at h2;obtain⟨hz,hs,hb⟩:=h2;obtain⟨z,hz1,hz2⟩:=Option.map_eq_some_iff.1 hz;exact⟨i,z,hi,hz1,hs,hb,hz2⟩
theorem EK.elem{P:Program}(k:EK P):P.elem k.t=k.e:=by
 have h:=k.ht;simp only[Program.elem];rw[h]
theorem EK.sizeOf{P:Program}(k:EK P)(w:World):(Go.sizeOf k.e).run P w= .ok k.s w:=by
 obtain⟨i,z,hi,hz,hs,_,_⟩:=k.info;simp[Go.sizeOf,typeInfo,hi,hs]
theorem jU.drewN{w:World}{base:Nat}{e:TypeId}{s:Nat}{l:List D}{f:List Nat}{v:Value}(h:jU w base e s l f v)(n:Nat):jU (w.drewN n) base e s l f v:=h.below (qX (O_ _ _) n)
end
section
open List renaming getElem?_eq_getElem→a_,mem_map→b_,cons_append→c_,nil_append→d_,getElem?_append_right→e_,getElem?_append_left→h_,mem_append→i_,length_take→j_,take_append_drop→k_,append_nil→m_,take_succ_eq_append_getElem→n_,getElem?_eq_some_iff→o_,length_cons→r_,mem_cons→t_,drop_eq_getElem_cons→u_,nodup_append→z_,mem_of_mem_take→B_,length_append→H_,length_set→N_,nodup_cons→R_,drop_eq_nil_of_le→U_,singleton_append→W_,sizeOf_lt_of_mem→X_,append_assoc→a_c,length_map→a_g
open DataW renaming trod→f_,trod_struct→A_,trod_int→a_i,TrodAll→a_m,Trod→a_q
open Nat renaming lt_of_lt_of_le→g_,le_refl→p_,zero_add→q_,le_trans→s_,min_eq_left→F_,lt_or_ge→J_,add_zero→Q_,add_assoc→Y_,sub_self→a_b,strongRecOn→a_h,lt_irrefl→a_n,zero_mul→a_o
open Below renaming heap_setCell→l_,heap_alloc→C_,refl→O_
open Value renaming oneCell'→v_,ownBlock→K_,okWide→a_a
open Or renaming inr→w_,inl→I_
open List.cons renaming injEq→x_
open Value.slice renaming injEq→y_
open World renaming setCell→D_,cell?_of_block→M_,cell?_setCell_other→P_,frozen?_of_block→S_,cell? →T_,cells?_some→a_d,frozen? →a_k
open SizeOf renaming sizeOf→E_
open Builtin renaming append_→G_,firstCells→Z_,lenOf→a_l
open UInt8 renaming ofNat→L_
open Go.RowKit Go.ChangeShapes Go.WideShapes
section
variable{H:Type}{enc:TypeId×Value→H}{P:Program}{w:World}{spare:Nat→Bool}
def kH(w:World)(cs:List Value):Nat→List D→Prop
 |_,[]=>True
 |off,d::l=>(∃fp,R w d fp ((cs.drop off).take d.sz))∧kH w cs (off+d.sz) l
theorem kH.cons{cs:List Value}{off s:Nat}{d:D}{l:List D}(hs:d.sz=s)(h:∃fp,R w d fp ((cs.drop off).take s))(t:kH w cs (off+s) l):kH w cs off (d::l):=by
 subst hs;exact⟨h,t⟩
theorem kH.rs{cs:List Value}:∀(l:List D) (off:Nat),kH w cs off l→cs.length=off+D.szs l→∃fp,Rs w l fp (cs.drop off)
 | [],off,_,h=>⟨[],by
  rw[D.szs,Q_]at h;rw[U_ (by omega)];exact⟨rfl,rfl⟩⟩
 | d::l,off,⟨⟨f1,h1⟩,h2⟩,h=>by
   rw[D.szs]at h;obtain⟨f2,h3⟩:=kH.rs l (off+d.sz) h2 (by omega);refine⟨f1++f2,f1,f2,_,_,rfl, ?_,h1,h3⟩;rw[← List.drop_drop,k_]
def Rdg{α:Type}(enc:TypeId×Value→H)(P:Program)(w:World)(spare:Nat→Bool)(f:α→D)(t:TypeId)(fuel:Nat):Prop:=
 ∀(cs:List Value) (x:DataW H×List MemPlace),f_ enc P w 0 spare true fuel t cs=some x→∃y:α,(∃fp,R w (f y) fp cs)∧(f y).wf
theorem TM{t:TypeId}(ht:P.underlying t=some (.int .i64))(fuel:Nat):Rdg enc P w spare li t fuel:=fun cs x h=>by
 obtain⟨n,rfl,_,hw⟩:=a_i ht h;exact⟨n,⟨[],rfl,rfl⟩,hw⟩
theorem TK{t:TypeId}(ht:P.underlying t=some .string)(fuel:Nat):Rdg enc P w spare ls t fuel:=fun cs x h=>by
 obtain⟨n,rfl,_,hw⟩:=DataW.trod_string ht h;exact⟨n,⟨[],rfl,rfl⟩,hw⟩
theorem FU{α:Type}(f:α→D){s:Nat}(hs:∀y,(f y).sz=s){b:Nat}:∀(n o:Nat),(∀i,i<n→∃(cs:List Value) (y:α),cs.length=s∧At w b (o+i*s) cs∧(∃fp,R w (f y) fp cs)∧(f y).wf)→
 ∃(l:List α) (fp:List Nat) (cs:List Value),l.length=n∧Rs w (l.map f) fp cs∧At w b o cs∧D.wfs (l.map f)
 |0,_,_=>⟨[],[],[],rfl,⟨rfl,rfl⟩,fun j u hj=>by simp at hj,trivial⟩
 | n+1,o,h=>by
   obtain⟨c1,y,hl,ha,⟨f1,hr⟩,hw⟩:=h 0 (by omega);obtain⟨l,f2,c2,hn,hrs,ha2,hws⟩:=FU f hs n (o+s) (fun i hi=>by
    obtain⟨cs,y,h1,h2,h3⟩:=h (i+1) (by omega);refine⟨cs,y,h1, ?_,h3⟩;rw[show o+s+i*s=o+(i+1)*s by rw[Nat.add_mul];omega];exact h2)
   refine⟨y::l,f1++f2,c1++c2,by simp[hn],⟨f1,f2,c1,c2,rfl,rfl,hr,hrs⟩,fun j u hj=> ?_,⟨hw,hws⟩⟩;by_cases hjl:j<c1.length
   ·rw[h_ hjl]at hj;have:=ha j u hj;rwa[a_o,Q_]at this
   ·rw[e_ (by omega)]at hj;have:=ha2 _ u hj;rwa[show o+s+(j - c1.length)=o+j by omega]at this
theorem nC{α:Type}{f:α→D}{t e:TypeId}{s:Nat}(ht:P.underlying t=some (.slice e))(hc:P.cellsOf e=s)(hs:∀y,(f y).sz=s)(h0:0<s)(fuel:Nat)
 (he:∀n,n<fuel→Rdg enc P w spare f e n):Rdg enc P w spare (fun l:List α=> .sl (l.map f)) t fuel:=fun cs x h=>by
 rcases DataW.trod_slice ht h with⟨rfl,_⟩|⟨a,len,cap,elems,rest,n,rfl,rfl,_,hb,hlc,hcap,hlen,hel,_,_⟩
 ·refine⟨[],⟨[], ?_⟩,trivial⟩;rw[R];exact⟨none,0,rfl,by simp,by simp,I_ ⟨rfl,rfl⟩⟩
 ·rw [hc]at hel;by_cases hz:len=0
  ·subst hz;refine⟨[],⟨[], ?_⟩,trivial⟩;rw[R];exact⟨some a,cap,rfl,by simp,hcap,I_ ⟨rfl,rfl⟩⟩
  ·have hel':∀i,i<len→∃(cs:List Value),w.cells? 0 (a.add (i*s)) s=some cs∧∃x,f_ enc P w 0 spare true n e cs=some x:=fun i hi=>by
    have:=hel i hi;rw[a_ (by omega)]at this;obtain⟨cs,h1,h2⟩:=Option.bind_eq_some_iff.1 this;exact⟨cs,h1,_,h2⟩
   have hspot:a.spot=none:=by
    obtain⟨cs,h1,_⟩:=hel' 0 (by omega);obtain⟨_,h2,h3⟩:=a_d h1;have h4:=h3 0 h0;rw[a_o]at h4;have e1:(a.add 0).add 0=a:=by simp[Addr.add]
    rw[e1]at h4;have h5:(w.cell? a).isSome:=by rw[h4,a_ (by omega)];rfl
    unfold T_ at h5;cases hsp:a.spot with
    |none=>rfl
    |some q=>rw[hsp]at h5;split at h5<;>simp at h5
   obtain⟨b,o,sp⟩:=a;simp only at hspot;subst hspot;have hadd:∀i,(⟨b,o,none⟩:Addr).add i=⟨b,o+i,none⟩:=fun i=>by
    unfold Addr.add;split
    ·next h=>subst h;rfl
    ·rfl
   obtain⟨l,fp,cs',h1,h2,h3,h4⟩:=FU (w:=w) f hs (b:=b) len o (fun i hi=>by
    obtain⟨cs,h1,x,h2⟩:=hel' i hi;obtain⟨y,hy,hw⟩:=he n (by omega) cs x h2;obtain⟨_,h4,h5⟩:=a_d h1;refine⟨cs,y,h4,fun j u hj=> ?_,hy,hw⟩;have hjl:j<s:=by have:=(o_.1 hj).1;omega
    have:=h5 j hjl;rw[hadd,show(⟨b,o+i*s,none⟩:Addr).add j=⟨b,o+i*s+j,none⟩ from by unfold Addr.add;split<;>simp_all]at this;rw[this,hj])
   have hb':b<w.heap.size:=by
    have hl0:cs'.length=len*s:=by
     rw[h2.len,fH (s:=s) _ (fun d hd=>by obtain⟨y,_,rfl⟩:=b_.1 hd;exact hs y),a_g,h1]
    have hpos:0<cs'.length:=by rw[hl0];exact Nat.mul_pos (by omega) h0
    have h5:=h3 0 _ (a_ hpos);rcases J_ b w.heap.size with hlt|hge
    ·exact hlt
    ·simp[T_,Array.getElem?_eq_none hge]at h5
   refine⟨l,⟨b::fp, ?_⟩,h4⟩;rw[R];exact⟨some ⟨b,o,none⟩,cap,by simp[h1],by simp[h1];exact hlc,hcap,w_ ⟨b,o,fp,cs',rfl,rfl,hb',h2,h3⟩⟩
theorem xM{α:Type}{f:α→D}{t e:TypeId}{v:Value}{d:DataW H}{p:List MemPlace}{r:Reach}{b0:Nat}(hs:P.underlying t=some (.slice e))(hv:a_a P w r b0 t v)
 (hr:∀fuel,Rdg enc P w spare (fun l:List α=> .sl (l.map f)) t fuel) (h:a_q enc P w 0 spare true t v d p):∃(l:List α) (fp:List Nat),Sl w (l.map f) fp v∧D.wfs (l.map f):=by
 obtain⟨a,n,cap,rfl⟩:=okWide_slice hs hv;obtain⟨fuel,hf⟩:=h;obtain⟨y,⟨fp,hy⟩,hw⟩:=hr fuel _ _ hf;exact⟨y,fp,hy,hw⟩
theorem vT{t:TypeId}{v:Value}{d:DataW H}{p:List MemPlace}{r:Reach}{b0:Nat}(hs:P.underlying t=some (.int .i64))(hv:a_a P w r b0 t v)
 (h:a_q enc P w 0 spare true t v d p):∃n:Int,v= .int .i64 n∧(Lit.int .i64 n).wf=true:=by
 obtain⟨n,rfl⟩:=okWide_int hs hv;obtain⟨fuel,hf⟩:=h;obtain⟨m,h1,_,h2⟩:=a_i hs hf;have e:n=m:=by simpa[Value.cells]using h1
 exact⟨n,rfl,e▸h2⟩
end
section
variable{H:Type}{enc:TypeId×Value→H}{w:World}{spare:Nat→Bool}
theorem kS(fuel:Nat):Rdg enc Try.prog w spare li 3 fuel:=TM Try.underlying3 fuel
theorem Eh(fuel:Nat):Rdg enc Try.prog w spare ls 9 fuel:=TK Try.underlying9 fuel
theorem gq :Try.prog.cellsOf 3=1:=by kernel_rfl
theorem Ru(fuel:Nat):Rdg enc Try.prog w spare (fun l:List Int=> .sl (l.map li)) 108 fuel:=nC Try.underlying108 gq (fun y=>rfl) (by omega) fuel fun n _=>kS n
theorem qW :Try.prog.cellsOf 9=1:=by kernel_rfl
theorem Rt(fuel:Nat):Rdg enc Try.prog w spare (fun l:List ByteArray=> .sl (l.map ls)) 38 fuel:=nC Try.underlying38 qW (fun y=>rfl) (by omega) fuel fun n _=>Eh n
theorem qC :Try.prog.cellsOf 142=2:=by kernel_rfl
theorem I7(fuel:Nat):Rdg enc Try.prog w spare GOrigin.toD 142 fuel:=fun cs x h=>by
 obtain⟨xs,n,rfl,_,hlen,hxl,hf⟩:=A_ Try.underlying142 h;rw[qC]at hlen;have h0:f_ enc Try.prog w 0 spare true n 3 ((cs.drop 0).take (Try.prog.cellsOf 3))=xs[0]? :=hf 0 _ rfl;rw[gq,a_ (by rw[hxl];decide)]at h0;obtain⟨y0,hy0,hw0⟩:=(kS n) _ _ h0;have h1:f_ enc Try.prog w 0 spare true n 3 ((cs.drop 1).take (Try.prog.cellsOf 3))=xs[1]? :=hf 1 _ rfl;rw[gq,a_ (by rw[hxl];decide)]at h1;obtain⟨y1,hy1,hw1⟩:=(kS n) _ _ h1;have hsegs:kH w cs 0 [li y0,li y1]:=(kH.cons (s:=1) rfl hy0 (kH.cons (s:=1) rfl hy1 trivial))
 obtain⟨fp,hr⟩:=hsegs.rs _ 0 (by have:=(GOrigin.mk y0 y1).sz_eq;rw[GOrigin.aj]at this;rw[hlen,q_];exact this.symm);refine⟨GOrigin.mk y0 y1,⟨fp, ?_⟩, ?_⟩
 ·rw[GOrigin.aj,dK];exact hr
 ·rw[GOrigin.aj];exact⟨hw0,hw1,trivial⟩
theorem FX(fuel:Nat):Rdg enc Try.prog w spare (fun l:List GOrigin=> .sl (l.map GOrigin.toD)) 129 fuel:=nC Try.underlying129 qC (fun y=>y.sz_eq) (by omega) fuel fun n _=>I7 n
theorem ET :Try.prog.cellsOf 108=1:=by kernel_rfl
theorem xE :Try.prog.cellsOf 129=1:=by kernel_rfl
theorem vM :Try.prog.cellsOf 131=2:=by kernel_rfl
theorem Rx(fuel:Nat):Rdg enc Try.prog w spare GRow.toD 131 fuel:=fun cs x h=>by
 obtain⟨xs,n,rfl,_,hlen,hxl,hf⟩:=A_ Try.underlying131 h;rw[vM]at hlen;have h0:f_ enc Try.prog w 0 spare true n 108 ((cs.drop 0).take (Try.prog.cellsOf 108))=xs[0]? :=hf 0 _ rfl;rw[ET,a_ (by rw[hxl];decide)]at h0;obtain⟨y0,hy0,hw0⟩:=(Ru n) _ _ h0;have h1:f_ enc Try.prog w 0 spare true n 129 ((cs.drop 1).take (Try.prog.cellsOf 129))=xs[1]? :=hf 1 _ rfl;rw[xE,a_ (by rw[hxl];decide)]at h1;obtain⟨y1,hy1,hw1⟩:=(FX n) _ _ h1;have hsegs:kH w cs 0 [.sl (y0.map li),.sl (y1.map GOrigin.toD)]:=(kH.cons (s:=1) rfl hy0 (kH.cons (s:=1) rfl hy1 trivial))
 obtain⟨fp,hr⟩:=hsegs.rs _ 0 (by have:=(GRow.mk y0 y1).sz_eq;rw[GRow.aj]at this;rw[hlen,q_];exact this.symm);refine⟨GRow.mk y0 y1,⟨fp, ?_⟩, ?_⟩
 ·rw[GRow.aj,dK];exact hr
 ·rw[GRow.aj];exact⟨hw0,hw1,trivial⟩
theorem OA(fuel:Nat):Rdg enc Try.prog w spare (fun l:List GRow=> .sl (l.map GRow.toD)) 79 fuel:=nC Try.underlying79 vM (fun y=>y.sz_eq) (by omega) fuel fun n _=>Rx n
theorem Ci :Try.prog.cellsOf 34=1:=by kernel_rfl
theorem ES :Try.prog.cellsOf 38=1:=by kernel_rfl
theorem Cj :Try.prog.cellsOf 79=1:=by kernel_rfl
theorem pY :Try.prog.cellsOf 81=7:=by kernel_rfl
theorem I5(fuel:Nat)(IH:∀n,n<fuel→Rdg enc Try.prog w spare GVal.toD 81 n):Rdg enc Try.prog w spare GVal.toD 81 fuel:=fun cs x h=>by
 obtain⟨xs,n,rfl,_,hlen,hxl,hf⟩:=A_ Try.underlying81 h;rw[pY]at hlen;have h0:f_ enc Try.prog w 0 spare true n 3 ((cs.drop 0).take (Try.prog.cellsOf 3))=xs[0]? :=hf 0 _ rfl;rw[gq,a_ (by rw[hxl];decide)]at h0;obtain⟨y0,hy0,hw0⟩:=(kS n) _ _ h0;have h1:f_ enc Try.prog w 0 spare true n 3 ((cs.drop 1).take (Try.prog.cellsOf 3))=xs[1]? :=hf 1 _ rfl;rw[gq,a_ (by rw[hxl];decide)]at h1;obtain⟨y1,hy1,hw1⟩:=(kS n) _ _ h1;have h2:f_ enc Try.prog w 0 spare true n 3 ((cs.drop 2).take (Try.prog.cellsOf 3))=xs[2]? :=hf 2 _ rfl;rw[gq,a_ (by rw[hxl];decide)]at h2;obtain⟨y2,hy2,hw2⟩:=(kS n) _ _ h2;have h3:f_ enc Try.prog w 0 spare true n 9 ((cs.drop 3).take (Try.prog.cellsOf 9))=xs[3]? :=hf 3 _ rfl;rw[qW,a_ (by rw[hxl];decide)]at h3;obtain⟨y3,hy3,hw3⟩:=(Eh n) _ _ h3;have h4:f_ enc Try.prog w 0 spare true n 34 ((cs.drop 4).take (Try.prog.cellsOf 34))=xs[4]? :=hf 4 _ rfl;rw[Ci,a_ (by rw[hxl];decide)]at h4;obtain⟨y4,hy4,hw4⟩:=(nC (f:=GVal.toD) Try.underlying34 pY (fun y=>y.sz_eq) (by omega) n (fun q hq=>IH q (by omega))) _ _ h4;have h5:f_ enc Try.prog w 0 spare true n 38 ((cs.drop 5).take (Try.prog.cellsOf 38))=xs[5]? :=hf 5 _ rfl;rw[ES,a_ (by rw[hxl];decide)]at h5;obtain⟨y5,hy5,hw5⟩:=(Rt n) _ _ h5;have h6:f_ enc Try.prog w 0 spare true n 79 ((cs.drop 6).take (Try.prog.cellsOf 79))=xs[6]? :=hf 6 _ rfl;rw[Cj,a_ (by rw[hxl];decide)]at h6;obtain⟨y6,hy6,hw6⟩:=(OA n) _ _ h6;have hsegs:kH w cs 0 [li y0,li y1,li y2,ls y3,.sl (y4.map GVal.toD),.sl (y5.map ls),.sl (y6.map GRow.toD)]:=(kH.cons (s:=1) rfl hy0 (kH.cons (s:=1) rfl hy1 (kH.cons (s:=1) rfl hy2 (kH.cons (s:=1) rfl hy3 (kH.cons (s:=1) rfl hy4 (kH.cons (s:=1) rfl hy5 (kH.cons (s:=1) rfl hy6 trivial)))))))
 obtain⟨fp,hr⟩:=hsegs.rs _ 0 (by have:=(GVal.mk y0 y1 y2 y3 y4 y5 y6).sz_eq;rw[GVal.aj]at this;rw[hlen,q_];exact this.symm);refine⟨GVal.mk y0 y1 y2 y3 y4 y5 y6,⟨fp, ?_⟩, ?_⟩
 ·rw[GVal.aj,dK];exact hr
 ·rw[GVal.aj];exact⟨hw0,hw1,hw2,hw3,hw4,hw5,hw6,trivial⟩
theorem Rw(fuel:Nat):Rdg enc Try.prog w spare GVal.toD 81 fuel:=by
 induction fuel using a_h with
 |ind n ih=>exact I5 n ih
theorem sU :Try.prog.cellsOf 101=11:=by kernel_rfl
theorem OC(fuel:Nat):Rdg enc Try.prog w spare GRead.toD 101 fuel:=fun cs x h=>by
 obtain⟨xs,n,rfl,_,hlen,hxl,hf⟩:=A_ Try.underlying101 h;rw[sU]at hlen;have h0:f_ enc Try.prog w 0 spare true n 3 ((cs.drop 0).take (Try.prog.cellsOf 3))=xs[0]? :=hf 0 _ rfl;rw[gq,a_ (by rw[hxl];decide)]at h0;obtain⟨y0,hy0,hw0⟩:=(kS n) _ _ h0;have h1:f_ enc Try.prog w 0 spare true n 3 ((cs.drop 1).take (Try.prog.cellsOf 3))=xs[1]? :=hf 1 _ rfl;rw[gq,a_ (by rw[hxl];decide)]at h1;obtain⟨y1,hy1,hw1⟩:=(kS n) _ _ h1;have h2:f_ enc Try.prog w 0 spare true n 3 ((cs.drop 2).take (Try.prog.cellsOf 3))=xs[2]? :=hf 2 _ rfl;rw[gq,a_ (by rw[hxl];decide)]at h2;obtain⟨y2,hy2,hw2⟩:=(kS n) _ _ h2;have h3:f_ enc Try.prog w 0 spare true n 9 ((cs.drop 3).take (Try.prog.cellsOf 9))=xs[3]? :=hf 3 _ rfl;rw[qW,a_ (by rw[hxl];decide)]at h3;obtain⟨y3,hy3,hw3⟩:=(Eh n) _ _ h3;have h4:f_ enc Try.prog w 0 spare true n 81 ((cs.drop 4).take (Try.prog.cellsOf 81))=xs[4]? :=hf 4 _ rfl;rw[pY,a_ (by rw[hxl];decide)]at h4;obtain⟨y4,hy4,hw4⟩:=(Rw n) _ _ h4;have hsegs:kH w cs 0 [li y0,li y1,li y2,ls y3,GVal.toD y4]:=(kH.cons (s:=1) rfl hy0 (kH.cons (s:=1) rfl hy1 (kH.cons (s:=1) rfl hy2 (kH.cons (s:=1) rfl hy3 (kH.cons (s:=7) (y4.sz_eq) hy4 trivial)))))
 obtain⟨fp,hr⟩:=hsegs.rs _ 0 (by have:=(GRead.mk y0 y1 y2 y3 y4).sz_eq;rw[GRead.aj]at this;rw[hlen,q_];exact this.symm);refine⟨GRead.mk y0 y1 y2 y3 y4,⟨fp, ?_⟩, ?_⟩
 ·rw[GRead.aj,dK];exact hr
 ·rw[GRead.aj];exact⟨hw0,hw1,hw2,hw3,hw4,trivial⟩
theorem C9(fuel:Nat):Rdg enc Try.prog w spare (fun l:List GRead=> .sl (l.map GRead.toD)) 53 fuel:=nC Try.underlying53 sU (fun y=>y.sz_eq) (by omega) fuel fun n _=>OC n
theorem AX :Try.prog.cellsOf 53=1:=by kernel_rfl
theorem sQ :Try.prog.cellsOf 62=3:=by kernel_rfl
theorem OB(fuel:Nat):Rdg enc Try.prog w spare GTape.toD 62 fuel:=fun cs x h=>by
 obtain⟨xs,n,rfl,_,hlen,hxl,hf⟩:=A_ Try.underlying62 h;rw[sQ]at hlen;have h0:f_ enc Try.prog w 0 spare true n 3 ((cs.drop 0).take (Try.prog.cellsOf 3))=xs[0]? :=hf 0 _ rfl;rw[gq,a_ (by rw[hxl];decide)]at h0;obtain⟨y0,hy0,hw0⟩:=(kS n) _ _ h0;have h1:f_ enc Try.prog w 0 spare true n 3 ((cs.drop 1).take (Try.prog.cellsOf 3))=xs[1]? :=hf 1 _ rfl;rw[gq,a_ (by rw[hxl];decide)]at h1;obtain⟨y1,hy1,hw1⟩:=(kS n) _ _ h1;have h2:f_ enc Try.prog w 0 spare true n 53 ((cs.drop 2).take (Try.prog.cellsOf 53))=xs[2]? :=hf 2 _ rfl;rw[AX,a_ (by rw[hxl];decide)]at h2;obtain⟨y2,hy2,hw2⟩:=(C9 n) _ _ h2;have hsegs:kH w cs 0 [li y0,li y1,.sl (y2.map GRead.toD)]:=(kH.cons (s:=1) rfl hy0 (kH.cons (s:=1) rfl hy1 (kH.cons (s:=1) rfl hy2 trivial)))
 obtain⟨fp,hr⟩:=hsegs.rs _ 0 (by have:=(GTape.mk y0 y1 y2).sz_eq;rw[GTape.aj]at this;rw[hlen,q_];exact this.symm);refine⟨GTape.mk y0 y1 y2,⟨fp, ?_⟩, ?_⟩
 ·rw[GTape.aj,dK];exact hr
 ·rw[GTape.aj];exact⟨hw0,hw1,hw2,trivial⟩
theorem CZ(fuel:Nat):Rdg enc Try.prog w spare (fun l:List GTape=> .sl (l.map GTape.toD)) 22 fuel:=nC Try.underlying22 sQ (fun y=>y.sz_eq) (by omega) fuel fun n _=>OB n
end
end
section
open List renaming getElem?_eq_getElem→a_,mem_map→b_,cons_append→c_,nil_append→d_,getElem?_append_right→e_,getElem?_append_left→h_,mem_append→i_,length_take→j_,take_append_drop→k_,append_nil→m_,take_succ_eq_append_getElem→n_,getElem?_eq_some_iff→o_,length_cons→r_,mem_cons→t_,drop_eq_getElem_cons→u_,nodup_append→z_,mem_of_mem_take→B_,length_append→H_,length_set→N_,nodup_cons→R_,drop_eq_nil_of_le→U_,singleton_append→W_,sizeOf_lt_of_mem→X_,append_assoc→a_c,length_map→a_g
open DataW renaming trod→f_,trod_struct→A_,trod_int→a_i,TrodAll→a_m,Trod→a_q
open Nat renaming lt_of_lt_of_le→g_,le_refl→p_,zero_add→q_,le_trans→s_,min_eq_left→F_,lt_or_ge→J_,add_zero→Q_,add_assoc→Y_,sub_self→a_b,strongRecOn→a_h,lt_irrefl→a_n,zero_mul→a_o
open Below renaming heap_setCell→l_,heap_alloc→C_,refl→O_
open Value renaming oneCell'→v_,ownBlock→K_,okWide→a_a
open Or renaming inr→w_,inl→I_
open List.cons renaming injEq→x_
open Value.slice renaming injEq→y_
open World renaming setCell→D_,cell?_of_block→M_,cell?_setCell_other→P_,frozen?_of_block→S_,cell? →T_,cells?_some→a_d,frozen? →a_k
open SizeOf renaming sizeOf→E_
open Builtin renaming append_→G_,firstCells→Z_,lenOf→a_l
open UInt8 renaming ofNat→L_
def Qj :EK Try.prog where
 t:=108
 e:=3
 s:=1
 ht:=Try.underlying108
 info:=Lc (by kernel_rfl)
 h0:=by omega
def xu :EK Try.prog where
 t:=109
 e:=126
 s:=2
 ht:=Try.underlying109
 info:=Lc (by kernel_rfl)
 h0:=by omega
theorem GOrigin.one_(x:GOrigin):x.toD.one:=by
 rw[GOrigin.aj];simp[D.one,D.ones,li,ls,v_]
theorem GOrigin.sJ{l:List GOrigin}:∀d∈l.map GOrigin.toD,d.one:=fun d h=>by obtain⟨x,_,rfl⟩:=b_.1 h;exact x.one_
theorem GRow.one_(x:GRow):x.toD.one:=by
 rw[GRow.aj];simp[D.one,D.ones,li,ls,v_]
theorem GRow.sJ{l:List GRow}:∀d∈l.map GRow.toD,d.one:=fun d h=>by obtain⟨x,_,rfl⟩:=b_.1 h;exact x.one_
theorem GVal.one_(x:GVal):x.toD.one:=by
 rw[GVal.aj];simp[D.one,D.ones,li,ls,v_]
theorem GVal.sJ{l:List GVal}:∀d∈l.map GVal.toD,d.one:=fun d h=>by obtain⟨x,_,rfl⟩:=b_.1 h;exact x.one_
theorem GExpr.one_(x:GExpr):x.toD.one:=by
 rw[GExpr.aj];simp[D.one,D.ones,li,ls,v_]
theorem GExpr.sJ{l:List GExpr}:∀d∈l.map GExpr.toD,d.one:=fun d h=>by obtain⟨x,_,rfl⟩:=b_.1 h;exact x.one_
theorem GPart.one_(x:GPart):x.toD.one:=by
 rw[GPart.aj];simp[D.one,D.ones,li,ls,v_,GExpr.aj,GVal.aj]
theorem GPart.sJ{l:List GPart}:∀d∈l.map GPart.toD,d.one:=fun d h=>by obtain⟨x,_,rfl⟩:=b_.1 h;exact x.one_
theorem GRead.one_(x:GRead):x.toD.one:=by
 rw[GRead.aj];simp[D.one,D.ones,li,ls,v_,GVal.aj]
theorem GRead.sJ{l:List GRead}:∀d∈l.map GRead.toD,d.one:=fun d h=>by obtain⟨x,_,rfl⟩:=b_.1 h;exact x.one_
theorem GTape.one_(x:GTape):x.toD.one:=by
 rw[GTape.aj];simp[D.one,D.ones,li,ls,v_]
theorem GTape.sJ{l:List GTape}:∀d∈l.map GTape.toD,d.one:=fun d h=>by obtain⟨x,_,rfl⟩:=b_.1 h;exact x.one_
end
end Go.Proofs.Ytagaefgglphkgaa
