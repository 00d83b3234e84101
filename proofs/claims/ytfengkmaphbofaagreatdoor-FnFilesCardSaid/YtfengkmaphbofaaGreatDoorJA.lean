/-
  Texts joined: Lib Types App Fin Mark Mk Own Read Kinds Names.
-/
import Derived.WalkKit
import Derived.WalkSpells
import Derived.WalkLawsBesides
import Derived.ProofKit
import Derived.OpenShut
import Derived.Below
import Derived.Carry
import Derived.Outline
import Derived.Lib.Hide
import Derived.Laws.OwnMore
import Derived.Laws.MakeOwn
import Derived.Maps.AppendAt
import Derived.Deep.AppendLies
import Derived.Deep.RegionHeld3
import Derived.Deep.DeepCutAuto
import Derived.Deep.DeepFit
import Derived.Deep.QuietTactic
import Derived.Deep.Slices
import Derived.BigQuiet
import Derived.RegionTactic
import Derived.OwnWalk
import Derived.Test.YtfengkmaphbofaaGreatDoorRows
import Derived.ChangeSame
import Derived.Test.YtfengkmaphbofaaGreatDoorProg
import Derived.Laws.IdiomStrings
import Derived.Laws.Concat
import Derived.KernelRfl
set_option maxHeartbeats 1000000
set_option linter.unusedSimpArgs false
set_option linter.unusedVariables false
namespace Go.Proofs.YtfengkmaphbofaaGreatDoor
open Go.RowKit
section
open List renaming mem_map→a_,cons_append→c_,nil_append→d_,getElem?_eq_getElem→e_,append_nil→f_,getElem?_eq_some_iff→h_,take_append_drop→j_,getElem?_append_right→k_,mem_cons→m_,getElem?_append_left→p_,mem_append→y_,length_take→A_,singleton_append→F_,sizeOf_lt_of_mem→G_,mem_of_mem_take→H_,mem_iff_getElem→I_,all_eq_false→K_,length_cons→L_,all_eq_true→N_,nodup_cons→P_,length_map→Q_,mem_range→S_
open Lib renaming hid→b_
open Nat renaming lt_of_lt_of_le→g_,le_refl→o_,le_trans→r_,lt_or_ge→B_,zero_add→C_,zero_le→E_,min_eq_left→O_,add_assoc→T_,add_zero→Y_,zero_mul→Z_
open Below renaming heap_setCell→i_,heap_alloc→M_,refl→R_
open Or renaming inr→l_,inl→x_
open SizeOf renaming sizeOf→n_
open List.cons renaming injEq→q_
open Value renaming ownBlock→s_,oneCell'→t_,okWide→X_
open Value.slice renaming injEq→u_
open World renaming setCell→v_,cell?_setCell_other→z_,cell? →D_,cells?_some→J_,frozen? →V_
open Ending renaming returned→w_
theorem Zm{a b:Prop}(h:a)(g:b):a∧b:=⟨h,g⟩
theorem fO{k:IntKind}{a b:Int}(h:a=b):w_ (.int k a)= .returned (.int k b):=by rw[h]
theorem fA{a b:Bool}(h:a=b):w_ (.bool a)= .returned (.bool b):=by rw[h]
def At(w:World)(b o:Nat)(cs:List Value):Prop:=∀j u,cs[j]? =some u→w.cell? ⟨b,o+j,none⟩=some u
theorem At.head{w:World}{b o:Nat}{c:Value}{cs:List Value}(h:At w b o (c::cs)):w.cell? ⟨b,o,none⟩=some c:=h 0 c rfl
theorem At.nth{w:World}{b o:Nat}{cs:List Value}(h:At w b o cs)(j:Nat){u:Value}(hj:cs[j]? =some u):w.cell? ⟨b,o+j,none⟩=some u:=h j u hj
theorem At.left{w:World}{b o:Nat}{c1 c2:List Value}(h:At w b o (c1++c2)):At w b o c1:=fun j u hj=>by
 refine h j u ?_;rw[p_]
 ·exact hj
 ·exact(h_.1 hj).1
theorem At.right{w:World}{b o:Nat}{c1 c2:List Value}(h:At w b o (c1++c2)):At w b (o+c1.length) c2:=fun j u hj=>by
 have:=h (c1.length+j) u (by rw[k_ (by omega)];simpa using hj);rwa[← T_]at this
inductive D where
 |leaf (v:Value)
 |sl (l:List D)
 |agg (l:List D)
mutual
def R(w:World):D→List Nat→List Value→Prop
 | .leaf v,fp,cs=>fp= []∧cs= [v]
 | .agg l,fp,cs=>Rs w l fp cs
 | .sl l,fp,cs=>∃A cap,cs= [.slice A l.length cap]∧l.length≤cap∧cap≤maxLen∧((l= []∧fp= [])∨∃b o fp' cs',A=some ⟨b,o,none⟩∧fp=b::fp'∧b<w.heap.size∧Rs w l fp' cs'∧At w b o cs')
def Rs(w:World):List D→List Nat→List Value→Prop
 | [],fp,cs=>fp= []∧cs= []
 |d::l,fp,cs=>∃f1 f2 c1 c2,fp=f1++f2∧cs=c1++c2∧R w d f1 c1∧Rs w l f2 c2
end
mutual
def D.sz :D→Nat
 | .leaf _=>1
 | .sl _=>1
 | .agg l=>D.szs l
def D.szs :List D→Nat
 | []=>0
 |d::l=>d.sz+D.szs l
end
mutual
theorem R.len{w:World}:∀{d:D} {fp:List Nat} {cs:List Value},R w d fp cs→cs.length=d.sz
 | .leaf _,_,_,h=>by rw[h.2];rfl
 | .sl _,_,_,h=>by obtain⟨A,cap,rfl,_⟩:=h;rfl
 | .agg l,_,_,h=>by rw[D.sz];exact Rs.len (l:=l) (by simpa[R]using h)
theorem Rs.len{w:World}:∀{l:List D} {fp:List Nat} {cs:List Value},Rs w l fp cs→cs.length=D.szs l
 | [],_,_,h=>by rw[h.2];rfl
 | d::l,_,_,h=>by
   obtain⟨f1,f2,c1,c2,rfl,rfl,h1,h2⟩:=h;rw[List.length_append,h1.len,Rs.len h2,D.szs]
end
mutual
theorem R.same{w w':World}:∀{d:D} {fp:List Nat} {cs:List Value},R w d fp cs→(∀b∈fp,w'.heap[b]? =w.heap[b]?)→w.heap.size≤w'.heap.size→R w' d fp cs
 | .leaf _,_,_,h,_,_=>h
 | .agg l,fp,cs,h,hs,hz=>by
   rw[R]at h⊢;exact Rs.same h hs hz
 | .sl l,fp,cs,h,hs,hz=>by
   rw[R]at h⊢;obtain⟨A,cap,rfl,h1,h2,h3⟩:=h;refine⟨A,cap,rfl,h1,h2, ?_⟩;rcases h3 with h3|⟨b,o,fp',cs',rfl,rfl,hb,hr,ha⟩
   ·exact x_ h3
   ·refine l_ ⟨b,o,fp',cs',rfl,rfl,by omega,Rs.same hr (fun x hx=>hs x (by simp[hx])) hz,fun j u hj=> ?_⟩;rw[World.cell?_of_block (w:=w) (hs b (by simp))];exact ha j u hj
theorem Rs.same{w w':World}:∀{l:List D} {fp:List Nat} {cs:List Value},Rs w l fp cs→(∀b∈fp,w'.heap[b]? =w.heap[b]?)→w.heap.size≤w'.heap.size→Rs w' l fp cs
 | [],_,_,h,_,_=>h
 | d::l,_,_,h,hs,hz=>by
   obtain⟨f1,f2,c1,c2,rfl,rfl,h1,h2⟩:=h;exact⟨f1,f2,c1,c2,rfl,rfl,h1.same (fun b hb=>hs b (by simp[hb])) hz,Rs.same h2 (fun b hb=>hs b (by simp[hb])) hz⟩
end
mutual
theorem R.lt{w:World}:∀{d:D} {fp:List Nat} {cs:List Value},R w d fp cs→∀b∈fp,b<w.heap.size
 | .leaf _,_,_,h,b,hb=>by rw[h.1]at hb;simp at hb
 | .agg l,fp,cs,h,b,hb=>by
   rw[R]at h;exact Rs.lt h b hb
 | .sl l,fp,cs,h,b,hb=>by
   rw[R]at h;obtain⟨A,cap,rfl,h1,h2,h3⟩:=h;rcases h3 with h3|⟨b',o,fp',cs',rfl,rfl,hb',hr,ha⟩
   ·rw[h3.2]at hb;simp at hb
   ·rcases m_.1 hb with rfl|hb
    ·exact hb'
    ·exact Rs.lt hr b hb
theorem Rs.lt{w:World}:∀{l:List D} {fp:List Nat} {cs:List Value},Rs w l fp cs→∀b∈fp,b<w.heap.size
 | [],_,_,h,b,hb=>by rw[h.1]at hb;simp at hb
 | d::l,_,_,h,b,hb=>by
   obtain⟨f1,f2,c1,c2,rfl,rfl,h1,h2⟩:=h;rcases y_.1 hb with hb|hb
   ·exact h1.lt b hb
   ·exact Rs.lt h2 b hb
end
theorem R.below{w w':World}{d:D}{fp:List Nat}{cs:List Value}(h:R w d fp cs)(hb:Below w.heap.size w w'):R w' d fp cs:=
 h.same (fun b hm=>hb.block b (h.lt b hm)) hb.size
theorem Rs.below{w w':World}{l:List D}{fp:List Nat}{cs:List Value}(h:Rs w l fp cs)(hb:Below w.heap.size w w'):Rs w' l fp cs:=
 h.same (fun b hm=>hb.block b (h.lt b hm)) hb.size
theorem R.grown{w w':World}{row:Option Nat}{d:D}{fp:List Nat}{cs:List Value}(h:R w d fp cs)(hg:w.grownBy w' row)(hn:∀g,row=some g→g∉fp):R w' d fp cs:=
 h.same (fun b hm=>hg.block b (h.lt b hm) (fun e=>hn b e.symm hm)) hg.size
theorem Rs.grown{w w':World}{row:Option Nat}{l:List D}{fp:List Nat}{cs:List Value}(h:Rs w l fp cs)(hg:w.grownBy w' row)(hn:∀g,row=some g→g∉fp):Rs w' l fp cs:=
 h.same (fun b hm=>hg.block b (h.lt b hm) (fun e=>hn b e.symm hm)) hg.size
theorem R.setCell{w:World}{d:D}{fp:List Nat}{cs:List Value}(h:R w d fp cs){p:Addr}(hp:p.block∉fp)(u:Value):R (w.setCell p u) d fp cs:=
 h.same (fun b hm=>i_ _ _ _ _ (fun e=>hp (e▸hm))) (by simp[v_])
theorem Rs.setCell{w:World}{l:List D}{fp:List Nat}{cs:List Value}(h:Rs w l fp cs){p:Addr}(hp:p.block∉fp)(u:Value):Rs (w.setCell p u) l fp cs:=
 h.same (fun b hm=>i_ _ _ _ _ (fun e=>hp (e▸hm))) (by simp[v_])
theorem Rs.append{w:World}{l2:List D}{f2:List Nat}{c2:List Value}(h2:Rs w l2 f2 c2):∀{l1:List D} {f1:List Nat} {c1:List Value},Rs w l1 f1 c1→Rs w (l1++l2) (f1++f2) (c1++c2)
 | [],_,_,h=>by rw[h.1,h.2];exact h2
 | d::l,_,_,h=>by
   obtain⟨g1,g2,e1,e2,rfl,rfl,h1,h3⟩:=h;exact⟨g1,g2++f2,e1,e2++c2,by simp,by simp,h1,Rs.append h2 h3⟩
theorem Rs.split{w:World}{l2:List D}:∀{l1:List D} {f:List Nat} {c:List Value},Rs w (l1++l2) f c→∃f1 f2 c1 c2,f=f1++f2∧c=c1++c2∧Rs w l1 f1 c1∧Rs w l2 f2 c2
 | [],f,c,h=>⟨[],f,[],c,rfl,rfl,⟨rfl,rfl⟩,h⟩
 | d::l,_,_,h=>by
   obtain⟨g1,g2,e1,e2,rfl,rfl,h1,h3⟩:=h;obtain⟨f1,f2,c1,c2,rfl,rfl,h4,h5⟩:=Rs.split (l1:=l) h3;exact⟨g1++f1,f2,e1++c1,c2,by simp,by simp,⟨g1,f1,e1,c1,rfl,rfl,h1,h4⟩,h5⟩
theorem Rs.one{w:World}{d:D}{f:List Nat}{c:List Value}(h:R w d f c):Rs w [d] f c:=⟨f,[],c,[],by simp,by simp,h,rfl,rfl⟩
theorem Rs.Ia{w:World}{d:D}{f:List Nat}{c:List Value}(h:Rs w [d] f c):R w d f c:=by
 obtain⟨f1,f2,c1,c2,rfl,rfl,h1,h2,h3⟩:=h;simpa[h2,h3]using h1
theorem kK{s:Nat}:∀(l:List D),(∀d∈l,d.sz=s)→D.szs l=l.length*s
 | [],_=>by simp[D.szs]
 | d::l,h=>by
   rw[D.szs,kK l (fun x hx=>h x (by simp[hx])),h d (by simp),L_,Nat.add_mul];omega
theorem Rs.get{w:World}{s:Nat}{l:List D}{fp:List Nat}{cs:List Value}(h:Rs w l fp cs)(hs:∀d∈l,d.sz=s){i:Nat}{d:D}(hd:l[i]? =some d):
 ∃fi ci,R w d fi ci∧(∀x∈fi,x∈fp)∧∀j u,ci[j]? =some u→cs[i*s+j]? =some u:=by
 obtain⟨hi,hd'⟩:=h_.1 hd;have e:l=l.take i++(d::l.drop (i+1)):=by rw[← hd',← List.drop_eq_getElem_cons,j_]
 rw[e]at h;obtain⟨f1,f2,c1,c2,rfl,rfl,h1,h2⟩:=Rs.split h;obtain⟨g1,g2,e1,e2,rfl,rfl,h3,h4⟩:=h2;refine⟨g1,e1,h3,fun x hx=>by simp[hx],fun j u hj=> ?_⟩;have hl:c1.length=i*s:=by
  rw[h1.len,kK (s:=s) _ (fun x hx=>hs x (H_ hx)),A_,O_ (by omega)]
 rw[k_ (by omega),hl,show i*s+j - i*s=j by omega,p_]
 ·exact hj
 ·exact(h_.1 hj).1
def Sl(w:World)(l:List D)(fp:List Nat)(v:Value):Prop:=R w (.sl l) fp [v]
theorem Sl.form{w:World}{l:List D}{fp:List Nat}{v:Value}(h:Sl w l fp v):∃A cap,v= .slice A l.length cap∧l.length≤cap∧cap≤maxLen:=by
 unfold Sl at h;rw[R]at h;obtain⟨A,cap,h1,h2,h3,_⟩:=h;simp only[q_,and_true]at h1;exact⟨A,cap,h1,h2,h3⟩
theorem Sl.elem{w:World}{s:Nat}{l:List D}{fp:List Nat}{A:Option Addr}{n cap:Nat}(h:Sl w l fp (.slice A n cap))(hs:∀d∈l,d.sz=s){k:Nat}{d:D}(hd:l[k]? =some d):
 ∃b o fi ci,A=some ⟨b,o,none⟩∧b<w.heap.size∧b∈fp∧R w d fi ci∧(∀x∈fi,x∈fp)∧At w b (o+k*s) ci:=by
 unfold Sl at h;rw[R]at h;obtain⟨A',cap',h1,_,_,h3⟩:=h;simp only[q_,and_true,u_]at h1;obtain⟨rfl,rfl,rfl⟩:=h1;rcases h3 with⟨rfl,_⟩|⟨b,o,fp',cs',rfl,rfl,hb,hr,ha⟩
 ·simp at hd
 ·obtain⟨fi,ci,h4,h5,h6⟩:=hr.get hs hd;exact⟨b,o,fi,ci,rfl,hb,by simp,h4,fun x hx=>by simp[h5 x hx],fun j u hj=>by
   have:=ha _ u (h6 j u hj);rwa[← T_]at this⟩
theorem Sl.below{w w':World}{l:List D}{fp:List Nat}{v:Value}(h:Sl w l fp v)(hb:Below w.heap.size w w'):Sl w' l fp v:=R.below h hb
def jg(w:World)(base:Nat)(fp:List Nat):Prop:=fp.Nodup∧∀b∈fp,base≤b∧∀o,w.frozen? ⟨b,o,none⟩=false
theorem jg.nil{w:World}{base:Nat}:jg w base []:=⟨List.nodup_nil,fun _ h=>by simp at h⟩
theorem jg.same{w w':World}{base:Nat}{fp:List Nat}(h:jg w base fp)(hs:∀b∈fp,w'.heap[b]? =w.heap[b]?):jg w' base fp:=
 ⟨h.1,fun b hb=>⟨(h.2 b hb).1,fun o=>by rw[World.frozen?_of_block (w:=w) (hs b hb)];exact(h.2 b hb).2 o⟩⟩
theorem jg.mono{w:World}{base base':Nat}{fp:List Nat}(h:jg w base fp)(hb:base'≤base):jg w base' fp:=
 ⟨h.1,fun b hm=>⟨r_ hb (h.2 b hm).1,(h.2 b hm).2⟩⟩
theorem Sl.of_own{w:World}{base:Nat}{e:TypeId}{s:Nat}{v:Value}{l:List D}{fp:List Nat}{cs:List Value}(h:w.ownsRow base e s v l.length cs)(hr:Rs w l fp cs):
 Sl w l (v.ownBlock.toList++fp) v:=by
 unfold Sl;rw[R];obtain⟨h1,h2⟩:=h;rcases h2 with⟨rfl,h3⟩|⟨g,cap,cur,rfl,hg,hh,hn,hm,hsz,ht⟩
 ·have hl:l= []:=List.eq_nil_of_length_eq_zero h3;subst hl;exact⟨none,0,by simp,by simp,by simp,x_ ⟨rfl,by simpa[s_]using hr.1⟩⟩
 ·refine⟨some ⟨g,0,none⟩,cap,rfl,hn,hm,l_ ⟨g,0,fp,cs,rfl,by simp[s_], ?_,hr,fun j u hj=> ?_⟩⟩
  ·rcases B_ g w.heap.size with hlt|hge
   ·exact hlt
   ·rw[Array.getElem?_eq_none hge]at hh;cases hh
  ·subst ht;simp only[C_,D_,hh];rw[List.getElem?_take]at hj;split at hj
   ·simpa using hj
   ·cases hj
theorem jg.of_own{w:World}{base:Nat}{e:TypeId}{s n:Nat}{v:Value}{fp:List Nat}{cs:List Value}(h:w.ownsRow base e s v n cs)(hf:jg w base fp)(hn:∀g,v.ownBlock=some g→g∉fp):
 jg w base (v.ownBlock.toList++fp):=by
 obtain⟨h1,h2⟩:=h;rcases h2 with⟨rfl,h3⟩|⟨g,cap,cur,rfl,hg,hh,_⟩
 ·simpa[s_]using hf
 ·refine⟨by simp only[s_,Option.toList,F_,P_];exact⟨hn g rfl,hf.1⟩,fun b hb=> ?_⟩;simp only[s_,Option.toList,F_,m_]at hb;rcases hb with rfl|hb
  ·refine⟨hg,fun o=> ?_⟩;simp only[V_,hh];simp
  ·exact hf.2 b hb
def Yo :Value→Prop
 | .int k n=>(Lit.int k n).wf=true
 | .string s=>s.size≤maxLen
 |_=>True
def nV :Value→Nat
 | .string s=>s.size
 |_=>0
mutual
def D.wf :D→Prop
 | .leaf v=>Yo v
 | .sl l=>D.wfs l
 | .agg l=>D.wfs l
def D.wfs :List D→Prop
 | []=>True
 |d::l=>d.wf∧D.wfs l
end
mutual
def D.wt :D→Nat
 | .leaf v=>nV v
 | .sl l=>l.length+D.wts l
 | .agg l=>D.wts l
def D.wts :List D→Nat
 | []=>0
 |d::l=>d.wt+D.wts l
end
theorem D.wfs_get :∀{l:List D},D.wfs l→∀{d:D},d∈l→d.wf
 | [],_,_,h=>by simp at h
 | x::l,hw,d,h=>by
   rcases m_.1 h with rfl|h
   ·exact hw.1
   ·exact D.wfs_get hw.2 h
def uY(left:Int)(k:Nat)(r:Int):Prop:=(left<k∧r= -1)∨((k:Int)≤left∧r=left - k)
theorem uY.step{a b:Int}{j k:Nat}(h:uY a j b){c:Int}(hb:0≤b)(h':uY b k c):uY a (j+k) c:=by
 unfold uY at*;omega
theorem uY.sub{a:Int}{k:Nat}(h:(k:Int)≤a):uY a k (a - k):=by
 unfold uY;omega
theorem uY.out{a:Int}{k:Nat}(h:a<k):uY a k (-1):=by
 unfold uY;omega
theorem Sl.Ad{α:Type}{f:α→D}{w:World}{l:List α}{fp:List Nat}{v:Value}(h:Sl w (l.map f) fp v):∃A cap,v= .slice A l.length cap∧l.length≤cap∧cap≤maxLen:=by
 obtain⟨A,cap,h1,h2,h3⟩:=h.form;rw[Q_]at h1 h2;exact⟨A,cap,h1,h2,h3⟩
def VQ(d:D)(w:World)(e:Ending)(w':World):Prop:=∃fp cs,e= .returned (.agg cs.toArray)∧R w' d fp cs∧jg w' w.heap.size fp∧Below w.heap.size w w'
def BN(l:List D)(w:World)(e:Ending)(w':World):Prop:=∃fp v,e= .returned v∧Sl w' l fp v∧jg w' w.heap.size fp∧Below w.heap.size w w'
def Row(w:World)(g:Nat)(e:TypeId)(xs:List Value):Prop:=w.heap[g]? =some (.cells xs.toArray e (0,0))
theorem Row.lt{w:World}{g:Nat}{e:TypeId}{xs:List Value}(h:Row w g e xs):g<w.heap.size:=by
 rcases B_ g w.heap.size with hlt|hge
 ·exact hlt
 ·unfold Row at h;rw[Array.getElem?_eq_none hge]at h;cases h
theorem Row.cell{w:World}{g:Nat}{e:TypeId}{xs:List Value}(h:Row w g e xs)(i:Nat):w.cell? ⟨g,i,none⟩=xs[i]? :=by
 unfold Row at h;simp[D_,h]
theorem Row.at_{w:World}{g:Nat}{e:TypeId}{xs:List Value}(h:Row w g e xs){i:Nat}(hi:i<xs.length):w.cell? ⟨g,i,none⟩=some xs[i]:=by
 rw[h.cell,e_ hi]
theorem Row.frozen{w:World}{g:Nat}{e:TypeId}{xs:List Value}(h:Row w g e xs)(i:Nat):w.frozen? ⟨g,i,none⟩=false:=by
 unfold Row at h;simp[V_,h]
theorem Row.set{w:World}{g:Nat}{e:TypeId}{xs:List Value}(h:Row w g e xs)(i:Nat)(u:Value):Row (w.setCell ⟨g,i,none⟩ u) g e (xs.set i u):=by
 unfold Row at h⊢;simp[v_,Array.getElem?_modify,h]
theorem Row.same{w w':World}{g:Nat}{e:TypeId}{xs:List Value}(h:Row w g e xs)(hs:w'.heap[g]? =w.heap[g]?):Row w' g e xs:=hs.trans h
theorem Row.below{w w':World}{g:Nat}{e:TypeId}{xs:List Value}(h:Row w g e xs)(hb:Below w.heap.size w w'):Row w' g e xs:=(hb.block g h.lt).trans h
theorem Row.new(w:World)(e:TypeId)(cs:Array Value):Row (w.alloc (.cells cs e)) w.heap.size e cs.toList:=by
 unfold Row;exact heap_alloc_new w _
theorem Sl.MZ{w:World}{g:Nat}{e:TypeId}{xs:List Value}{l:List D}{fp:List Nat}{n:Nat}(h:Row w g e xs)(hr:Rs w l fp xs)(hn:l.length=n)(hm:n≤maxLen):Sl w l (g::fp) (.slice (some ⟨g,0,none⟩) n n):=by
 subst hn;unfold Sl;rw[R];exact⟨_,_,rfl,o_ _,hm,l_ ⟨g,0,fp,xs,rfl,rfl,h.lt,hr,fun j u hj=>by rw[C_,h.cell,hj]⟩⟩
theorem jg.LM{w:World}{base g:Nat}{e:TypeId}{xs:List Value}{fp:List Nat}(h:Row w g e xs)(hg:base≤g)(hf:jg w (g+1) fp):jg w base (g::fp):=by
 refine⟨P_.2 ⟨fun hm=>by have:=(hf.2 g hm).1;omega,hf.1⟩,fun b hb=> ?_⟩;rcases m_.1 hb with rfl|hb
 ·exact⟨hg,h.frozen⟩
 ·exact⟨by have:=(hf.2 b hb).1;omega,(hf.2 b hb).2⟩
theorem jg.append{w:World}{base mid:Nat}{f1 f2:List Nat}(h1:jg w base f1)(hm:∀b∈f1,b<mid)(h2:jg w mid f2)(hb:base≤mid):jg w base (f1++f2):=by
 refine⟨List.nodup_append.2 ⟨h1.1,h2.1,fun a ha b hb' e=> ?_⟩,fun b hb'=> ?_⟩
 ·have:=hm a ha;have:=(h2.2 b hb').1;omega
 ·rcases y_.1 hb' with h|h
  ·exact h1.2 b h
  ·exact⟨r_ hb (h2.2 b h).1,(h2.2 b h).2⟩
theorem jg.below{w w':World}{base:Nat}{fp:List Nat}(h:jg w base fp)(hl:∀b∈fp,b<w.heap.size)(hb:Below w.heap.size w w'):jg w' base fp:=h.same fun b hm=>hb.block b (hl b hm)
theorem jg.setCell{w:World}{base:Nat}{fp:List Nat}(h:jg w base fp){p:Addr}(hp:p.block∉fp)(u:Value):jg (w.setCell p u) base fp:=
 h.same fun b hm=>i_ _ _ _ _ (fun e=>hp (e▸hm))
structure Kept (lo hi:Nat) (w w':World):Prop where
 os:w'.os=w.os
 tape:w'.tape=w.tape
 output:w'.output=w.output
 size:w.heap.size≤w'.heap.size
 block:∀k,k<w.heap.size→(k<lo∨hi≤k)→w'.heap[k]? =w.heap[k]?
theorem Kept.refl(lo hi:Nat)(w:World):Kept lo hi w w:=⟨rfl,rfl,rfl,o_ _,fun _ _ _=>rfl⟩
theorem Kept.trans{lo hi:Nat}{a b c:World}(h:Kept lo hi a b)(k:Kept lo hi b c):Kept lo hi a c:=
 ⟨k.os.trans h.os,k.tape.trans h.tape,k.output.trans h.output,r_ h.size k.size,fun i hi' ho=>(k.block i (g_ hi' h.size) ho).trans (h.block i hi' ho)⟩
theorem Kept.below{lo hi:Nat}{a b c:World}(h:Kept lo hi a b)(k:Below b.heap.size b c):Kept lo hi a c:=
 h.trans ⟨k.os,k.tape,k.output,k.size,fun i hi' _=>k.block i hi'⟩
theorem Kept.setCell{lo hi:Nat}{a b:World}(h:Kept lo hi a b){p:Addr}(h1:lo≤p.block)(h2:p.block<hi)(u:Value):Kept lo hi a (b.setCell p u):=
 h.trans ⟨rfl,rfl,rfl,by simp[v_],fun i hi' ho=>i_ _ _ _ _ (by omega)⟩
theorem Kept.alloc{lo hi:Nat}{a b:World}(h:Kept lo hi a b)(o:Obj):Kept lo hi a (b.alloc o):=
 h.trans ⟨rfl,rfl,rfl,by simp,fun i hi' _=>M_ _ _ _ hi'⟩
theorem Kept.drew{lo hi:Nat}{a b:World}(h:Kept lo hi a b):Kept lo hi a b.drew:=h.trans ⟨rfl,rfl,rfl,o_ _,fun _ _ _=>rfl⟩
theorem Kept.toBelow{lo hi B:Nat}{a b c:World}(h:Below B a b)(k:Kept lo hi b c)(hB:B≤lo)(hs:B≤b.heap.size):Below B a c:=
 h.trans ⟨k.os,k.tape,k.output,k.size,fun i hi'=>k.block i (by omega) (by omega)⟩
theorem R.kept{lo hi:Nat}{w w':World}{d:D}{fp:List Nat}{cs:List Value}(h:R w d fp cs)(hk:Kept lo hi w w')(ho:∀b∈fp,b<lo∨hi≤b):R w' d fp cs:=
 h.same (fun b hm=>hk.block b (h.lt b hm) (ho b hm)) hk.size
theorem Sl.kept{lo hi:Nat}{w w':World}{l:List D}{fp:List Nat}{v:Value}(h:Sl w l fp v)(hk:Kept lo hi w w')(ho:∀b∈fp,b<lo∨hi≤b):Sl w' l fp v:=R.kept h hk ho
theorem jg.kept{lo hi base:Nat}{w w':World}{fp:List Nat}(h:jg w base fp)(hl:∀b∈fp,b<w.heap.size)(hk:Kept lo hi w w')(ho:∀b∈fp,b<lo∨hi≤b):jg w' base fp:=
 h.same fun b hm=>hk.block b (hl b hm) (ho b hm)
theorem VQ.fin{lo hi:Nat}{d:D}{w b c:World}{fp:List Nat}{cs:List Value}(hK:Kept lo hi b c)(hr:R b d fp cs)(hf:jg b w.heap.size fp)(ho:∀x∈fp,x<lo∨hi≤x)(hb:Below w.heap.size w b)(hlo:w.heap.size≤lo):
 VQ d w (.returned (.agg cs.toArray)) c:=
 ⟨fp,cs,rfl,hr.kept hK ho,hf.kept hr.lt hK ho,Kept.toBelow hb hK hlo hb.size⟩
def VP(w:World)(e:Ending)(w':World):Prop:=e= .returned (.bool true)∧Below w.heap.size w w'
theorem YN{w w1:World}{a b:Array Value}{ta tb:TypeId}(h:Below ((w.alloc (.cells a ta)).alloc (.cells b tb)).heap.size ((w.alloc (.cells a ta)).alloc (.cells b tb)) w1):
 Row w1 w.heap.size ta a.toList∧Row w1 (w.heap.size+1) tb b.toList∧w.heap.size+2≤w1.heap.size∧Below w.heap.size w w1:=by
 have e1:(w.alloc (.cells a ta)).heap.size=w.heap.size+1:=by simp
 have e2:((w.alloc (.cells a ta)).alloc (.cells b tb)).heap.size=w.heap.size+2:=by simp
 have r0:=Row.new w ta a;have r1:=Row.new (w.alloc (.cells a ta)) tb b;rw[e1]at r1;refine⟨?_,r1.below h,by have:=h.size;omega, ?_⟩
 ·exact Row.below (Row.same r0 (M_ _ _ _ (by omega))) h
 ·exact(((R_ _ _).alloc (o_ _) _).alloc (by omega) _).trans (h.mono (by omega))
theorem zM{w w1:World}{a:Array Value}{ta:TypeId}(h:Below (w.alloc (.cells a ta)).heap.size (w.alloc (.cells a ta)) w1):
 Row w1 w.heap.size ta a.toList∧w.heap.size+1≤w1.heap.size∧Below w.heap.size w w1:=by
 have e1:(w.alloc (.cells a ta)).heap.size=w.heap.size+1:=by simp
 exact⟨(Row.new w ta a).below h,by have:=h.size;omega,((R_ _ _).alloc (o_ _) _).trans (h.mono (by omega))⟩
theorem uV{B:Nat}{a w:World}(h:Below B a w)(n:Nat):Below B a (w.drewN n):=⟨h.os,h.tape,h.output,h.size,h.block⟩
def li(n:Int):D:= .leaf (.int .i64 n)
def ls(s:ByteArray):D:= .leaf (.string s)
theorem Yn{l:List ByteArray}:∀d∈l.map ls,d.sz=1:=fun d h=>by obtain⟨_,_,rfl⟩:=a_.1 h;rfl
section
variable{w:World}{fp:List Nat}{cs:List Value}{l l':List D}
theorem oO :R w (.agg l) fp cs=Rs w l fp cs:=by rw[R]
theorem o7 :Rs w [] fp cs=(fp= []∧cs= []):=by rw[Rs]
theorem lH{v:Value}:Rs w (.leaf v::l) fp cs↔∃c,cs=v::c∧Rs w l fp c:=by
 rw[Rs];constructor
 ·rintro⟨f1,f2,c1,c2,rfl,rfl,⟨rfl,rfl⟩,h⟩;exact⟨c2,rfl,h⟩
 ·rintro⟨c,rfl,h⟩;exact⟨[],fp,[v],c,rfl,rfl,⟨rfl,rfl⟩,h⟩
theorem tN :Rs w (.sl l'::l) fp cs↔∃v c f1 f2,fp=f1++f2∧cs=v::c∧Sl w l' f1 v∧Rs w l f2 c:=by
 rw[Rs];constructor
 ·rintro⟨f1,f2,c1,c2,rfl,rfl,h1,h2⟩;have h:=h1;rw[R]at h;obtain⟨A,cap,rfl,_⟩:=h;exact⟨_,c2,f1,f2,rfl,rfl,h1,h2⟩
 ·rintro⟨v,c,f1,f2,rfl,rfl,h1,h2⟩;exact⟨f1,f2,[v],c,rfl,rfl,h1,h2⟩
theorem o8 :Rs w (.agg l'::l) fp cs↔Rs w (l'++l) fp cs:=by
 constructor
 ·intro h;rw[Rs]at h;obtain⟨f1,f2,c1,c2,rfl,rfl,h1,h2⟩:=h;rw[oO]at h1;exact Rs.append h2 h1
 ·intro h;obtain⟨f1,f2,c1,c2,rfl,rfl,h1,h2⟩:=Rs.split h;rw[Rs];exact⟨f1,f2,c1,c2,rfl,rfl,by rw[oO];exact h1,h2⟩
end
structure GOrigin where
 cell:Int
 row:Int
def GOrigin.toD(x:GOrigin):D:= .agg [li x.cell,li x.row]
theorem GOrigin.bQ(x:GOrigin):x.toD= .agg [li x.cell,li x.row]:=rfl
theorem GOrigin.gU(x:GOrigin):x.toD.sz=2:=by simp[GOrigin.bQ,D.sz,D.szs,li,ls]
theorem GOrigin.szs{l:List GOrigin}:∀d∈l.map GOrigin.toD,d.sz=2:=fun d h=>by obtain⟨x,_,rfl⟩:=a_.1 h;exact x.gU
theorem GOrigin.opened{w:World}{fp:List Nat}{cs:List Value}{x:GOrigin}:R w x.toD fp cs↔fp= []∧cs= [.int .i64 x.cell,.int .i64 x.row]:=by
 rw[GOrigin.bQ,oO];simp only[o8,c_,d_,li,ls,lH,tN,o7];constructor
 ·rintro⟨_,rfl,⟨_,rfl,⟨rfl,rfl⟩⟩⟩;exact⟨rfl,rfl⟩
 ·rintro⟨rfl,rfl⟩;exact⟨_,rfl,⟨_,rfl,⟨rfl,rfl⟩⟩⟩
structure GRow where
 cells:List Int
 src:List GOrigin
def GRow.toD(x:GRow):D:= .agg [.sl (x.cells.map li),.sl (x.src.map GOrigin.toD)]
theorem GRow.bQ(x:GRow):x.toD= .agg [.sl (x.cells.map li),.sl (x.src.map GOrigin.toD)]:=rfl
theorem GRow.gU(x:GRow):x.toD.sz=2:=by simp[GRow.bQ,D.sz,D.szs,li,ls]
theorem GRow.szs{l:List GRow}:∀d∈l.map GRow.toD,d.sz=2:=fun d h=>by obtain⟨x,_,rfl⟩:=a_.1 h;exact x.gU
theorem GRow.opened{w:World}{fp:List Nat}{cs:List Value}{x:GRow}:R w x.toD fp cs↔∃v0 v1 f0 f1,fp=f0++f1∧cs= [v0,v1]∧Sl w (x.cells.map li) f0 v0∧Sl w (x.src.map GOrigin.toD) f1 v1:=by
 rw[GRow.bQ,oO];simp only[o8,c_,d_,li,ls,lH,tN,o7];constructor
 ·rintro⟨_,_,_,_,rfl,rfl,h0,⟨_,_,_,_,rfl,rfl,h1,⟨rfl,rfl⟩⟩⟩;exact⟨_,_,_,_,by simp,rfl,h0,h1⟩
 ·rintro⟨v0,v1,f0,f1,rfl,rfl,h0,h1⟩;exact⟨_,_,_,_,rfl,rfl,h0,⟨_,_,_,_,(f_ _).symm,rfl,h1,⟨rfl,rfl⟩⟩⟩
inductive GVal where
 |mk (kind:Int) (n:Int) (step:Int) (text:ByteArray) (list:List GVal) (cols:List ByteArray) (rows:List GRow)
def GVal.kind :GVal→Int| .mk kind _ _ _ _ _ _=>kind
def GVal.n :GVal→Int| .mk _ n _ _ _ _ _=>n
def GVal.step :GVal→Int| .mk _ _ step _ _ _ _=>step
def GVal.text :GVal→ByteArray| .mk _ _ _ text _ _ _=>text
def GVal.list :GVal→List GVal| .mk _ _ _ _ list _ _=>list
def GVal.cols :GVal→List ByteArray| .mk _ _ _ _ _ cols _=>cols
def GVal.rows :GVal→List GRow| .mk _ _ _ _ _ _ rows=>rows
mutual
def GVal.toD :GVal→D
 | .mk kind n step text list cols rows=> .agg [li kind,li n,li step,ls text,.sl (GVal.He list),.sl (cols.map ls),.sl (rows.map GRow.toD)]
def GVal.He :List GVal→List D
 | []=> []
 |x::l=>x.toD::GVal.He l
end
theorem GVal.G9(l:List GVal):GVal.He l=l.map GVal.toD:=by
 induction l with
 |nil=>rfl
 |cons x l ih=>rw[GVal.He,ih];rfl
theorem GVal.lt_of_mem{x y:GVal}(h:y∈x.list):n_ y<n_ x:=by
 cases x with
 | mk kind n step text list cols rows=>
   have:=G_ h;simp only[GVal.list]at this;simp only[GVal.mk.sizeOf_spec];omega
theorem GVal.bQ(x:GVal):x.toD= .agg [li x.kind,li x.n,li x.step,ls x.text,.sl (x.list.map GVal.toD),.sl (x.cols.map ls),.sl (x.rows.map GRow.toD)]:=by
 cases x with
 |mk kind n step text list cols rows=>rw[GVal.toD,GVal.G9];rfl
theorem GVal.gU(x:GVal):x.toD.sz=7:=by simp[GVal.bQ,D.sz,D.szs,li,ls]
theorem GVal.szs{l:List GVal}:∀d∈l.map GVal.toD,d.sz=7:=fun d h=>by obtain⟨x,_,rfl⟩:=a_.1 h;exact x.gU
theorem GVal.opened{w:World}{fp:List Nat}{cs:List Value}{x:GVal}:R w x.toD fp cs↔∃v0 v1 v2 f0 f1 f2,fp=f0++(f1++f2)∧cs= [.int .i64 x.kind,.int .i64 x.n,.int .i64 x.step,.string x.text,v0,v1,v2]∧Sl w (x.list.map GVal.toD) f0 v0∧Sl w (x.cols.map ls) f1 v1∧Sl w (x.rows.map GRow.toD) f2 v2:=by
 rw[GVal.bQ,oO];simp only[o8,c_,d_,li,ls,lH,tN,o7];constructor
 ·rintro⟨_,rfl,⟨_,rfl,⟨_,rfl,⟨_,rfl,⟨_,_,_,_,rfl,rfl,h0,⟨_,_,_,_,rfl,rfl,h1,⟨_,_,_,_,rfl,rfl,h2,⟨rfl,rfl⟩⟩⟩⟩⟩⟩⟩⟩;exact⟨_,_,_,_,_,_,by simp,rfl,h0,h1,h2⟩
 ·rintro⟨v0,v1,v2,f0,f1,f2,rfl,rfl,h0,h1,h2⟩;exact⟨_,rfl,⟨_,rfl,⟨_,rfl,⟨_,rfl,⟨_,_,_,_,rfl,rfl,h0,⟨_,_,_,_,rfl,rfl,h1,⟨_,_,_,_,(f_ _).symm,rfl,h2,⟨rfl,rfl⟩⟩⟩⟩⟩⟩⟩⟩
structure GTok where
 kind:Int
 n:Int
 pos:Int
 text:ByteArray
def GTok.toD(x:GTok):D:= .agg [li x.kind,li x.n,li x.pos,ls x.text]
theorem GTok.bQ(x:GTok):x.toD= .agg [li x.kind,li x.n,li x.pos,ls x.text]:=rfl
theorem GTok.gU(x:GTok):x.toD.sz=4:=by simp[GTok.bQ,D.sz,D.szs,li,ls]
theorem GTok.szs{l:List GTok}:∀d∈l.map GTok.toD,d.sz=4:=fun d h=>by obtain⟨x,_,rfl⟩:=a_.1 h;exact x.gU
theorem GTok.opened{w:World}{fp:List Nat}{cs:List Value}{x:GTok}:R w x.toD fp cs↔fp= []∧cs= [.int .i64 x.kind,.int .i64 x.n,.int .i64 x.pos,.string x.text]:=by
 rw[GTok.bQ,oO];simp only[o8,c_,d_,li,ls,lH,tN,o7];constructor
 ·rintro⟨_,rfl,⟨_,rfl,⟨_,rfl,⟨_,rfl,⟨rfl,rfl⟩⟩⟩⟩⟩;exact⟨rfl,rfl⟩
 ·rintro⟨rfl,rfl⟩;exact⟨_,rfl,⟨_,rfl,⟨_,rfl,⟨_,rfl,⟨rfl,rfl⟩⟩⟩⟩⟩
inductive GExpr where
 |mk (kind:Int) (n:Int) (text:ByteArray) (args:List GExpr)
def GExpr.kind :GExpr→Int| .mk kind _ _ _=>kind
def GExpr.n :GExpr→Int| .mk _ n _ _=>n
def GExpr.text :GExpr→ByteArray| .mk _ _ text _=>text
def GExpr.args :GExpr→List GExpr| .mk _ _ _ args=>args
mutual
def GExpr.toD :GExpr→D
 | .mk kind n text args=> .agg [li kind,li n,ls text,.sl (GExpr.He args)]
def GExpr.He :List GExpr→List D
 | []=> []
 |x::l=>x.toD::GExpr.He l
end
theorem GExpr.G9(l:List GExpr):GExpr.He l=l.map GExpr.toD:=by
 induction l with
 |nil=>rfl
 |cons x l ih=>rw[GExpr.He,ih];rfl
theorem GExpr.lt_of_mem{x y:GExpr}(h:y∈x.args):n_ y<n_ x:=by
 cases x with
 | mk kind n text args=>
   have:=G_ h;simp only[GExpr.args]at this;simp only[GExpr.mk.sizeOf_spec];omega
theorem GExpr.bQ(x:GExpr):x.toD= .agg [li x.kind,li x.n,ls x.text,.sl (x.args.map GExpr.toD)]:=by
 cases x with
 |mk kind n text args=>rw[GExpr.toD,GExpr.G9];rfl
theorem GExpr.gU(x:GExpr):x.toD.sz=4:=by simp[GExpr.bQ,D.sz,D.szs,li,ls]
theorem GExpr.szs{l:List GExpr}:∀d∈l.map GExpr.toD,d.sz=4:=fun d h=>by obtain⟨x,_,rfl⟩:=a_.1 h;exact x.gU
theorem GExpr.opened{w:World}{fp:List Nat}{cs:List Value}{x:GExpr}:R w x.toD fp cs↔∃v0 f0,fp=f0∧cs= [.int .i64 x.kind,.int .i64 x.n,.string x.text,v0]∧Sl w (x.args.map GExpr.toD) f0 v0:=by
 rw[GExpr.bQ,oO];simp only[o8,c_,d_,li,ls,lH,tN,o7];constructor
 ·rintro⟨_,rfl,⟨_,rfl,⟨_,rfl,⟨_,_,_,_,rfl,rfl,h0,⟨rfl,rfl⟩⟩⟩⟩⟩;exact⟨_,_,by simp,rfl,h0⟩
 ·rintro⟨v0,f0,rfl,rfl,h0⟩;exact⟨_,rfl,⟨_,rfl,⟨_,rfl,⟨_,_,_,_,(f_ _).symm,rfl,h0,⟨rfl,rfl⟩⟩⟩⟩⟩
structure GCell where
 id:Int
 ver:Int
 kind:Int
 name:ByteArray
 code:ByteArray
 n:Int
def GCell.toD(x:GCell):D:= .agg [li x.id,li x.ver,li x.kind,ls x.name,ls x.code,li x.n]
theorem GCell.bQ(x:GCell):x.toD= .agg [li x.id,li x.ver,li x.kind,ls x.name,ls x.code,li x.n]:=rfl
theorem GCell.gU(x:GCell):x.toD.sz=6:=by simp[GCell.bQ,D.sz,D.szs,li,ls]
theorem GCell.szs{l:List GCell}:∀d∈l.map GCell.toD,d.sz=6:=fun d h=>by obtain⟨x,_,rfl⟩:=a_.1 h;exact x.gU
theorem GCell.opened{w:World}{fp:List Nat}{cs:List Value}{x:GCell}:R w x.toD fp cs↔fp= []∧cs= [.int .i64 x.id,.int .i64 x.ver,.int .i64 x.kind,.string x.name,.string x.code,.int .i64 x.n]:=by
 rw[GCell.bQ,oO];simp only[o8,c_,d_,li,ls,lH,tN,o7];constructor
 ·rintro⟨_,rfl,⟨_,rfl,⟨_,rfl,⟨_,rfl,⟨_,rfl,⟨_,rfl,⟨rfl,rfl⟩⟩⟩⟩⟩⟩⟩;exact⟨rfl,rfl⟩
 ·rintro⟨rfl,rfl⟩;exact⟨_,rfl,⟨_,rfl,⟨_,rfl,⟨_,rfl,⟨_,rfl,⟨_,rfl,⟨rfl,rfl⟩⟩⟩⟩⟩⟩⟩
structure GNb where
 cells:List GCell
def GNb.toD(x:GNb):D:= .agg [.sl (x.cells.map GCell.toD)]
theorem GNb.bQ(x:GNb):x.toD= .agg [.sl (x.cells.map GCell.toD)]:=rfl
theorem GNb.gU(x:GNb):x.toD.sz=1:=by simp[GNb.bQ,D.sz,D.szs,li,ls]
theorem GNb.szs{l:List GNb}:∀d∈l.map GNb.toD,d.sz=1:=fun d h=>by obtain⟨x,_,rfl⟩:=a_.1 h;exact x.gU
theorem GNb.opened{w:World}{fp:List Nat}{cs:List Value}{x:GNb}:R w x.toD fp cs↔∃v0 f0,fp=f0∧cs= [v0]∧Sl w (x.cells.map GCell.toD) f0 v0:=by
 rw[GNb.bQ,oO];simp only[o8,c_,d_,li,ls,lH,tN,o7];constructor
 ·rintro⟨_,_,_,_,rfl,rfl,h0,⟨rfl,rfl⟩⟩;exact⟨_,_,by simp,rfl,h0⟩
 ·rintro⟨v0,f0,rfl,rfl,h0⟩;exact⟨_,_,_,_,(f_ _).symm,rfl,h0,⟨rfl,rfl⟩⟩
structure GPart where
 kind:Int
 name:ByteArray
 expr:GExpr
 value:GVal
 pos:Int
def GPart.toD(x:GPart):D:= .agg [li x.kind,ls x.name,GExpr.toD x.expr,GVal.toD x.value,li x.pos]
theorem GPart.bQ(x:GPart):x.toD= .agg [li x.kind,ls x.name,GExpr.toD x.expr,GVal.toD x.value,li x.pos]:=rfl
theorem GPart.gU(x:GPart):x.toD.sz=14:=by simp[GPart.bQ,GExpr.bQ,GVal.bQ,D.sz,D.szs,li,ls]
theorem GPart.szs{l:List GPart}:∀d∈l.map GPart.toD,d.sz=14:=fun d h=>by obtain⟨x,_,rfl⟩:=a_.1 h;exact x.gU
theorem GPart.opened{w:World}{fp:List Nat}{cs:List Value}{x:GPart}:R w x.toD fp cs↔∃v0 v1 v2 v3 f0 f1 f2 f3,fp=f0++(f1++(f2++f3))∧cs= [.int .i64 x.kind,.string x.name,.int .i64 x.expr.kind,.int .i64 x.expr.n,.string x.expr.text,v0,.int .i64 x.value.kind,.int .i64 x.value.n,.int .i64 x.value.step,.string x.value.text,v1,v2,v3,.int .i64 x.pos]∧Sl w (x.expr.args.map GExpr.toD) f0 v0∧Sl w (x.value.list.map GVal.toD) f1 v1∧Sl w (x.value.cols.map ls) f2 v2∧Sl w (x.value.rows.map GRow.toD) f3 v3:=by
 rw[GPart.bQ,oO];simp only[GExpr.bQ,GVal.bQ,o8,c_,d_,li,ls,lH,tN,o7];constructor
 ·rintro⟨_,rfl,⟨_,rfl,⟨_,rfl,⟨_,rfl,⟨_,rfl,⟨_,_,_,_,rfl,rfl,h0,⟨_,rfl,⟨_,rfl,⟨_,rfl,⟨_,rfl,⟨_,_,_,_,rfl,rfl,h1,⟨_,_,_,_,rfl,rfl,h2,⟨_,_,_,_,rfl,rfl,h3,⟨_,rfl,⟨rfl,rfl⟩⟩⟩⟩⟩⟩⟩⟩⟩⟩⟩⟩⟩⟩⟩;exact⟨_,_,_,_,_,_,_,_,by simp,rfl,h0,h1,h2,h3⟩
 ·rintro⟨v0,v1,v2,v3,f0,f1,f2,f3,rfl,rfl,h0,h1,h2,h3⟩;exact⟨_,rfl,⟨_,rfl,⟨_,rfl,⟨_,rfl,⟨_,rfl,⟨_,_,_,_,rfl,rfl,h0,⟨_,rfl,⟨_,rfl,⟨_,rfl,⟨_,rfl,⟨_,_,_,_,rfl,rfl,h1,⟨_,_,_,_,rfl,rfl,h2,⟨_,_,_,_,(f_ _).symm,rfl,h3,⟨_,rfl,⟨rfl,rfl⟩⟩⟩⟩⟩⟩⟩⟩⟩⟩⟩⟩⟩⟩⟩
structure GEdit where
 kind:Int
 pos:Int
 cell:GCell
def GEdit.toD(x:GEdit):D:= .agg [li x.kind,li x.pos,GCell.toD x.cell]
theorem GEdit.bQ(x:GEdit):x.toD= .agg [li x.kind,li x.pos,GCell.toD x.cell]:=rfl
theorem GEdit.gU(x:GEdit):x.toD.sz=8:=by simp[GEdit.bQ,GCell.bQ,D.sz,D.szs,li,ls]
theorem GEdit.szs{l:List GEdit}:∀d∈l.map GEdit.toD,d.sz=8:=fun d h=>by obtain⟨x,_,rfl⟩:=a_.1 h;exact x.gU
theorem GEdit.opened{w:World}{fp:List Nat}{cs:List Value}{x:GEdit}:R w x.toD fp cs↔fp= []∧cs= [.int .i64 x.kind,.int .i64 x.pos,.int .i64 x.cell.id,.int .i64 x.cell.ver,.int .i64 x.cell.kind,.string x.cell.name,.string x.cell.code,.int .i64 x.cell.n]:=by
 rw[GEdit.bQ,oO];simp only[GCell.bQ,o8,c_,d_,li,ls,lH,tN,o7];constructor
 ·rintro⟨_,rfl,⟨_,rfl,⟨_,rfl,⟨_,rfl,⟨_,rfl,⟨_,rfl,⟨_,rfl,⟨_,rfl,⟨rfl,rfl⟩⟩⟩⟩⟩⟩⟩⟩⟩;exact⟨rfl,rfl⟩
 ·rintro⟨rfl,rfl⟩;exact⟨_,rfl,⟨_,rfl,⟨_,rfl,⟨_,rfl,⟨_,rfl,⟨_,rfl,⟨_,rfl,⟨_,rfl,⟨rfl,rfl⟩⟩⟩⟩⟩⟩⟩⟩⟩
structure GRead where
 kind:Int
 n:Int
 time:Int
 text:ByteArray
 result:GVal
def GRead.toD(x:GRead):D:= .agg [li x.kind,li x.n,li x.time,ls x.text,GVal.toD x.result]
theorem GRead.bQ(x:GRead):x.toD= .agg [li x.kind,li x.n,li x.time,ls x.text,GVal.toD x.result]:=rfl
theorem GRead.gU(x:GRead):x.toD.sz=11:=by simp[GRead.bQ,GVal.bQ,D.sz,D.szs,li,ls]
theorem GRead.szs{l:List GRead}:∀d∈l.map GRead.toD,d.sz=11:=fun d h=>by obtain⟨x,_,rfl⟩:=a_.1 h;exact x.gU
theorem GRead.opened{w:World}{fp:List Nat}{cs:List Value}{x:GRead}:R w x.toD fp cs↔∃v0 v1 v2 f0 f1 f2,fp=f0++(f1++f2)∧cs= [.int .i64 x.kind,.int .i64 x.n,.int .i64 x.time,.string x.text,.int .i64 x.result.kind,.int .i64 x.result.n,.int .i64 x.result.step,.string x.result.text,v0,v1,v2]∧Sl w (x.result.list.map GVal.toD) f0 v0∧Sl w (x.result.cols.map ls) f1 v1∧Sl w (x.result.rows.map GRow.toD) f2 v2:=by
 rw[GRead.bQ,oO];simp only[GVal.bQ,o8,c_,d_,li,ls,lH,tN,o7];constructor
 ·rintro⟨_,rfl,⟨_,rfl,⟨_,rfl,⟨_,rfl,⟨_,rfl,⟨_,rfl,⟨_,rfl,⟨_,rfl,⟨_,_,_,_,rfl,rfl,h0,⟨_,_,_,_,rfl,rfl,h1,⟨_,_,_,_,rfl,rfl,h2,⟨rfl,rfl⟩⟩⟩⟩⟩⟩⟩⟩⟩⟩⟩⟩;exact⟨_,_,_,_,_,_,by simp,rfl,h0,h1,h2⟩
 ·rintro⟨v0,v1,v2,f0,f1,f2,rfl,rfl,h0,h1,h2⟩;exact⟨_,rfl,⟨_,rfl,⟨_,rfl,⟨_,rfl,⟨_,rfl,⟨_,rfl,⟨_,rfl,⟨_,rfl,⟨_,_,_,_,rfl,rfl,h0,⟨_,_,_,_,rfl,rfl,h1,⟨_,_,_,_,(f_ _).symm,rfl,h2,⟨rfl,rfl⟩⟩⟩⟩⟩⟩⟩⟩⟩⟩⟩⟩
structure GTape where
 cell:Int
 ver:Int
 reads:List GRead
def GTape.toD(x:GTape):D:= .agg [li x.cell,li x.ver,.sl (x.reads.map GRead.toD)]
theorem GTape.bQ(x:GTape):x.toD= .agg [li x.cell,li x.ver,.sl (x.reads.map GRead.toD)]:=rfl
theorem GTape.gU(x:GTape):x.toD.sz=3:=by simp[GTape.bQ,D.sz,D.szs,li,ls]
theorem GTape.szs{l:List GTape}:∀d∈l.map GTape.toD,d.sz=3:=fun d h=>by obtain⟨x,_,rfl⟩:=a_.1 h;exact x.gU
theorem GTape.opened{w:World}{fp:List Nat}{cs:List Value}{x:GTape}:R w x.toD fp cs↔∃v0 f0,fp=f0∧cs= [.int .i64 x.cell,.int .i64 x.ver,v0]∧Sl w (x.reads.map GRead.toD) f0 v0:=by
 rw[GTape.bQ,oO];simp only[o8,c_,d_,li,ls,lH,tN,o7];constructor
 ·rintro⟨_,rfl,⟨_,rfl,⟨_,_,_,_,rfl,rfl,h0,⟨rfl,rfl⟩⟩⟩⟩;exact⟨_,_,by simp,rfl,h0⟩
 ·rintro⟨v0,f0,rfl,rfl,h0⟩;exact⟨_,rfl,⟨_,rfl,⟨_,_,_,_,(f_ _).symm,rfl,h0,⟨rfl,rfl⟩⟩⟩⟩
structure GBind where
 name:ByteArray
 value:GVal
def GBind.toD(x:GBind):D:= .agg [ls x.name,GVal.toD x.value]
theorem GBind.bQ(x:GBind):x.toD= .agg [ls x.name,GVal.toD x.value]:=rfl
theorem GBind.gU(x:GBind):x.toD.sz=8:=by simp[GBind.bQ,GVal.bQ,D.sz,D.szs,li,ls]
theorem GBind.szs{l:List GBind}:∀d∈l.map GBind.toD,d.sz=8:=fun d h=>by obtain⟨x,_,rfl⟩:=a_.1 h;exact x.gU
theorem GBind.opened{w:World}{fp:List Nat}{cs:List Value}{x:GBind}:R w x.toD fp cs↔∃v0 v1 v2 f0 f1 f2,fp=f0++(f1++f2)∧cs= [.string x.name,.int .i64 x.value.kind,.int .i64 x.value.n,.int .i64 x.value.step,.string x.value.text,v0,v1,v2]∧Sl w (x.value.list.map GVal.toD) f0 v0∧Sl w (x.value.cols.map ls) f1 v1∧Sl w (x.value.rows.map GRow.toD) f2 v2:=by
 rw[GBind.bQ,oO];simp only[GVal.bQ,o8,c_,d_,li,ls,lH,tN,o7];constructor
 ·rintro⟨_,rfl,⟨_,rfl,⟨_,rfl,⟨_,rfl,⟨_,rfl,⟨_,_,_,_,rfl,rfl,h0,⟨_,_,_,_,rfl,rfl,h1,⟨_,_,_,_,rfl,rfl,h2,⟨rfl,rfl⟩⟩⟩⟩⟩⟩⟩⟩⟩;exact⟨_,_,_,_,_,_,by simp,rfl,h0,h1,h2⟩
 ·rintro⟨v0,v1,v2,f0,f1,f2,rfl,rfl,h0,h1,h2⟩;exact⟨_,rfl,⟨_,rfl,⟨_,rfl,⟨_,rfl,⟨_,rfl,⟨_,_,_,_,rfl,rfl,h0,⟨_,_,_,_,rfl,rfl,h1,⟨_,_,_,_,(f_ _).symm,rfl,h2,⟨rfl,rfl⟩⟩⟩⟩⟩⟩⟩⟩⟩
theorem GOrigin.oD(x:GOrigin):x.toD.wt=0:=by
 simp[GOrigin.bQ,D.wt,D.wts,li,ls,nV]<;>omega
theorem GRow.oD(x:GRow):x.toD.wt=0+((x.cells.map li).length+D.wts (x.cells.map li))+((x.src.map GOrigin.toD).length+D.wts (x.src.map GOrigin.toD)):=by
 simp[GRow.bQ,D.wt,D.wts,li,ls,nV]<;>omega
theorem GVal.oD(x:GVal):x.toD.wt=0+x.text.size+((x.list.map GVal.toD).length+D.wts (x.list.map GVal.toD))+((x.cols.map ls).length+D.wts (x.cols.map ls))+((x.rows.map GRow.toD).length+D.wts (x.rows.map GRow.toD)):=by
 simp[GVal.bQ,D.wt,D.wts,li,ls,nV]<;>omega
theorem GTok.oD(x:GTok):x.toD.wt=0+x.text.size:=by
 simp[GTok.bQ,D.wt,D.wts,li,ls,nV]<;>omega
theorem GExpr.oD(x:GExpr):x.toD.wt=0+x.text.size+((x.args.map GExpr.toD).length+D.wts (x.args.map GExpr.toD)):=by
 simp[GExpr.bQ,D.wt,D.wts,li,ls,nV]<;>omega
theorem GCell.oD(x:GCell):x.toD.wt=0+x.name.size+x.code.size:=by
 simp[GCell.bQ,D.wt,D.wts,li,ls,nV]<;>omega
theorem GNb.oD(x:GNb):x.toD.wt=0+((x.cells.map GCell.toD).length+D.wts (x.cells.map GCell.toD)):=by
 simp[GNb.bQ,D.wt,D.wts,li,ls,nV]<;>omega
theorem GPart.oD(x:GPart):x.toD.wt=0+x.name.size+x.expr.toD.wt+x.value.toD.wt:=by
 simp[GPart.bQ,D.wt,D.wts,li,ls,nV]<;>omega
theorem GEdit.oD(x:GEdit):x.toD.wt=0+x.cell.toD.wt:=by
 simp[GEdit.bQ,D.wt,D.wts,li,ls,nV]<;>omega
theorem GRead.oD(x:GRead):x.toD.wt=0+x.text.size+x.result.toD.wt:=by
 simp[GRead.bQ,D.wt,D.wts,li,ls,nV]<;>omega
theorem GTape.oD(x:GTape):x.toD.wt=0+((x.reads.map GRead.toD).length+D.wts (x.reads.map GRead.toD)):=by
 simp[GTape.bQ,D.wt,D.wts,li,ls,nV]<;>omega
theorem GBind.oD(x:GBind):x.toD.wt=0+x.name.size+x.value.toD.wt:=by
 simp[GBind.bQ,D.wt,D.wts,li,ls,nV]<;>omega
mutual
def D.one :D→Prop
 | .leaf v=>v.oneCell'=true
 | .sl _=>True
 | .agg l=>D.ones l
def D.ones :List D→Prop
 | []=>True
 |d::l=>d.one∧D.ones l
end
mutual
theorem R.one{w:World}:∀{d:D} {fp:List Nat} {cs:List Value},R w d fp cs→d.one→∀u∈cs,u.oneCell'=true
 | .leaf v,_,_,h,ho,u,hu=>by rw[h.2]at hu;simp at hu;subst hu;exact ho
 | .sl _,_,_,h,_,u,hu=>by
   rw[R]at h;obtain⟨A,cap,rfl,_⟩:=h;simp at hu;subst hu;rfl
 | .agg l,fp,cs,h,ho,u,hu=>by
   rw[R]at h;exact Rs.one_ h ho u hu
theorem Rs.one_{w:World}:∀{l:List D} {fp:List Nat} {cs:List Value},Rs w l fp cs→D.ones l→∀u∈cs,u.oneCell'=true
 | [],_,_,h,_,u,hu=>by rw[h.2]at hu;simp at hu
 | d::l,_,_,h,ho,u,hu=>by
   obtain⟨f1,f2,c1,c2,rfl,rfl,h1,h2⟩:=h;rcases y_.1 hu with hu|hu
   ·exact h1.one ho.1 u hu
   ·exact Rs.one_ h2 ho.2 u hu
end
theorem D.ones_of :∀{l:List D},(∀d∈l,d.one)→D.ones l
 | [],_=>trivial
 |d::l,h=>⟨h d (by simp),D.ones_of fun x hx=>h x (by simp[hx])⟩
theorem Sl.cells{w:World}{l:List D}{fp:List Nat}{A:Option Addr}{m c:Nat}(h:Sl w l fp (.slice A m c)):m=l.length∧∃fp' cs,Rs w l fp' cs∧(∀b∈fp',b∈fp)∧
 ((l= []∧cs= [])∨∃b o,A=some ⟨b,o,none⟩∧b<w.heap.size∧At w b o cs):=by
 unfold Sl at h;rw[R]at h;obtain⟨A',cap',h1,_,_,h3⟩:=h;simp only[q_,and_true,u_]at h1;obtain⟨rfl,rfl,rfl⟩:=h1;refine⟨rfl, ?_⟩;rcases h3 with⟨rfl,rfl⟩|⟨b,o,fp',cs',rfl,rfl,hb,hr,ha⟩
 ·exact⟨[],[],⟨rfl,rfl⟩,fun _ h=>h,x_ ⟨rfl,rfl⟩⟩
 ·exact⟨fp',cs',hr,fun x hx=>by simp[hx],l_ ⟨b,o,rfl,hb,ha⟩⟩
theorem Row.grown{w w':World}{g:Nat}{e:TypeId}{xs:List Value}{row:Option Nat}(h:Row w g e xs)(hg:w.grownBy w' row)(hne:some g≠row):Row w' g e xs:=(hg.block g h.lt hne).trans h
theorem H8{w:World}{base:Nat}{e:TypeId}{s:Nat}{v:Value}{n:Nat}{xs:List Value}(h:w.ownsRow base e s v n xs):∃A c,v= .slice A n c:=by
 rcases h.2 with⟨rfl,rfl⟩|⟨g,cap,cur,rfl,_⟩
 ·exact⟨_,_,rfl⟩
 ·exact⟨_,_,rfl⟩
theorem EY{w w':World}{base:Nat}{e:TypeId}{s:Nat}{v:Value}{n:Nat}{xs:List Value}(h:w.ownsRow base e s v n xs)(hb:Below w.heap.size w w'):w'.ownsRow base e s v n xs:=by
 obtain⟨h1,h2⟩:=h;refine⟨h1, ?_⟩;rcases h2 with h2|⟨g,cap,cur,hv,hg,hh,r⟩
 ·exact x_ h2
 ·refine l_ ⟨g,cap,cur,hv,hg, ?_,r⟩;rw[hb.block]
  ·exact hh
  ·rcases B_ g w.heap.size with hlt|hge
   ·exact hlt
   ·rw[Array.getElem?_eq_none hge]at hh;cases hh
theorem H7{w:World}{base base':Nat}{e:TypeId}{s:Nat}{v:Value}{n:Nat}{xs:List Value}(h:w.ownsRow base e s v n xs)(hb:base'≤base):w.ownsRow base' e s v n xs:=by
 obtain⟨h1,h2⟩:=h;refine⟨h1, ?_⟩;rcases h2 with h2|⟨g,cap,cur,hv,hg,r⟩
 ·exact x_ h2
 ·exact l_ ⟨g,cap,cur,hv,r_ hb hg,r⟩
end
section
open List renaming mem_map→a_,cons_append→c_,nil_append→d_,getElem?_eq_getElem→e_,append_nil→f_,getElem?_eq_some_iff→h_,take_append_drop→j_,getElem?_append_right→k_,mem_cons→m_,getElem?_append_left→p_,mem_append→y_,length_take→A_,singleton_append→F_,sizeOf_lt_of_mem→G_,mem_of_mem_take→H_,mem_iff_getElem→I_,all_eq_false→K_,length_cons→L_,all_eq_true→N_,nodup_cons→P_,length_map→Q_,mem_range→S_
open Lib renaming hid→b_
open Nat renaming lt_of_lt_of_le→g_,le_refl→o_,le_trans→r_,lt_or_ge→B_,zero_add→C_,zero_le→E_,min_eq_left→O_,add_assoc→T_,add_zero→Y_,zero_mul→Z_
open Below renaming heap_setCell→i_,heap_alloc→M_,refl→R_
open Or renaming inr→l_,inl→x_
open SizeOf renaming sizeOf→n_
open List.cons renaming injEq→q_
open Value renaming ownBlock→s_,oneCell'→t_,okWide→X_
open Value.slice renaming injEq→u_
open World renaming setCell→v_,cell?_setCell_other→z_,cell? →D_,cells?_some→J_,frozen? →V_
open Ending renaming returned→w_
open Go.RowKit Go.WideShapes Go.ChangeShapes Go.ChangeAt
section
variable{H:Type}{enc:TypeId×Value→H}{P:Program}
theorem EX{f:Func}{s:ChangeSpec}{apart fresh handsOn again:Bool}{W W':World}{args:Array Value}{v:Value}{ds gs:List (DataW H)}{before pa pv:List MemPlace}
 (hW:DataW.Whole enc P f.params.toList s.vars apart W args.toList ds gs before)
 (hres:∀(b:Nat) (sp:Nat→Bool) (hd:Bool),DataW.TrodAll enc P W' b sp hd f.resultTypes.toList (v.resultList f.resultTypes.size) (s.fn H (ds++gs)).results [])
 (hargs:∀sp:Nat→Bool,(∀p∈before,sp p.block=true)→DataW.TrodAll enc P W' 0 sp true f.params.toList args.toList (s.fn H (ds++gs)).args pa)
 (hvars:∀sp:Nat→Bool,(∀p∈before,sp p.block=true)→DataW.TrodVars enc P W' sp s.vars (s.fn H (ds++gs)).vars pv)
 (hps:before=pa++pv) (hb:Below W.heap.size W W')
 (hok:∀(j:Nat) (t:TypeId) (r:Value),f.resultTypes[j]? =some t→(v.resultList f.resultTypes.size)[j]? =some r→X_ P W' .any 0 t r):
 s.post enc P f apart fresh handsOn again W args v W':=by
 have hlt:∀p∈before,p.block<W.heap.size:=fun p hp=>hW.lt p hp
 have hold:∀p∈before,(fun b=>decide (b<W.heap.size)) p.block=true:=fun p hp=>by simpa using hlt p hp
 refine⟨ds,gs,before,[],pa,pv,hW,hres _ _ _,hargs _ hold,hvars _ hold,World.keptBut_mono (fun p hp=>⟨hp, ?_⟩) (hb.frame (·∈before)),fun _=> ?_⟩
 ·rw[hps,y_]at hp;exact l_ hp
 ·obtain⟨_,_,_,_,_,hz,hn⟩:=hW;refine⟨hok,_,_,([]++pa)++pv,⟨[]++pa,pv,trodAll_append (hargs _ (fun _ _=>rfl)) (hres _ _ _),hvars _ (fun _ _=>rfl),rfl, ?_, ?_⟩, ?_⟩
  ·intro b off hp;have hin:MemPlace.cell b off∈before:=by rw[hps];simpa using hp
   rw[hb.frozen (hlt _ hin)];exact hz b off hin
  ·intro ha;have:=hn ha;rw[hps]at this;simpa using this
  ·intro p hp _;rw[hps];simpa using hp
end
theorem Zf :ownKnob Tryz.prog.godebug=none:=by kernel_rfl
theorem Ur :laidOutB Tryz.prog=true:=by kernel_rfl
end
section
open List renaming mem_map→a_,cons_append→c_,nil_append→d_,getElem?_eq_getElem→e_,append_nil→f_,getElem?_eq_some_iff→h_,take_append_drop→j_,getElem?_append_right→k_,mem_cons→m_,getElem?_append_left→p_,mem_append→y_,length_take→A_,singleton_append→F_,sizeOf_lt_of_mem→G_,mem_of_mem_take→H_,mem_iff_getElem→I_,all_eq_false→K_,length_cons→L_,all_eq_true→N_,nodup_cons→P_,length_map→Q_,mem_range→S_
open Lib renaming hid→b_
open Nat renaming lt_of_lt_of_le→g_,le_refl→o_,le_trans→r_,lt_or_ge→B_,zero_add→C_,zero_le→E_,min_eq_left→O_,add_assoc→T_,add_zero→Y_,zero_mul→Z_
open Below renaming heap_setCell→i_,heap_alloc→M_,refl→R_
open Or renaming inr→l_,inl→x_
open SizeOf renaming sizeOf→n_
open List.cons renaming injEq→q_
open Value renaming ownBlock→s_,oneCell'→t_,okWide→X_
open Value.slice renaming injEq→u_
open World renaming setCell→v_,cell?_setCell_other→z_,cell? →D_,cells?_some→J_,frozen? →V_
open Ending renaming returned→w_
def Y4(n:Nat):List UInt8:=if h:n=0 then []else Y4 (n / 10)++ [UInt8.ofNat (48+n % 10)]
termination_by n
decreasing_by omega
def Zg(k:Int):ByteArray:=if k≤0 then⟨#[109,48]⟩else⟨(109::Y4 k.toNat).toArray⟩
mutual
def D.cnt :D→Nat
 | .leaf _=>1
 | .sl l=>D.cnts l
 | .agg l=>D.cnts l
def D.cnts :List D→Nat
 | []=>0
 |d::l=>d.cnt+D.cnts l
end
def YV(v:Value)(k:Int):Value:=match v with| .string _=> .string (Zg k)|_=> .int .i64 k
mutual
def D.mk :D→Int→D
 | .leaf v,k=> .leaf (YV v k)
 | .sl l,k=> .sl (D.mks l k)
 | .agg l,k=> .agg (D.mks l k)
def D.mks :List D→Int→List D
 | [],_=> []
 |d::l,k=>d.mk k::D.mks l (k+d.cnt)
end
theorem D.OZ(k:Int):D.mks [] k= []:=by rw[D.mks]
theorem D.JL(d:D)(l:List D)(k:Int):D.mks (d::l) k=d.mk k::D.mks l (k+d.cnt):=by rw[D.mks]
mutual
theorem D.YW :∀(d:D) (k:Int),(d.mk k).sz=d.sz
 | .leaf _,_=>rfl
 | .sl _,_=>rfl
 | .agg l,k=>by rw[D.mk,D.sz,D.sz,D.OY l]
theorem D.OY :∀(l:List D) (k:Int),D.szs (D.mks l k)=D.szs l
 | [],_=>by rw[D.OZ]
 |d::l,k=>by rw[D.JL,D.szs,D.szs,D.YW d,D.OY l]
end
mutual
theorem D.Yl :∀(d:D) (k:Int),(d.mk k).cnt=d.cnt
 | .leaf _,_=>rfl
 | .sl l,k=>by rw[D.mk,D.cnt,D.cnt,D.CY l]
 | .agg l,k=>by rw[D.mk,D.cnt,D.cnt,D.CY l]
theorem D.CY :∀(l:List D) (k:Int),D.cnts (D.mks l k)=D.cnts l
 | [],_=>by rw[D.OZ]
 |d::l,k=>by rw[D.JL,D.cnts,D.cnts,D.Yl d,D.CY l]
end
def part(l:List D)(k:Int)(i:Nat):List D:=D.mks (l.take i) k++l.drop i
mutual
def D.Rw :D→Nat
 | .leaf _=>0
 | .sl l=>D.cnts l
 | .agg l=>D.MF l
def D.MF :List D→Nat
 | []=>0
 |d::l=>d.Rw+D.MF l
end
mutual
def D.amk :D→Int→D
 | .leaf v,_=> .leaf v
 | .sl l,k=> .sl (D.mks l k)
 | .agg l,k=> .agg (D.Za l k)
def D.Za :List D→Int→List D
 | [],_=> []
 |d::l,k=>d.amk k::D.Za l (k+d.Rw)
end
structure Touch (fp:List Nat) (w w':World):Prop where
 os:w'.os=w.os
 tape:w'.tape=w.tape
 output:w'.output=w.output
 size:w.heap.size≤w'.heap.size
 block:∀k,k<w.heap.size→k∉fp→w'.heap[k]? =w.heap[k]?
 froz:∀b o,b<w.heap.size→w'.frozen? ⟨b,o,none⟩=w.frozen? ⟨b,o,none⟩
theorem Touch.refl(fp:List Nat)(w:World):Touch fp w w:=⟨rfl,rfl,rfl,o_ _,fun _ _ _=>rfl,fun _ _ _=>rfl⟩
theorem Touch.trans{fp:List Nat}{a b c:World}(h:Touch fp a b)(k:Touch fp b c):Touch fp a c:=
 ⟨k.os.trans h.os,k.tape.trans h.tape,k.output.trans h.output,r_ h.size k.size,fun i hi hn=>(k.block i (g_ hi h.size) hn).trans (h.block i hi hn),fun b o hb=>(k.froz b o (g_ hb h.size)).trans (h.froz b o hb)⟩
theorem Touch.mono{fp fp':List Nat}{a b:World}(h:Touch fp a b)(hf:∀x∈fp,x∈fp'):Touch fp' a b:=
 ⟨h.os,h.tape,h.output,h.size,fun i hi hn=>h.block i hi fun hm=>hn (hf i hm),h.froz⟩
theorem Touch.of_below{fp:List Nat}{a b:World}(h:Below a.heap.size a b):Touch fp a b:=
 ⟨h.os,h.tape,h.output,h.size,fun i hi _=>h.block i hi,fun x o hx=>h.frozen (p:=⟨x,o,none⟩) hx⟩
theorem Touch.below{fp:List Nat}{a b c:World}(h:Touch fp a b)(k:Below b.heap.size b c):Touch fp a c:=h.trans (Touch.of_below k)
theorem Touch.toBelow{fp:List Nat}{B:Nat}{a b c:World}(h:Below B a b)(k:Touch fp b c)(hf:∀x∈fp,B≤x)(hs:B≤b.heap.size):Below B a c:=
 h.trans ⟨k.os,k.tape,k.output,k.size,fun i hi=>k.block i (by omega) (fun hm=>by have:=hf i hm;omega)⟩
theorem Touch.kept{fp:List Nat}{lo hi:Nat}{a b:World}(h:Touch fp a b)(hf:∀x∈fp,lo≤x∧x<hi):Kept lo hi a b:=
 ⟨h.os,h.tape,h.output,h.size,fun i hi' ho=>h.block i hi' (fun hm=>by have:=hf i hm;omega)⟩
structure Inr (b lo hi:Nat) (fi:List Nat) (w w':World):Prop where
 os:w'.os=w.os
 tape:w'.tape=w.tape
 output:w'.output=w.output
 size:w.heap.size≤w'.heap.size
 block:∀x,x<w.heap.size→x≠b→x∉fi→w'.heap[x]? =w.heap[x]?
 cell:∀off,(off<lo∨hi≤off)→w'.cell? ⟨b,off,none⟩=w.cell? ⟨b,off,none⟩
 froz:∀x o,x<w.heap.size→w'.frozen? ⟨x,o,none⟩=w.frozen? ⟨x,o,none⟩
section
variable{b lo hi:Nat}{fi:List Nat}{w a c:World}
theorem Inr.refl(b lo hi:Nat)(fi:List Nat)(w:World):Inr b lo hi fi w w:=⟨rfl,rfl,rfl,o_ _,fun _ _ _ _=>rfl,fun _ _=>rfl,fun _ _ _=>rfl⟩
theorem Inr.below(h:Inr b lo hi fi w a)(hb:b<w.heap.size)(k:Below a.heap.size a c):Inr b lo hi fi w c:=
 ⟨k.os.trans h.os,k.tape.trans h.tape,k.output.trans h.output,r_ h.size k.size,fun x hx h1 h2=>(k.block x (g_ hx h.size)).trans (h.block x hx h1 h2),fun off ho=>(k.cell (p:=⟨b,off,none⟩) (g_ hb h.size)).trans (h.cell off ho),fun x o hx=>(k.frozen (p:=⟨x,o,none⟩) (g_ hx h.size)).trans (h.froz x o hx)⟩
theorem Inr.setCell(h:Inr b lo hi fi w a){off:Nat}(h1:lo≤off)(h2:off<hi)(u:Value):Inr b lo hi fi w (a.setCell ⟨b,off,none⟩ u):=
 ⟨h.os,h.tape,h.output,by simpa[v_]using h.size,fun x hx h3 h4=>(i_ _ _ _ _ h3).trans (h.block x hx h3 h4),
  fun o ho=>by
   rw[z_]
   ·exact h.cell o ho
   ·intro e;injection e with _ e2;omega,
  fun x o hx=>by rw[World.frozen?_setCell];exact h.froz x o hx⟩
end
theorem At.below{w a:World}{b o:Nat}{cs:List Value}(h:At w b o cs)(hb:b<w.heap.size)(k:Below w.heap.size w a):At a b o cs:=
 fun j u hj=>(k.cell (p:=⟨b,o+j,none⟩) hb).trans (h j u hj)
theorem At.set{w:World}{b o:Nat}{cs:List Value}(h:At w b o cs){j:Nat}(hj:j<cs.length)(u:Value):At (w.setCell ⟨b,o+j,none⟩ u) b o (cs.set j u):=by
 intro i v hi;rw[List.getElem?_set]at hi;split at hi
 ·next e=>
  subst e
  try rw[if_pos hj]at hi
  cases hi;exact World.cell?_setCell_same _ _ _ (h j _ (e_ hj))
 ·next e=>
  rw[z_]
  ·exact h i v hi
  ·intro e2;injection e2 with _ e3;omega
theorem Sl.inr{b lo hi:Nat}{F:List Nat}{w a:World}{l:List D}{g:List Nat}{v:Value}(h:Sl w l g v)(hI:Inr b lo hi F w a)(hb:b∉g)(hd:∀x∈g,x∉F):Sl a l g v:=
 R.same h (fun x hx=>hI.block x (R.lt h x hx) (fun e=>hb (e▸hx)) (hd x hx)) hI.size
theorem jg.inr{b lo hi:Nat}{F:List Nat}{w a:World}{base:Nat}{g:List Nat}(h:jg w base g)(hl:∀x∈g,x<w.heap.size)(hI:Inr b lo hi F w a):jg a base g:=
 ⟨h.1,fun x hx=>⟨(h.2 x hx).1,fun o=>by rw[hI.froz x o (hl x hx)];exact(h.2 x hx).2 o⟩⟩
theorem Inr.mono{b lo hi:Nat}{F F':List Nat}{w a:World}(h:Inr b lo hi F w a)(hf:∀x∈F,x∈F'):Inr b lo hi F' w a:=
 ⟨h.os,h.tape,h.output,h.size,fun x hx h1 h2=>h.block x hx h1 (fun hm=>h2 (hf x hm)),h.cell,h.froz⟩
theorem jg.sub{w:World}{base:Nat}{fp g:List Nat}(h:jg w base fp)(hn:g.Nodup)(hs:∀x∈g,x∈fp):jg w base g:=⟨hn,fun x hx=>h.2 x (hs x hx)⟩
mutual
def D.thin :D→Prop
 | .leaf _=>True
 | .sl l=>D.jw l
 | .agg l=>D.NS l
def D.jw :List D→Prop
 | []=>True
 |d::l=>d.sz≤14∧d.thin∧D.jw l
def D.NS :List D→Prop
 | []=>True
 |d::l=>d.thin∧D.NS l
end
mutual
theorem D.cnt_le :∀(d:D),d.thin→d.cnt≤d.sz+14*d.wt
 | .leaf _,_=>by simp only[D.cnt,D.sz];omega
 | .sl l,h=>by
   have:=D.PZ l h;simp only[D.cnt,D.sz,D.wt];omega
 | .agg l,h=>by
   have:=D.MC l h;simp only[D.cnt,D.sz,D.wt];omega
theorem D.PZ :∀(l:List D),D.jw l→D.cnts l≤14*(l.length+D.wts l)
 | [],_=>by simp only[D.cnts];omega
 | d::l,h=>by
   obtain⟨h1,h2,h3⟩:=h;have e1:=D.cnt_le d h2;have e2:=D.PZ l h3;simp only[D.cnts,D.wts,L_];omega
theorem D.MC :∀(l:List D),D.NS l→D.cnts l≤D.szs l+14*D.wts l
 | [],_=>by simp only[D.cnts,D.szs];omega
 | d::l,h=>by
   obtain⟨h1,h2⟩:=h;have e1:=D.cnt_le d h1;have e2:=D.MC l h2;simp only[D.cnts,D.wts,D.szs];omega
end
mutual
theorem D.XF :∀(d:D),d.Rw≤d.cnt
 | .leaf _=>by simp only[D.Rw];omega
 | .sl l=>by simp only[D.Rw,D.cnt];omega
 | .agg l=>by
   have:=D.GN l;simp only[D.Rw,D.cnt];omega
theorem D.GN :∀(l:List D),D.MF l≤D.cnts l
 | []=>by simp only[D.MF];omega
 | d::l=>by
   have e1:=D.XF d;have e2:=D.GN l;simp only[D.MF,D.cnts];omega
end
theorem D.jC{l:List D}(h:∀d∈l,d.sz≤14∧d.thin):D.jw l:=by
 induction l with
 |nil=>trivial
 |cons d l ih=>exact⟨(h d (by simp)).1,(h d (by simp)).2,ih fun x hx=>h x (by simp[hx])⟩
theorem Qj(l:List Int):D.jw (l.map li):=D.jC fun d hd=>by obtain⟨x,_,rfl⟩:=a_.1 hd;exact⟨by simp[li,D.sz],trivial⟩
theorem Qi(l:List ByteArray):D.jw (l.map ls):=D.jC fun d hd=>by obtain⟨x,_,rfl⟩:=a_.1 hd;exact⟨by simp[ls,D.sz],trivial⟩
theorem GOrigin.thin(x:GOrigin):x.toD.thin:=by
 rw[GOrigin.bQ];exact⟨trivial,trivial,trivial⟩
theorem GOrigin.jw(l:List GOrigin):D.jw (l.map GOrigin.toD):=D.jC fun d hd=>by obtain⟨y,_,rfl⟩:=a_.1 hd;exact⟨by rw[GOrigin.gU];omega,y.thin⟩
theorem GRow.thin(x:GRow):x.toD.thin:=by
 rw[GRow.bQ];exact⟨Qj _,GOrigin.jw _,trivial⟩
theorem GRow.jw(l:List GRow):D.jw (l.map GRow.toD):=D.jC fun d hd=>by obtain⟨y,_,rfl⟩:=a_.1 hd;exact⟨by rw[GRow.gU];omega,y.thin⟩
theorem GVal.thin(x:GVal):x.toD.thin:=by
 rw[GVal.bQ];exact⟨trivial,trivial,trivial,trivial,(D.jC fun d hd=>by obtain⟨y,hy,rfl⟩:=a_.1 hd;exact⟨by rw[GVal.gU];omega,GVal.thin y⟩),Qi _,GRow.jw _,trivial⟩
termination_by n_ x
decreasing_by exact GVal.lt_of_mem hy
theorem GVal.jw(l:List GVal):D.jw (l.map GVal.toD):=D.jC fun d hd=>by obtain⟨y,_,rfl⟩:=a_.1 hd;exact⟨by rw[GVal.gU];omega,y.thin⟩
theorem GTok.thin(x:GTok):x.toD.thin:=by
 rw[GTok.bQ];exact⟨trivial,trivial,trivial,trivial,trivial⟩
theorem GTok.jw(l:List GTok):D.jw (l.map GTok.toD):=D.jC fun d hd=>by obtain⟨y,_,rfl⟩:=a_.1 hd;exact⟨by rw[GTok.gU];omega,y.thin⟩
theorem GExpr.thin(x:GExpr):x.toD.thin:=by
 rw[GExpr.bQ];exact⟨trivial,trivial,trivial,(D.jC fun d hd=>by obtain⟨y,hy,rfl⟩:=a_.1 hd;exact⟨by rw[GExpr.gU];omega,GExpr.thin y⟩),trivial⟩
termination_by n_ x
decreasing_by exact GExpr.lt_of_mem hy
theorem GExpr.jw(l:List GExpr):D.jw (l.map GExpr.toD):=D.jC fun d hd=>by obtain⟨y,_,rfl⟩:=a_.1 hd;exact⟨by rw[GExpr.gU];omega,y.thin⟩
theorem GCell.thin(x:GCell):x.toD.thin:=by
 rw[GCell.bQ];exact⟨trivial,trivial,trivial,trivial,trivial,trivial,trivial⟩
theorem GCell.jw(l:List GCell):D.jw (l.map GCell.toD):=D.jC fun d hd=>by obtain⟨y,_,rfl⟩:=a_.1 hd;exact⟨by rw[GCell.gU];omega,y.thin⟩
theorem GNb.thin(x:GNb):x.toD.thin:=by
 rw[GNb.bQ];exact⟨GCell.jw _,trivial⟩
theorem GNb.jw(l:List GNb):D.jw (l.map GNb.toD):=D.jC fun d hd=>by obtain⟨y,_,rfl⟩:=a_.1 hd;exact⟨by rw[GNb.gU];omega,y.thin⟩
theorem GPart.thin(x:GPart):x.toD.thin:=by
 rw[GPart.bQ];exact⟨trivial,trivial,GExpr.thin _,GVal.thin _,trivial,trivial⟩
theorem GPart.jw(l:List GPart):D.jw (l.map GPart.toD):=D.jC fun d hd=>by obtain⟨y,_,rfl⟩:=a_.1 hd;exact⟨by rw[GPart.gU];omega,y.thin⟩
theorem GEdit.thin(x:GEdit):x.toD.thin:=by
 rw[GEdit.bQ];exact⟨trivial,trivial,GCell.thin _,trivial⟩
theorem GEdit.jw(l:List GEdit):D.jw (l.map GEdit.toD):=D.jC fun d hd=>by obtain⟨y,_,rfl⟩:=a_.1 hd;exact⟨by rw[GEdit.gU];omega,y.thin⟩
theorem GRead.thin(x:GRead):x.toD.thin:=by
 rw[GRead.bQ];exact⟨trivial,trivial,trivial,trivial,GVal.thin _,trivial⟩
theorem GRead.jw(l:List GRead):D.jw (l.map GRead.toD):=D.jC fun d hd=>by obtain⟨y,_,rfl⟩:=a_.1 hd;exact⟨by rw[GRead.gU];omega,y.thin⟩
theorem GTape.thin(x:GTape):x.toD.thin:=by
 rw[GTape.bQ];exact⟨trivial,trivial,GRead.jw _,trivial⟩
theorem GTape.jw(l:List GTape):D.jw (l.map GTape.toD):=D.jC fun d hd=>by obtain⟨y,_,rfl⟩:=a_.1 hd;exact⟨by rw[GTape.gU];omega,y.thin⟩
theorem Row.drew{w:World}{g:Nat}{e:TypeId}{xs:List Value}(h:Row w g e xs):Row w.drew g e xs:=h
structure EK (P:Program) where
 t:TypeId
 e:TypeId
 s:Nat
 ht:P.underlying t=some (.slice e)
 info:∃(i:TypeInfo) (z:Value),P.info? e=some i∧i.zero=some z∧i.size=s∧i.bytes≤1024∧z.cells.size=s
 h0:0<s
def qA(w:World)(base:Nat)(e:TypeId)(s:Nat)(l:List D)(f:List Nat)(v:Value):Prop:=
 ∃cs,w.ownsRow base e s v l.length cs∧Rs w l f cs∧jg w base f∧∀g,v.ownBlock=some g→g∉f
def Src(w:World)(l:List D)(f:List Nat)(v:Value):Prop:=
 ∃A c cs,v= .slice A l.length c∧Rs w l f cs∧((l= []∧cs= [])∨∃b o,A=some ⟨b,o,none⟩∧b<w.heap.size∧At w b o cs)
theorem Src.YU{w:World}{l:List D}{fp:List Nat}{v:Value}(h:Sl w l fp v):∃f,Src w l f v∧(∀x∈f,x∈fp):=by
 obtain⟨A,c,rfl,_,_⟩:=h.form;obtain⟨_,f,cs,h1,h2,h3⟩:=h.cells;exact⟨f,⟨A,c,cs,rfl,h1,h3⟩,h2⟩
theorem Src.one{w:World}{g:Nat}{e:TypeId}{cs:List Value}{d:D}{f:List Nat}(h:Row w g e cs)(hR:R w d f cs):Src w [d] f (.slice (some ⟨g,0,none⟩) 1 1):=
 ⟨_,_,cs,rfl,Rs.one hR,l_ ⟨g,0,rfl,h.lt,fun j u hj=>by rw[C_,h.cell,hj]⟩⟩
theorem Src.two{w:World}{g:Nat}{e:TypeId}{cs:List Value}{l:List D}{f:List Nat}{n:Nat}(h:Row w g e cs)(hR:Rs w l f cs)(hn:l.length=n):Src w l f (.slice (some ⟨g,0,none⟩) n n):=by
 subst hn;exact⟨_,_,cs,rfl,hR,l_ ⟨g,0,rfl,h.lt,fun j u hj=>by rw[C_,h.cell,hj]⟩⟩
section
variable{w w':World}{base:Nat}{e:TypeId}{s:Nat}{l:List D}{f:List Nat}{v:Value}
theorem qA.sl(h:qA w base e s l f v):Sl w l (v.ownBlock.toList++f) v:=by
 obtain⟨cs,h1,h2,_⟩:=h;exact Sl.of_own h1 h2
theorem qA.free(h:qA w base e s l f v):jg w base (v.ownBlock.toList++f):=by
 obtain⟨cs,h1,h2,h3,h4⟩:=h;exact jg.of_own h1 h3 h4
theorem qA.lit{g:Nat}(hg:w.heap.size=g)(hb:base≤g):qA (w.alloc (.cells #[] e)) base e s [] [] (.slice (some ⟨g,0,none⟩) 0 0):=by
 subst hg;exact⟨[],World.ownsRow_lit w #[] 0 hb (by simp) (by simp),⟨rfl,rfl⟩,jg.nil,fun _ _=>by simp⟩
theorem qA.nil :qA w base e s [] [] (.slice none 0 0):=
 ⟨[],⟨by simp,x_ ⟨rfl,rfl⟩⟩,⟨rfl,rfl⟩,jg.nil,fun _ _=>by simp⟩
theorem qA.lt(h:qA w base e s l f v):∀x∈f,x<w.heap.size:=by
 obtain⟨cs,h1,h2,_⟩:=h;exact Rs.lt h2
theorem qA.below(h:qA w base e s l f v)(hb:Below w.heap.size w w'):qA w' base e s l f v:=by
 obtain⟨cs,h1,h2,h3,h4⟩:=h;exact⟨cs,EY h1 hb,h2.below hb,h3.below (Rs.lt h2) hb,h4⟩
theorem qA.mono{base':Nat}(h:qA w base e s l f v)(hb:base'≤base):qA w base' e s l f v:=by
 obtain⟨cs,h1,h2,h3,h4⟩:=h;exact⟨cs,H7 h1 hb,h2,h3.mono hb,h4⟩
theorem qA.form(h:qA w base e s l f v):∃A c,v= .slice A l.length c:=by
 obtain⟨cs,h1,_⟩:=h;exact H8 h1
theorem qA.tos{W:World}(h:qA w' W.heap.size e s l f v)(hb:Below W.heap.size W w'):BN l W (.returned v) w':=⟨_,v,rfl,h.sl,h.free,hb⟩
end
theorem Sl.take{w:World}{l:List D}{fp:List Nat}{A:Option Addr}{n cap k:Nat}(h:Sl w l fp (.slice A n cap))(hk:k≤l.length):∃f,Sl w (l.take k) f (.slice A k cap)∧∀x∈f,x∈fp:=by
 unfold Sl at h⊢;rw[R]at h;obtain⟨A',cap',h1,h2,h3,h4⟩:=h;simp only[q_,and_true,u_]at h1;obtain⟨rfl,rfl,rfl⟩:=h1;have hl:(l.take k).length=k:=by rw[A_];omega
 rcases h4 with⟨rfl,rfl⟩|⟨b,o,fp',cs',rfl,rfl,hb,hr,ha⟩
 ·have:k=0:=by simpa using hk
  subst this;refine⟨[], ?_,fun _ hx=>hx⟩;rw[R];exact⟨A,cap,by simp,by simp,h3,x_ ⟨by simp,rfl⟩⟩
 ·have hr':=hr;rw[← j_ k l]at hr';obtain⟨f1,f2,c1,c2,rfl,rfl,r1,r2⟩:=Rs.split hr';refine⟨b::f1, ?_,fun x hx=>by
   rcases m_.1 hx with rfl|h
   ·simp
   ·simp[h]⟩
  rw[R];exact⟨_,cap,by rw[hl],by rw[hl];omega,h3,l_ ⟨b,o,f1,c1,rfl,rfl,hb,r1,ha.left⟩⟩
theorem Sl.drop{w:World}{l:List D}{fp:List Nat}{b o n cap k s:Nat}(h:Sl w l fp (.slice (some ⟨b,o,none⟩) n cap))(hs:∀d∈l,d.sz=s)(hk:k≤l.length):∃f,Sl w (l.drop k) f (.slice (some ⟨b,o+k*s,none⟩) (n - k) (cap - k))∧∀x∈f,x∈fp:=by
 unfold Sl at h⊢;rw[R]at h;obtain⟨A',cap',h1,h2,h3,h4⟩:=h;simp only[q_,and_true,u_]at h1;obtain⟨rfl,rfl,rfl⟩:=h1;have hl:(l.drop k).length=l.length - k:=List.length_drop;rcases h4 with⟨rfl,rfl⟩|⟨b',o',fp',cs',hbo,rfl,hb,hr,ha⟩
 ·refine⟨[], ?_,fun _ hx=>hx⟩;rw[R];exact⟨some ⟨b,o+k*s,none⟩,cap - k,by simp,by simp,by omega,x_ ⟨by simp,rfl⟩⟩
 ·injection hbo with hbo
  injection hbo with hb1 hb2 _
  subst hb1 hb2;have hr':=hr;rw[← j_ k l]at hr';obtain⟨f1,f2,c1,c2,rfl,rfl,r1,r2⟩:=Rs.split hr';have hc1:c1.length=k*s:=by rw[r1.len,kK (s:=s) _ (fun d hd=>hs d (H_ hd)),A_,O_ hk]
  refine⟨b::f2, ?_,fun x hx=>by
   rcases m_.1 hx with rfl|h
   ·simp
   ·simp[h]⟩
  rw[R];exact⟨_,_,by rw[hl],by rw[hl];omega,by omega,l_ ⟨b,o+k*s,f2,c2,rfl,rfl,hb,r2,by have:=ha.right;rwa[hc1]at this⟩⟩
theorem EK.elem{P:Program}(k:EK P):P.elem k.t=k.e:=by
 have h:=k.ht;simp only[Program.elem];rw[h]
theorem EK.sizeOf{P:Program}(k:EK P)(w:World):(Go.sizeOf k.e).run P w= .ok k.s w:=by
 obtain⟨i,z,hi,hz,hs,_,_⟩:=k.info;simp[Go.sizeOf,typeInfo,hi,hs]
theorem qA.drewN{w:World}{base:Nat}{e:TypeId}{s:Nat}{l:List D}{f:List Nat}{v:Value}(h:qA w base e s l f v)(n:Nat):qA (w.drewN n) base e s l f v:=h.below (uV (R_ _ _) n)
end
section
open List renaming mem_map→a_,cons_append→c_,nil_append→d_,getElem?_eq_getElem→e_,append_nil→f_,getElem?_eq_some_iff→h_,take_append_drop→j_,getElem?_append_right→k_,mem_cons→m_,getElem?_append_left→p_,mem_append→y_,length_take→A_,singleton_append→F_,sizeOf_lt_of_mem→G_,mem_of_mem_take→H_,mem_iff_getElem→I_,all_eq_false→K_,length_cons→L_,all_eq_true→N_,nodup_cons→P_,length_map→Q_,mem_range→S_
open Lib renaming hid→b_
open Nat renaming lt_of_lt_of_le→g_,le_refl→o_,le_trans→r_,lt_or_ge→B_,zero_add→C_,zero_le→E_,min_eq_left→O_,add_assoc→T_,add_zero→Y_,zero_mul→Z_
open Below renaming heap_setCell→i_,heap_alloc→M_,refl→R_
open Or renaming inr→l_,inl→x_
open SizeOf renaming sizeOf→n_
open List.cons renaming injEq→q_
open Value renaming ownBlock→s_,oneCell'→t_,okWide→X_
open Value.slice renaming injEq→u_
open World renaming setCell→v_,cell?_setCell_other→z_,cell? →D_,cells?_some→J_,frozen? →V_
open Ending renaming returned→w_
open Go.RowKit Go.ChangeShapes Go.WideShapes
section
variable{H:Type}{enc:TypeId×Value→H}{P:Program}{w:World}{spare:Nat→Bool}
def NY(w:World)(cs:List Value):Nat→List D→Prop
 |_,[]=>True
 |off,d::l=>(∃fp,R w d fp ((cs.drop off).take d.sz))∧NY w cs (off+d.sz) l
theorem NY.cons{cs:List Value}{off s:Nat}{d:D}{l:List D}(hs:d.sz=s)(h:∃fp,R w d fp ((cs.drop off).take s))(t:NY w cs (off+s) l):NY w cs off (d::l):=by
 subst hs;exact⟨h,t⟩
theorem NY.rs{cs:List Value}:∀(l:List D) (off:Nat),NY w cs off l→cs.length=off+D.szs l→∃fp,Rs w l fp (cs.drop off)
 | [],off,_,h=>⟨[],by
  rw[D.szs,Y_]at h;rw[List.drop_eq_nil_of_le (by omega)];exact⟨rfl,rfl⟩⟩
 | d::l,off,⟨⟨f1,h1⟩,h2⟩,h=>by
   rw[D.szs]at h;obtain⟨f2,h3⟩:=NY.rs l (off+d.sz) h2 (by omega);refine⟨f1++f2,f1,f2,_,_,rfl, ?_,h1,h3⟩;rw[← List.drop_drop,j_]
def Rdg{α:Type}(enc:TypeId×Value→H)(P:Program)(w:World)(spare:Nat→Bool)(f:α→D)(t:TypeId)(fuel:Nat):Prop:=
 ∀(cs:List Value) (x:DataW H×List MemPlace),DataW.trod enc P w 0 spare true fuel t cs=some x→∃y:α,(∃fp,R w (f y) fp cs)∧(f y).wf
theorem Jr{α:Type}(f:α→D){s:Nat}(hs:∀y,(f y).sz=s){b:Nat}:∀(n o:Nat),(∀i,i<n→∃(cs:List Value) (y:α),cs.length=s∧At w b (o+i*s) cs∧(∃fp,R w (f y) fp cs)∧(f y).wf)→
 ∃(l:List α) (fp:List Nat) (cs:List Value),l.length=n∧Rs w (l.map f) fp cs∧At w b o cs∧D.wfs (l.map f)
 |0,_,_=>⟨[],[],[],rfl,⟨rfl,rfl⟩,fun j u hj=>by simp at hj,trivial⟩
 | n+1,o,h=>by
   obtain⟨c1,y,hl,ha,⟨f1,hr⟩,hw⟩:=h 0 (by omega);obtain⟨l,f2,c2,hn,hrs,ha2,hws⟩:=Jr f hs n (o+s) (fun i hi=>by
    obtain⟨cs,y,h1,h2,h3⟩:=h (i+1) (by omega);refine⟨cs,y,h1, ?_,h3⟩;rw[show o+s+i*s=o+(i+1)*s by rw[Nat.add_mul];omega];exact h2)
   refine⟨y::l,f1++f2,c1++c2,by simp[hn],⟨f1,f2,c1,c2,rfl,rfl,hr,hrs⟩,fun j u hj=> ?_,⟨hw,hws⟩⟩;by_cases hjl:j<c1.length
   ·rw[p_ hjl]at hj;have:=ha j u hj;rwa[Z_,Y_]at this
   ·rw[k_ (by omega)]at hj;have:=ha2 _ u hj;rwa[show o+s+(j - c1.length)=o+j by omega]at this
theorem SG{α:Type}{f:α→D}{t e:TypeId}{s:Nat}(ht:P.underlying t=some (.slice e))(hc:P.cellsOf e=s)(hs:∀y,(f y).sz=s)(h0:0<s)(fuel:Nat)
 (he:∀n,n<fuel→Rdg enc P w spare f e n):Rdg enc P w spare (fun l:List α=> .sl (l.map f)) t fuel:=fun cs x h=>by
 rcases DataW.trod_slice ht h with⟨rfl,_⟩|⟨a,len,cap,elems,rest,n,rfl,rfl,_,hb,hlc,hcap,hlen,hel,_,_⟩
 ·refine⟨[],⟨[], ?_⟩,trivial⟩;rw[R];exact⟨none,0,rfl,by simp,by simp,x_ ⟨rfl,rfl⟩⟩
 ·rw [hc]at hel;by_cases hz:len=0
  ·subst hz;refine⟨[],⟨[], ?_⟩,trivial⟩;rw[R];exact⟨some a,cap,rfl,by simp,hcap,x_ ⟨rfl,rfl⟩⟩
  ·have hel':∀i,i<len→∃(cs:List Value),w.cells? 0 (a.add (i*s)) s=some cs∧∃x,DataW.trod enc P w 0 spare true n e cs=some x:=fun i hi=>by
    have:=hel i hi;rw[e_ (by omega)]at this;obtain⟨cs,h1,h2⟩:=Option.bind_eq_some_iff.1 this;exact⟨cs,h1,_,h2⟩
   have hspot:a.spot=none:=by
    obtain⟨cs,h1,_⟩:=hel' 0 (by omega);obtain⟨_,h2,h3⟩:=J_ h1;have h4:=h3 0 h0;rw[Z_]at h4;have e1:(a.add 0).add 0=a:=by simp[Addr.add]
    rw[e1]at h4;have h5:(w.cell? a).isSome:=by rw[h4,e_ (by omega)];rfl
    unfold D_ at h5;cases hsp:a.spot with
    |none=>rfl
    |some q=>rw[hsp]at h5;split at h5<;>simp at h5
   obtain⟨b,o,sp⟩:=a;simp only at hspot;subst hspot;have hadd:∀i,(⟨b,o,none⟩:Addr).add i=⟨b,o+i,none⟩:=fun i=>by
    unfold Addr.add;split
    ·next h=>subst h;rfl
    ·rfl
   obtain⟨l,fp,cs',h1,h2,h3,h4⟩:=Jr (w:=w) f hs (b:=b) len o (fun i hi=>by
    obtain⟨cs,h1,x,h2⟩:=hel' i hi;obtain⟨y,hy,hw⟩:=he n (by omega) cs x h2;obtain⟨_,h4,h5⟩:=J_ h1;refine⟨cs,y,h4,fun j u hj=> ?_,hy,hw⟩;have hjl:j<s:=by have:=(h_.1 hj).1;omega
    have:=h5 j hjl;rw[hadd,show(⟨b,o+i*s,none⟩:Addr).add j=⟨b,o+i*s+j,none⟩ from by unfold Addr.add;split<;>simp_all]at this;rw[this,hj])
   have hb':b<w.heap.size:=by
    have hl0:cs'.length=len*s:=by
     rw[h2.len,kK (s:=s) _ (fun d hd=>by obtain⟨y,_,rfl⟩:=a_.1 hd;exact hs y),Q_,h1]
    have hpos:0<cs'.length:=by rw[hl0];exact Nat.mul_pos (by omega) h0
    have h5:=h3 0 _ (e_ hpos);rcases B_ b w.heap.size with hlt|hge
    ·exact hlt
    ·simp[D_,Array.getElem?_eq_none hge]at h5
   refine⟨l,⟨b::fp, ?_⟩,h4⟩;rw[R];exact⟨some ⟨b,o,none⟩,cap,by simp[h1],by simp[h1];exact hlc,hcap,l_ ⟨b,o,fp,cs',rfl,rfl,hb',h2,h3⟩⟩
theorem Rq{α:Type}{f:α→D}{t e:TypeId}{v:Value}{d:DataW H}{p:List MemPlace}{r:Reach}{b0:Nat}(hs:P.underlying t=some (.slice e))(hv:X_ P w r b0 t v)
 (hr:∀fuel,Rdg enc P w spare (fun l:List α=> .sl (l.map f)) t fuel) (h:DataW.Trod enc P w 0 spare true t v d p):∃(l:List α) (fp:List Nat),Sl w (l.map f) fp v∧D.wfs (l.map f):=by
 obtain⟨a,n,cap,rfl⟩:=okWide_slice hs hv;obtain⟨fuel,hf⟩:=h;obtain⟨y,⟨fp,hy⟩,hw⟩:=hr fuel _ _ hf;exact⟨y,fp,hy,hw⟩
end
section
variable{H:Type}{enc:TypeId×Value→H}{w:World}{spare:Nat→Bool}
end
end
section
open List renaming mem_map→a_,cons_append→c_,nil_append→d_,getElem?_eq_getElem→e_,append_nil→f_,getElem?_eq_some_iff→h_,take_append_drop→j_,getElem?_append_right→k_,mem_cons→m_,getElem?_append_left→p_,mem_append→y_,length_take→A_,singleton_append→F_,sizeOf_lt_of_mem→G_,mem_of_mem_take→H_,mem_iff_getElem→I_,all_eq_false→K_,length_cons→L_,all_eq_true→N_,nodup_cons→P_,length_map→Q_,mem_range→S_
open Lib renaming hid→b_
open Nat renaming lt_of_lt_of_le→g_,le_refl→o_,le_trans→r_,lt_or_ge→B_,zero_add→C_,zero_le→E_,min_eq_left→O_,add_assoc→T_,add_zero→Y_,zero_mul→Z_
open Below renaming heap_setCell→i_,heap_alloc→M_,refl→R_
open Or renaming inr→l_,inl→x_
open SizeOf renaming sizeOf→n_
open List.cons renaming injEq→q_
open Value renaming ownBlock→s_,oneCell'→t_,okWide→X_
open Value.slice renaming injEq→u_
open World renaming setCell→v_,cell?_setCell_other→z_,cell? →D_,cells?_some→J_,frozen? →V_
open Ending renaming returned→w_
theorem GOrigin.one_(x:GOrigin):x.toD.one:=by
 rw[GOrigin.bQ];simp[D.one,D.ones,li,ls,t_]
theorem GRow.one_(x:GRow):x.toD.one:=by
 rw[GRow.bQ];simp[D.one,D.ones,li,ls,t_]
theorem GVal.one_(x:GVal):x.toD.one:=by
 rw[GVal.bQ];simp[D.one,D.ones,li,ls,t_]
theorem GExpr.one_(x:GExpr):x.toD.one:=by
 rw[GExpr.bQ];simp[D.one,D.ones,li,ls,t_]
theorem GCell.one_(x:GCell):x.toD.one:=by
 rw[GCell.bQ];simp[D.one,D.ones,li,ls,t_]
def inR(n lo hi:Int):Bool:=decide (lo≤n) && decide (n≤hi)
def AX(v:Value)(w:World)(e:Ending)(w':World):Prop:=e= .returned v∧w=w'
def wW(v:Value)(w:World)(e:Ending)(w':World):Prop:=e= .returned v∧Below w.heap.size w w'
theorem rZ(n lo hi:Int)(w:World):Calls Tryz.prog 81 #[.int .i64 n,.int .i64 lo,.int .i64 hi] w (AX (.bool (inR n lo hi)) w):=by
 by_cases h1:lo≤n
 ·by_cases h2:n≤hi
  ·go_enter Tryz.func81,Tryz.ntmps81
   go_wp2
   go_ret
   exact⟨by simp[inR,h1,h2],rfl⟩
  ·have h3:decide (n≤hi)=false:=by simpa using h2
   go_enter Tryz.func81,Tryz.ntmps81
   go_wp2
   go_ret
   exact⟨by simp[inR,h1,h2],rfl⟩
 ·have h3:decide (lo≤n)=false:=by simpa using h1
  go_enter Tryz.func81,Tryz.ntmps81
  go_wp2
  go_ret
  exact⟨congrArg (fun b=>w_ (.bool b)) (by unfold inR;rw[h3];rfl),rfl⟩
theorem C9(n lo hi:Int)(w:World):Calls Tryz.prog 62 #[.int .i64 n,.int .i64 lo,.int .i64 hi] w (AX (.bool (inR n lo hi)) w):=by
 by_cases h1:lo≤n
 ·by_cases h2:n≤hi
  ·go_enter Tryz.func62,Tryz.ntmps62
   go_wp2
   go_ret
   exact⟨by simp[inR,h1,h2],rfl⟩
  ·have h3:decide (n≤hi)=false:=by simpa using h2
   go_enter Tryz.func62,Tryz.ntmps62
   go_wp2
   go_ret
   exact⟨by simp[inR,h1,h2],rfl⟩
 ·have h3:decide (lo≤n)=false:=by simpa using h1
  go_enter Tryz.func62,Tryz.ntmps62
  go_wp2
  go_ret
  exact⟨congrArg (fun b=>w_ (.bool b)) (by unfold inR;rw[h3];rfl),rfl⟩
def CV(c:UInt8):Bool:=decide (32≤(c.toNat:Int)) && decide ((c.toNat:Int)≤126)
def gB(s:ByteArray):Bool:=s.data.toList.all CV && decide ((s.size:Int)≤120)
theorem VK{p:UInt8→Bool}{s:ByteArray}(h:∀j (hj:j<s.size),p s[j]=true):s.data.toList.all p=true:=by
 rw[N_];intro c hc;obtain⟨i,hi,rfl⟩:=I_.1 hc;exact h i (by simpa using hi)
theorem BD{p:UInt8→Bool}{s:ByteArray}{j:Nat}(hj:j<s.size)(h:p s[j]=false):s.data.toList.all p=false:=by
 rw[K_];exact⟨s[j],I_.2 ⟨j,by simpa using hj,rfl⟩,by simp[h]⟩
theorem yZ(s:ByteArray)(hs:s.size≤9223372036854775807)(w:World):Calls Tryz.prog 98 #[.string s] w (AX (.bool (gB s)) w):=by
 go_enter Tryz.func98,Tryz.ntmps98
 go_wp2
 go_loop [3] (fun i=>∃k:Nat,k≤s.size∧i= .int .i64 k∧∀j (hj:j<s.size),j<k→CV s[j]=true) (fun i=>s.size - (intOf i).toNat)
 case atStart=>exact⟨0,E_ _,rfl,fun j hj h=>absurd h (by omega)⟩
 case round=>
  obtain⟨k,hk,rfl,hall⟩:=hrel;have hall':=b_ hall;clear hall;by_cases hlt:k<s.size
  ·by_cases h1:(s[k].toNat:Int)<32
   ·have hf:=b_ (show gB s=false by
     unfold gB;rw[BD hlt (by unfold CV;simp;omega)];rfl)
    go_wp2
    go_ret
    exact⟨fA hf.out.symm,rfl⟩
   ·by_cases h2:126<(s[k].toNat:Int)
    ·have hf:=b_ (show gB s=false by
      unfold gB;rw[BD hlt (by unfold CV;simp;omega)];rfl)
     go_wp2
     go_ret
     exact⟨fA hf.out.symm,rfl⟩
    ·have hf:=b_ (show CV s[k]=true by unfold CV;simp;omega)
     go_wp2
     go_round
     case rel=>exact⟨k+1,by omega,by go_num,fun j hj h=>by
      by_cases e:j=k
      ·subst e;exact hf.out
      ·exact hall'.out j hj (by omega)⟩
     case measure=>(simp[intOf]<;>omega)
  ·have hf:=b_ (show gB s=decide ((s.size:Int)≤120) by
    unfold gB;rw[VK (fun j hj=>hall'.out j hj (by omega))];rfl)
   go_wp2
   go_ret
   exact⟨fA hf.out.symm,rfl⟩
theorem yY(s:ByteArray)(hs:s.size≤9223372036854775807)(w:World):Calls Tryz.prog 63 #[.string s] w (AX (.bool (gB s)) w):=by
 go_enter Tryz.func63,Tryz.ntmps63
 go_wp2
 go_loop [3] (fun i=>∃k:Nat,k≤s.size∧i= .int .i64 k∧∀j (hj:j<s.size),j<k→CV s[j]=true) (fun i=>s.size - (intOf i).toNat)
 case atStart=>exact⟨0,E_ _,rfl,fun j hj h=>absurd h (by omega)⟩
 case round=>
  obtain⟨k,hk,rfl,hall⟩:=hrel;have hall':=b_ hall;clear hall;by_cases hlt:k<s.size
  ·by_cases h1:(s[k].toNat:Int)<32
   ·have hf:=b_ (show gB s=false by
     unfold gB;rw[BD hlt (by unfold CV;simp;omega)];rfl)
    go_wp2
    go_ret
    exact⟨fA hf.out.symm,rfl⟩
   ·by_cases h2:126<(s[k].toNat:Int)
    ·have hf:=b_ (show gB s=false by
      unfold gB;rw[BD hlt (by unfold CV;simp;omega)];rfl)
     go_wp2
     go_ret
     exact⟨fA hf.out.symm,rfl⟩
    ·have hf:=b_ (show CV s[k]=true by unfold CV;simp;omega)
     go_wp2
     go_round
     case rel=>exact⟨k+1,by omega,by go_num,fun j hj h=>by
      by_cases e:j=k
      ·subst e;exact hf.out
      ·exact hall'.out j hj (by omega)⟩
     case measure=>(simp[intOf]<;>omega)
  ·have hf:=b_ (show gB s=decide ((s.size:Int)≤120) by
    unfold gB;rw[VK (fun j hj=>hall'.out j hj (by omega))];rfl)
   go_wp2
   go_ret
   exact⟨fA hf.out.symm,rfl⟩
theorem ilt(a b:Int):a<b∨b≤a:=by omega
def mP(c:UInt8):Bool:=decide (97≤(c.toNat:Int)) && decide ((c.toNat:Int)≤122)
def mQ(c:UInt8):Bool:=decide (48≤(c.toNat:Int)) && decide ((c.toNat:Int)≤57)
def lQ(j:Nat)(c:UInt8):Bool:=mP c ||(decide (0<j) && mQ c)
def l9(s:ByteArray):Bool:=decide (0<s.size) && (List.range s.size).all fun j=>lQ j (s.data.toList.getD j 0)
def jO(s:ByteArray):Bool:=l9 s && decide ((s.size:Int)≤8)
theorem xW(s:ByteArray)(j:Nat)(h:j<s.size):s.data.toList.getD j 0=s[j]:=by
 rw[List.getD_eq_getElem?_getD,e_ (by simpa using h)];rfl
theorem ku{s:ByteArray}{j:Nat}(hj:j<s.size)(h:lQ j s[j]=false):l9 s=false:=by
 unfold l9;rw[Bool.and_eq_false_iff];refine l_ (K_.2 ⟨j,S_.2 hj, ?_⟩);rw[xW s j hj,h];decide
theorem zL{s:ByteArray}(h:∀j (hj:j<s.size),lQ j s[j]=true):l9 s=decide (0<(s.size:Int)):=by
 unfold l9;rw[N_.2 (fun j hj=>by rw[xW s j (S_.1 hj)];exact h j _),Bool.and_true];simp
theorem mG{s:ByteArray}{j:Nat}(hj:j<s.size)(h:lQ j s[j]=false):jO s=false:=by
 unfold jO;rw[ku hj h];rfl
theorem MK{s:ByteArray}(h:∀j (hj:j<s.size),lQ j s[j]=true):jO s=inR s.size 1 8:=by
 unfold jO inR;rw[zL h];congr 1
theorem JV(s:ByteArray)(hs:s.size≤9223372036854775807)(w:World):Calls Tryz.prog 124 #[.string s] w (AX (.bool (jO s)) w):=by
 go_enter Tryz.func124,Tryz.ntmps124
 go_wp2
 go_loop [3] (fun i=>∃k:Nat,k≤s.size∧i= .int .i64 k∧∀j (hj:j<s.size),j<k→lQ j s[j]=true) (fun i=>s.size - (intOf i).toNat)
 case atStart=>exact⟨0,E_ _,rfl,fun j hj h=>absurd h (by omega)⟩
 case round=>
  obtain⟨k,hk,rfl,hall⟩:=hrel;have hall':=b_ hall;clear hall;by_cases hlt:k<s.size
  ·rcases ilt (s[k].toNat:Int) 97 with h1|h1
   ·have d1:decide (97≤(s[k].toNat:Int))=false:=by simp;omega
    by_cases hk0:k=0
    ·have hk1:((k:Int)==0)=true:=by simp[hk0]
     have hk2:lQ k s[k]=false:=by unfold lQ mP mQ;simp;omega
     clear hk0;have hf:=b_ (show false=jO s from(mG hlt (hk2)).symm);clear hk2
     go_wp2
     all_goals(go_ret;exact⟨fA hf.out,rfl⟩)
    ·have hk1:((k:Int)==0)=false:=by simp;omega
     rcases ilt (s[k].toNat:Int) 48 with h3|h3
     ·have d2:decide (48≤(s[k].toNat:Int))=false:=by simp;omega
      have hf:=b_ (show false=jO s from(mG hlt (by unfold lQ mP mQ;simp;omega)).symm)
      go_wp2
      all_goals(go_ret;exact⟨fA hf.out,rfl⟩)
     ·rcases ilt 57 (s[k].toNat:Int)with h4|h4
      ·have d2:decide ((s[k].toNat:Int)≤57)=false:=by simp;omega
       have hf:=b_ (show false=jO s from(mG hlt (by unfold lQ mP mQ;simp;omega)).symm)
       go_wp2
       all_goals(go_ret;exact⟨fA hf.out,rfl⟩)
      ·skip
       have hf:=b_ (show lQ k s[k]=true from by unfold lQ mP mQ;simp;omega)
       go_wp2
       go_round
       case rel=>exact⟨k+1,by omega,by go_num,fun j hj h=>by
        by_cases e:j=k
        ·subst e;exact hf.out
        ·exact hall'.out j hj (by omega)⟩
       case measure=>(simp[intOf]<;>omega)
   ·rcases ilt 122 (s[k].toNat:Int)with h2|h2
    ·have d1:decide ((s[k].toNat:Int)≤122)=false:=by simp;omega
     by_cases hk0:k=0
     ·have hk1:((k:Int)==0)=true:=by simp[hk0]
      have hk2:lQ k s[k]=false:=by unfold lQ mP mQ;simp;omega
      clear hk0;have hf:=b_ (show false=jO s from(mG hlt (hk2)).symm);clear hk2
      go_wp2
      all_goals(go_ret;exact⟨fA hf.out,rfl⟩)
     ·have hk1:((k:Int)==0)=false:=by simp;omega
      rcases ilt (s[k].toNat:Int) 48 with h3|h3
      ·have d2:decide (48≤(s[k].toNat:Int))=false:=by simp;omega
       have hf:=b_ (show false=jO s from(mG hlt (by unfold lQ mP mQ;simp;omega)).symm)
       go_wp2
       all_goals(go_ret;exact⟨fA hf.out,rfl⟩)
      ·rcases ilt 57 (s[k].toNat:Int)with h4|h4
       ·have d2:decide ((s[k].toNat:Int)≤57)=false:=by simp;omega
        have hf:=b_ (show false=jO s from(mG hlt (by unfold lQ mP mQ;simp;omega)).symm)
        go_wp2
        all_goals(go_ret;exact⟨fA hf.out,rfl⟩)
       ·skip
        omega
    ·skip
     have hf:=b_ (show lQ k s[k]=true from by unfold lQ mP mQ;simp;omega)
     go_wp2
     go_round
     case rel=>exact⟨k+1,by omega,by go_num,fun j hj h=>by
      by_cases e:j=k
      ·subst e;exact hf.out
      ·exact hall'.out j hj (by omega)⟩
     case measure=>(simp[intOf]<;>omega)
  ·have hf:=b_ (show inR s.size 1 8=jO s from(MK (fun j hj=>hall'.out j hj (by omega))).symm)
   go_wp2_with (go_at_call 81;refine(rZ _ _ _ _).mono ?_;rintro e w' ⟨rfl,rfl⟩)
   go_ret
   exact⟨fA hf.out,rfl⟩
theorem Ik(s:ByteArray)(hs:s.size≤9223372036854775807)(w:World):Calls Tryz.prog 101 #[.string s] w (AX (.bool (l9 s)) w):=by
 go_enter Tryz.func101,Tryz.ntmps101
 go_wp2
 go_loop [3] (fun i=>∃k:Nat,k≤s.size∧i= .int .i64 k∧∀j (hj:j<s.size),j<k→lQ j s[j]=true) (fun i=>s.size - (intOf i).toNat)
 case atStart=>exact⟨0,E_ _,rfl,fun j hj h=>absurd h (by omega)⟩
 case round=>
  obtain⟨k,hk,rfl,hall⟩:=hrel;have hall':=b_ hall;clear hall;by_cases hlt:k<s.size
  ·rcases ilt (s[k].toNat:Int) 97 with h1|h1
   ·have d1:decide (97≤(s[k].toNat:Int))=false:=by simp;omega
    by_cases hk0:k=0
    ·have hk1:((k:Int)==0)=true:=by simp[hk0]
     have hk2:lQ k s[k]=false:=by unfold lQ mP mQ;simp;omega
     clear hk0;have hf:=b_ (show false=l9 s from(ku hlt (hk2)).symm);clear hk2
     go_wp2
     all_goals(go_ret;exact⟨fA hf.out,rfl⟩)
    ·have hk1:((k:Int)==0)=false:=by simp;omega
     rcases ilt (s[k].toNat:Int) 48 with h3|h3
     ·have d2:decide (48≤(s[k].toNat:Int))=false:=by simp;omega
      have hf:=b_ (show false=l9 s from(ku hlt (by unfold lQ mP mQ;simp;omega)).symm)
      go_wp2
      all_goals(go_ret;exact⟨fA hf.out,rfl⟩)
     ·rcases ilt 57 (s[k].toNat:Int)with h4|h4
      ·have d2:decide ((s[k].toNat:Int)≤57)=false:=by simp;omega
       have hf:=b_ (show false=l9 s from(ku hlt (by unfold lQ mP mQ;simp;omega)).symm)
       go_wp2
       all_goals(go_ret;exact⟨fA hf.out,rfl⟩)
      ·skip
       have hf:=b_ (show lQ k s[k]=true from by unfold lQ mP mQ;simp;omega)
       go_wp2
       go_round
       case rel=>exact⟨k+1,by omega,by go_num,fun j hj h=>by
        by_cases e:j=k
        ·subst e;exact hf.out
        ·exact hall'.out j hj (by omega)⟩
       case measure=>(simp[intOf]<;>omega)
   ·rcases ilt 122 (s[k].toNat:Int)with h2|h2
    ·have d1:decide ((s[k].toNat:Int)≤122)=false:=by simp;omega
     by_cases hk0:k=0
     ·have hk1:((k:Int)==0)=true:=by simp[hk0]
      have hk2:lQ k s[k]=false:=by unfold lQ mP mQ;simp;omega
      clear hk0;have hf:=b_ (show false=l9 s from(ku hlt (hk2)).symm);clear hk2
      go_wp2
      all_goals(go_ret;exact⟨fA hf.out,rfl⟩)
     ·have hk1:((k:Int)==0)=false:=by simp;omega
      rcases ilt (s[k].toNat:Int) 48 with h3|h3
      ·have d2:decide (48≤(s[k].toNat:Int))=false:=by simp;omega
       have hf:=b_ (show false=l9 s from(ku hlt (by unfold lQ mP mQ;simp;omega)).symm)
       go_wp2
       all_goals(go_ret;exact⟨fA hf.out,rfl⟩)
      ·rcases ilt 57 (s[k].toNat:Int)with h4|h4
       ·have d2:decide ((s[k].toNat:Int)≤57)=false:=by simp;omega
        have hf:=b_ (show false=l9 s from(ku hlt (by unfold lQ mP mQ;simp;omega)).symm)
        go_wp2
        all_goals(go_ret;exact⟨fA hf.out,rfl⟩)
       ·skip
        omega
    ·skip
     have hf:=b_ (show lQ k s[k]=true from by unfold lQ mP mQ;simp;omega)
     go_wp2
     go_round
     case rel=>exact⟨k+1,by omega,by go_num,fun j hj h=>by
      by_cases e:j=k
      ·subst e;exact hf.out
      ·exact hall'.out j hj (by omega)⟩
     case measure=>(simp[intOf]<;>omega)
  ·have hf:=b_ (show decide (0<s.size)=l9 s from((zL (fun j hj=>hall'.out j hj (by omega))).trans (by simp)).symm)
   go_wp2
   go_ret
   exact⟨fA hf.out,rfl⟩
end
end Go.Proofs.YtfengkmaphbofaaGreatDoor
