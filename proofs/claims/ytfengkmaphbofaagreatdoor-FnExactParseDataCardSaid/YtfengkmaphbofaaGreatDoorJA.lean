/-
  Texts joined: Lib Types App Fin Mark Mk Own Read Kinds Names.
-/
import Derived.WalkKit
import Derived.WalkSpells
import Derived.WalkLawsBesides
import Derived.ProofKit
import Derived.OpenShut
import Derived.Below
import Derived.Carry
import Derived.Outline
import Derived.Lib.Hide
import Derived.Laws.OwnMore
import Derived.Laws.MakeOwn
import Derived.Maps.AppendAt
import Derived.Deep.AppendLies
import Derived.Deep.RegionHeld3
import Derived.Deep.DeepCutAuto
import Derived.Deep.DeepFit
import Derived.Deep.QuietTactic
import Derived.Deep.Slices
import Derived.BigQuiet
import Derived.RegionTactic
import Derived.OwnWalk
import Derived.Test.YtfengkmaphbofaaGreatDoorRows
import Derived.ChangeSame
import Derived.Test.YtfengkmaphbofaaGreatDoorProg
import Derived.Laws.IdiomStrings
import Derived.Laws.Concat
import Derived.KernelRfl
set_option maxHeartbeats 1000000
set_option maxRecDepth 20000
set_option linter.unusedSimpArgs false
set_option linter.unusedVariables false
namespace Go.Proofs.YtfengkmaphbofaaGreatDoor
open Go.RowKit
section
open List renaming mem_map→a_,cons_append→b_,nil_append→c_,getElem?_append_right→d_,length_take→f_,getElem?_append_left→h_,take_append_drop→i_,append_nil→j_,mem_append→k_,getElem?_eq_some_iff→l_,getElem?_eq_getElem→m_,take_succ_eq_append_getElem→n_,length_cons→u_,mem_of_mem_take→v_,mem_cons→w_,drop_eq_getElem_cons→z_,nodup_append→D_,length_append→J_,nodup_cons→N_,drop_eq_nil_of_le→O_,singleton_append→P_,sizeOf_lt_of_mem→Q_,append_assoc→U_,mem_range→W_
open Nat renaming lt_of_lt_of_le→e_,le_refl→q_,le_trans→t_,min_eq_left→A_,lt_or_ge→H_,zero_add→I_,add_assoc→R_,add_zero→S_,sub_self→T_
open Lib renaming hid→g_
open Below renaming heap_setCell→o_,refl→L_,heap_alloc→V_
open List.cons renaming injEq→p_
open Value.slice renaming injEq→r_
open Or renaming inr→s_,inl→K_
open SizeOf renaming sizeOf→x_
open Ending renaming returned→y_
open Value renaming ownBlock→B_,oneCell'→C_,okWide→a_a
open UInt8 renaming ofNat→E_
open World renaming setCell→F_,cell?_of_block→G_,cell?_setCell_other→M_,frozen? →Y_,cell? →a_b
theorem Va{a b:Prop}(h:a)(g:b):a∧b:=⟨h,g⟩
theorem fU{k:IntKind}{a b:Int}(h:a=b):y_ (.int k a)= .returned (.int k b):=by rw[h]
theorem fV{a b:Bool}(h:a=b):y_ (.bool a)= .returned (.bool b):=by rw[h]
def At(w:World)(b o:Nat)(cs:List Value):Prop:=∀j u,cs[j]? =some u→w.cell? ⟨b,o+j,none⟩=some u
theorem At.head{w:World}{b o:Nat}{c:Value}{cs:List Value}(h:At w b o (c::cs)):w.cell? ⟨b,o,none⟩=some c:=h 0 c rfl
theorem At.nth{w:World}{b o:Nat}{cs:List Value}(h:At w b o cs)(j:Nat){u:Value}(hj:cs[j]? =some u):w.cell? ⟨b,o+j,none⟩=some u:=h j u hj
theorem At.left{w:World}{b o:Nat}{c1 c2:List Value}(h:At w b o (c1++c2)):At w b o c1:=fun j u hj=>by
 refine h j u ?_;rw[h_]
 ·exact hj
 ·exact(l_.1 hj).1
theorem At.right{w:World}{b o:Nat}{c1 c2:List Value}(h:At w b o (c1++c2)):At w b (o+c1.length) c2:=fun j u hj=>by
 have:=h (c1.length+j) u (by rw[d_ (by omega)];simpa using hj);rwa[← R_]at this
inductive D where
 |leaf (v:Value)
 |sl (l:List D)
 |agg (l:List D)
mutual
def R(w:World):D→List Nat→List Value→Prop
 | .leaf v,fp,cs=>fp= []∧cs= [v]
 | .agg l,fp,cs=>Rs w l fp cs
 | .sl l,fp,cs=>∃A cap,cs= [.slice A l.length cap]∧l.length≤cap∧cap≤maxLen∧((l= []∧fp= [])∨∃b o fp' cs',A=some ⟨b,o,none⟩∧fp=b::fp'∧b<w.heap.size∧Rs w l fp' cs'∧At w b o cs')
def Rs(w:World):List D→List Nat→List Value→Prop
 | [],fp,cs=>fp= []∧cs= []
 |d::l,fp,cs=>∃f1 f2 c1 c2,fp=f1++f2∧cs=c1++c2∧R w d f1 c1∧Rs w l f2 c2
end
mutual
def D.sz :D→Nat
 | .leaf _=>1
 | .sl _=>1
 | .agg l=>D.szs l
def D.szs :List D→Nat
 | []=>0
 |d::l=>d.sz+D.szs l
end
mutual
theorem R.len{w:World}:∀{d:D} {fp:List Nat} {cs:List Value},R w d fp cs→cs.length=d.sz
 | .leaf _,_,_,h=>by rw[h.2];rfl
 | .sl _,_,_,h=>by obtain⟨A,cap,rfl,_⟩:=h;rfl
 | .agg l,_,_,h=>by rw[D.sz];exact Rs.len (l:=l) (by simpa[R]using h)
theorem Rs.len{w:World}:∀{l:List D} {fp:List Nat} {cs:List Value},Rs w l fp cs→cs.length=D.szs l
 | [],_,_,h=>by rw[h.2];rfl
 | d::l,_,_,h=>by
   obtain⟨f1,f2,c1,c2,rfl,rfl,h1,h2⟩:=h;rw[J_,h1.len,Rs.len h2,D.szs]
end
mutual
theorem R.same{w w':World}:∀{d:D} {fp:List Nat} {cs:List Value},R w d fp cs→(∀b∈fp,w'.heap[b]? =w.heap[b]?)→w.heap.size≤w'.heap.size→R w' d fp cs
 | .leaf _,_,_,h,_,_=>h
 | .agg l,fp,cs,h,hs,hz=>by
   rw[R]at h⊢;exact Rs.same h hs hz
 | .sl l,fp,cs,h,hs,hz=>by
   rw[R]at h⊢;obtain⟨A,cap,rfl,h1,h2,h3⟩:=h;refine⟨A,cap,rfl,h1,h2, ?_⟩;rcases h3 with h3|⟨b,o,fp',cs',rfl,rfl,hb,hr,ha⟩
   ·exact K_ h3
   ·refine s_ ⟨b,o,fp',cs',rfl,rfl,by omega,Rs.same hr (fun x hx=>hs x (by simp[hx])) hz,fun j u hj=> ?_⟩;rw[G_ (w:=w) (hs b (by simp))];exact ha j u hj
theorem Rs.same{w w':World}:∀{l:List D} {fp:List Nat} {cs:List Value},Rs w l fp cs→(∀b∈fp,w'.heap[b]? =w.heap[b]?)→w.heap.size≤w'.heap.size→Rs w' l fp cs
 | [],_,_,h,_,_=>h
 | d::l,_,_,h,hs,hz=>by
   obtain⟨f1,f2,c1,c2,rfl,rfl,h1,h2⟩:=h;exact⟨f1,f2,c1,c2,rfl,rfl,h1.same (fun b hb=>hs b (by simp[hb])) hz,Rs.same h2 (fun b hb=>hs b (by simp[hb])) hz⟩
end
mutual
theorem R.lt{w:World}:∀{d:D} {fp:List Nat} {cs:List Value},R w d fp cs→∀b∈fp,b<w.heap.size
 | .leaf _,_,_,h,b,hb=>by rw[h.1]at hb;simp at hb
 | .agg l,fp,cs,h,b,hb=>by
   rw[R]at h;exact Rs.lt h b hb
 | .sl l,fp,cs,h,b,hb=>by
   rw[R]at h;obtain⟨A,cap,rfl,h1,h2,h3⟩:=h;rcases h3 with h3|⟨b',o,fp',cs',rfl,rfl,hb',hr,ha⟩
   ·rw[h3.2]at hb;simp at hb
   ·rcases w_.1 hb with rfl|hb
    ·exact hb'
    ·exact Rs.lt hr b hb
theorem Rs.lt{w:World}:∀{l:List D} {fp:List Nat} {cs:List Value},Rs w l fp cs→∀b∈fp,b<w.heap.size
 | [],_,_,h,b,hb=>by rw[h.1]at hb;simp at hb
 | d::l,_,_,h,b,hb=>by
   obtain⟨f1,f2,c1,c2,rfl,rfl,h1,h2⟩:=h;rcases k_.1 hb with hb|hb
   ·exact h1.lt b hb
   ·exact Rs.lt h2 b hb
end
theorem R.below{w w':World}{d:D}{fp:List Nat}{cs:List Value}(h:R w d fp cs)(hb:Below w.heap.size w w'):R w' d fp cs:=
 h.same (fun b hm=>hb.block b (h.lt b hm)) hb.size
theorem Rs.below{w w':World}{l:List D}{fp:List Nat}{cs:List Value}(h:Rs w l fp cs)(hb:Below w.heap.size w w'):Rs w' l fp cs:=
 h.same (fun b hm=>hb.block b (h.lt b hm)) hb.size
theorem R.grown{w w':World}{row:Option Nat}{d:D}{fp:List Nat}{cs:List Value}(h:R w d fp cs)(hg:w.grownBy w' row)(hn:∀g,row=some g→g∉fp):R w' d fp cs:=
 h.same (fun b hm=>hg.block b (h.lt b hm) (fun e=>hn b e.symm hm)) hg.size
theorem Rs.grown{w w':World}{row:Option Nat}{l:List D}{fp:List Nat}{cs:List Value}(h:Rs w l fp cs)(hg:w.grownBy w' row)(hn:∀g,row=some g→g∉fp):Rs w' l fp cs:=
 h.same (fun b hm=>hg.block b (h.lt b hm) (fun e=>hn b e.symm hm)) hg.size
theorem R.setCell{w:World}{d:D}{fp:List Nat}{cs:List Value}(h:R w d fp cs){p:Addr}(hp:p.block∉fp)(u:Value):R (w.setCell p u) d fp cs:=
 h.same (fun b hm=>o_ _ _ _ _ (fun e=>hp (e▸hm))) (by simp[F_])
theorem Rs.setCell{w:World}{l:List D}{fp:List Nat}{cs:List Value}(h:Rs w l fp cs){p:Addr}(hp:p.block∉fp)(u:Value):Rs (w.setCell p u) l fp cs:=
 h.same (fun b hm=>o_ _ _ _ _ (fun e=>hp (e▸hm))) (by simp[F_])
theorem Rs.append{w:World}{l2:List D}{f2:List Nat}{c2:List Value}(h2:Rs w l2 f2 c2):∀{l1:List D} {f1:List Nat} {c1:List Value},Rs w l1 f1 c1→Rs w (l1++l2) (f1++f2) (c1++c2)
 | [],_,_,h=>by rw[h.1,h.2];exact h2
 | d::l,_,_,h=>by
   obtain⟨g1,g2,e1,e2,rfl,rfl,h1,h3⟩:=h;exact⟨g1,g2++f2,e1,e2++c2,by simp,by simp,h1,Rs.append h2 h3⟩
theorem Rs.split{w:World}{l2:List D}:∀{l1:List D} {f:List Nat} {c:List Value},Rs w (l1++l2) f c→∃f1 f2 c1 c2,f=f1++f2∧c=c1++c2∧Rs w l1 f1 c1∧Rs w l2 f2 c2
 | [],f,c,h=>⟨[],f,[],c,rfl,rfl,⟨rfl,rfl⟩,h⟩
 | d::l,_,_,h=>by
   obtain⟨g1,g2,e1,e2,rfl,rfl,h1,h3⟩:=h;obtain⟨f1,f2,c1,c2,rfl,rfl,h4,h5⟩:=Rs.split (l1:=l) h3;exact⟨g1++f1,f2,e1++c1,c2,by simp,by simp,⟨g1,f1,e1,c1,rfl,rfl,h1,h4⟩,h5⟩
theorem Rs.one{w:World}{d:D}{f:List Nat}{c:List Value}(h:R w d f c):Rs w [d] f c:=⟨f,[],c,[],by simp,by simp,h,rfl,rfl⟩
theorem Rs.EH{w:World}{d:D}{f:List Nat}{c:List Value}(h:Rs w [d] f c):R w d f c:=by
 obtain⟨f1,f2,c1,c2,rfl,rfl,h1,h2,h3⟩:=h;simpa[h2,h3]using h1
theorem jL{s:Nat}:∀(l:List D),(∀d∈l,d.sz=s)→D.szs l=l.length*s
 | [],_=>by simp[D.szs]
 | d::l,h=>by
   rw[D.szs,jL l (fun x hx=>h x (by simp[hx])),h d (by simp),u_,Nat.add_mul];omega
theorem Rs.get{w:World}{s:Nat}{l:List D}{fp:List Nat}{cs:List Value}(h:Rs w l fp cs)(hs:∀d∈l,d.sz=s){i:Nat}{d:D}(hd:l[i]? =some d):
 ∃fi ci,R w d fi ci∧(∀x∈fi,x∈fp)∧∀j u,ci[j]? =some u→cs[i*s+j]? =some u:=by
 obtain⟨hi,hd'⟩:=l_.1 hd;have e:l=l.take i++(d::l.drop (i+1)):=by rw[← hd',← z_,i_]
 rw[e]at h;obtain⟨f1,f2,c1,c2,rfl,rfl,h1,h2⟩:=Rs.split h;obtain⟨g1,g2,e1,e2,rfl,rfl,h3,h4⟩:=h2;refine⟨g1,e1,h3,fun x hx=>by simp[hx],fun j u hj=> ?_⟩;have hl:c1.length=i*s:=by
  rw[h1.len,jL (s:=s) _ (fun x hx=>hs x (v_ hx)),f_,A_ (by omega)]
 rw[d_ (by omega),hl,show i*s+j - i*s=j by omega,h_]
 ·exact hj
 ·exact(l_.1 hj).1
def Sl(w:World)(l:List D)(fp:List Nat)(v:Value):Prop:=R w (.sl l) fp [v]
theorem Sl.form{w:World}{l:List D}{fp:List Nat}{v:Value}(h:Sl w l fp v):∃A cap,v= .slice A l.length cap∧l.length≤cap∧cap≤maxLen:=by
 unfold Sl at h;rw[R]at h;obtain⟨A,cap,h1,h2,h3,_⟩:=h;simp only[p_,and_true]at h1;exact⟨A,cap,h1,h2,h3⟩
theorem Sl.elem{w:World}{s:Nat}{l:List D}{fp:List Nat}{A:Option Addr}{n cap:Nat}(h:Sl w l fp (.slice A n cap))(hs:∀d∈l,d.sz=s){k:Nat}{d:D}(hd:l[k]? =some d):
 ∃b o fi ci,A=some ⟨b,o,none⟩∧b<w.heap.size∧b∈fp∧R w d fi ci∧(∀x∈fi,x∈fp)∧At w b (o+k*s) ci:=by
 unfold Sl at h;rw[R]at h;obtain⟨A',cap',h1,_,_,h3⟩:=h;simp only[p_,and_true,r_]at h1;obtain⟨rfl,rfl,rfl⟩:=h1;rcases h3 with⟨rfl,_⟩|⟨b,o,fp',cs',rfl,rfl,hb,hr,ha⟩
 ·simp at hd
 ·obtain⟨fi,ci,h4,h5,h6⟩:=hr.get hs hd;exact⟨b,o,fi,ci,rfl,hb,by simp,h4,fun x hx=>by simp[h5 x hx],fun j u hj=>by
   have:=ha _ u (h6 j u hj);rwa[← R_]at this⟩
theorem Sl.below{w w':World}{l:List D}{fp:List Nat}{v:Value}(h:Sl w l fp v)(hb:Below w.heap.size w w'):Sl w' l fp v:=R.below h hb
def gV(w:World)(base:Nat)(fp:List Nat):Prop:=fp.Nodup∧∀b∈fp,base≤b∧∀o,w.frozen? ⟨b,o,none⟩=false
theorem gV.nil{w:World}{base:Nat}:gV w base []:=⟨List.nodup_nil,fun _ h=>by simp at h⟩
theorem gV.same{w w':World}{base:Nat}{fp:List Nat}(h:gV w base fp)(hs:∀b∈fp,w'.heap[b]? =w.heap[b]?):gV w' base fp:=
 ⟨h.1,fun b hb=>⟨(h.2 b hb).1,fun o=>by rw[World.frozen?_of_block (w:=w) (hs b hb)];exact(h.2 b hb).2 o⟩⟩
theorem gV.mono{w:World}{base base':Nat}{fp:List Nat}(h:gV w base fp)(hb:base'≤base):gV w base' fp:=
 ⟨h.1,fun b hm=>⟨t_ hb (h.2 b hm).1,(h.2 b hm).2⟩⟩
theorem Sl.of_own{w:World}{base:Nat}{e:TypeId}{s:Nat}{v:Value}{l:List D}{fp:List Nat}{cs:List Value}(h:w.ownsRow base e s v l.length cs)(hr:Rs w l fp cs):
 Sl w l (v.ownBlock.toList++fp) v:=by
 unfold Sl;rw[R];obtain⟨h1,h2⟩:=h;rcases h2 with⟨rfl,h3⟩|⟨g,cap,cur,rfl,hg,hh,hn,hm,hsz,ht⟩
 ·have hl:l= []:=List.eq_nil_of_length_eq_zero h3;subst hl;exact⟨none,0,by simp,by simp,by simp,K_ ⟨rfl,by simpa[B_]using hr.1⟩⟩
 ·refine⟨some ⟨g,0,none⟩,cap,rfl,hn,hm,s_ ⟨g,0,fp,cs,rfl,by simp[B_], ?_,hr,fun j u hj=> ?_⟩⟩
  ·rcases H_ g w.heap.size with hlt|hge
   ·exact hlt
   ·rw[Array.getElem?_eq_none hge]at hh;cases hh
  ·subst ht;simp only[I_,a_b,hh];rw[List.getElem?_take]at hj;split at hj
   ·simpa using hj
   ·cases hj
theorem gV.of_own{w:World}{base:Nat}{e:TypeId}{s n:Nat}{v:Value}{fp:List Nat}{cs:List Value}(h:w.ownsRow base e s v n cs)(hf:gV w base fp)(hn:∀g,v.ownBlock=some g→g∉fp):
 gV w base (v.ownBlock.toList++fp):=by
 obtain⟨h1,h2⟩:=h;rcases h2 with⟨rfl,h3⟩|⟨g,cap,cur,rfl,hg,hh,_⟩
 ·simpa[B_]using hf
 ·refine⟨by simp only[B_,Option.toList,P_,N_];exact⟨hn g rfl,hf.1⟩,fun b hb=> ?_⟩;simp only[B_,Option.toList,P_,w_]at hb;rcases hb with rfl|hb
  ·refine⟨hg,fun o=> ?_⟩;simp only[Y_,hh];simp
  ·exact hf.2 b hb
def Uf :Value→Prop
 | .int k n=>(Lit.int k n).wf=true
 | .string s=>s.size≤maxLen
 |_=>True
def Ue :Value→Nat
 | .string s=>s.size
 |_=>0
mutual
def D.wf :D→Prop
 | .leaf v=>Uf v
 | .sl l=>D.wfs l
 | .agg l=>D.wfs l
def D.wfs :List D→Prop
 | []=>True
 |d::l=>d.wf∧D.wfs l
end
mutual
def D.wt :D→Nat
 | .leaf v=>Ue v
 | .sl l=>l.length+D.wts l
 | .agg l=>D.wts l
def D.wts :List D→Nat
 | []=>0
 |d::l=>d.wt+D.wts l
end
def su(left:Int)(k:Nat)(r:Int):Prop:=(left<k∧r= -1)∨((k:Int)≤left∧r=left - k)
theorem su.step{a b:Int}{j k:Nat}(h:su a j b){c:Int}(hb:0≤b)(h':su b k c):su a (j+k) c:=by
 unfold su at*;omega
theorem su.sub{a:Int}{k:Nat}(h:(k:Int)≤a):su a k (a - k):=by
 unfold su;omega
theorem su.out{a:Int}{k:Nat}(h:a<k):su a k (-1):=by
 unfold su;omega
theorem Sl.fK{α:Type}{f:α→D}{w:World}{l:List α}{fp:List Nat}{v:Value}(h:Sl w (l.map f) fp v):∃A cap,v= .slice A l.length cap∧l.length≤cap∧cap≤maxLen:=by
 obtain⟨A,cap,h1,h2,h3⟩:=h.form;rw[List.length_map]at h1 h2;exact⟨A,cap,h1,h2,h3⟩
def QY(d:D)(w:World)(e:Ending)(w':World):Prop:=∃fp cs,e= .returned (.agg cs.toArray)∧R w' d fp cs∧gV w' w.heap.size fp∧Below w.heap.size w w'
def zI(l:List D)(w:World)(e:Ending)(w':World):Prop:=∃fp v,e= .returned v∧Sl w' l fp v∧gV w' w.heap.size fp∧Below w.heap.size w w'
def Row(w:World)(g:Nat)(e:TypeId)(xs:List Value):Prop:=w.heap[g]? =some (.cells xs.toArray e (0,0))
theorem Row.lt{w:World}{g:Nat}{e:TypeId}{xs:List Value}(h:Row w g e xs):g<w.heap.size:=by
 rcases H_ g w.heap.size with hlt|hge
 ·exact hlt
 ·unfold Row at h;rw[Array.getElem?_eq_none hge]at h;cases h
theorem Row.cell{w:World}{g:Nat}{e:TypeId}{xs:List Value}(h:Row w g e xs)(i:Nat):w.cell? ⟨g,i,none⟩=xs[i]? :=by
 unfold Row at h;simp[a_b,h]
theorem Row.at_{w:World}{g:Nat}{e:TypeId}{xs:List Value}(h:Row w g e xs){i:Nat}(hi:i<xs.length):w.cell? ⟨g,i,none⟩=some xs[i]:=by
 rw[h.cell,m_ hi]
theorem Row.frozen{w:World}{g:Nat}{e:TypeId}{xs:List Value}(h:Row w g e xs)(i:Nat):w.frozen? ⟨g,i,none⟩=false:=by
 unfold Row at h;simp[Y_,h]
theorem Row.set{w:World}{g:Nat}{e:TypeId}{xs:List Value}(h:Row w g e xs)(i:Nat)(u:Value):Row (w.setCell ⟨g,i,none⟩ u) g e (xs.set i u):=by
 unfold Row at h⊢;simp[F_,Array.getElem?_modify,h]
theorem Row.same{w w':World}{g:Nat}{e:TypeId}{xs:List Value}(h:Row w g e xs)(hs:w'.heap[g]? =w.heap[g]?):Row w' g e xs:=hs.trans h
theorem Row.below{w w':World}{g:Nat}{e:TypeId}{xs:List Value}(h:Row w g e xs)(hb:Below w.heap.size w w'):Row w' g e xs:=(hb.block g h.lt).trans h
theorem Row.new(w:World)(e:TypeId)(cs:Array Value):Row (w.alloc (.cells cs e)) w.heap.size e cs.toList:=by
 unfold Row;exact heap_alloc_new w _
theorem Sl.Jh{w:World}{g:Nat}{e:TypeId}{xs:List Value}{l:List D}{fp:List Nat}{n:Nat}(h:Row w g e xs)(hr:Rs w l fp xs)(hn:l.length=n)(hm:n≤maxLen):Sl w l (g::fp) (.slice (some ⟨g,0,none⟩) n n):=by
 subst hn;unfold Sl;rw[R];exact⟨_,_,rfl,q_ _,hm,s_ ⟨g,0,fp,xs,rfl,rfl,h.lt,hr,fun j u hj=>by rw[I_,h.cell,hj]⟩⟩
theorem gV.QK{w:World}{base g:Nat}{e:TypeId}{xs:List Value}{fp:List Nat}(h:Row w g e xs)(hg:base≤g)(hf:gV w (g+1) fp):gV w base (g::fp):=by
 refine⟨N_.2 ⟨fun hm=>by have:=(hf.2 g hm).1;omega,hf.1⟩,fun b hb=> ?_⟩;rcases w_.1 hb with rfl|hb
 ·exact⟨hg,h.frozen⟩
 ·exact⟨by have:=(hf.2 b hb).1;omega,(hf.2 b hb).2⟩
theorem gV.append{w:World}{base mid:Nat}{f1 f2:List Nat}(h1:gV w base f1)(hm:∀b∈f1,b<mid)(h2:gV w mid f2)(hb:base≤mid):gV w base (f1++f2):=by
 refine⟨D_.2 ⟨h1.1,h2.1,fun a ha b hb' e=> ?_⟩,fun b hb'=> ?_⟩
 ·have:=hm a ha;have:=(h2.2 b hb').1;omega
 ·rcases k_.1 hb' with h|h
  ·exact h1.2 b h
  ·exact⟨t_ hb (h2.2 b h).1,(h2.2 b h).2⟩
theorem gV.below{w w':World}{base:Nat}{fp:List Nat}(h:gV w base fp)(hl:∀b∈fp,b<w.heap.size)(hb:Below w.heap.size w w'):gV w' base fp:=h.same fun b hm=>hb.block b (hl b hm)
theorem gV.setCell{w:World}{base:Nat}{fp:List Nat}(h:gV w base fp){p:Addr}(hp:p.block∉fp)(u:Value):gV (w.setCell p u) base fp:=
 h.same fun b hm=>o_ _ _ _ _ (fun e=>hp (e▸hm))
structure Kept (lo hi:Nat) (w w':World):Prop where
 os:w'.os=w.os
 tape:w'.tape=w.tape
 output:w'.output=w.output
 size:w.heap.size≤w'.heap.size
 block:∀k,k<w.heap.size→(k<lo∨hi≤k)→w'.heap[k]? =w.heap[k]?
theorem Kept.refl(lo hi:Nat)(w:World):Kept lo hi w w:=⟨rfl,rfl,rfl,q_ _,fun _ _ _=>rfl⟩
theorem Kept.trans{lo hi:Nat}{a b c:World}(h:Kept lo hi a b)(k:Kept lo hi b c):Kept lo hi a c:=
 ⟨k.os.trans h.os,k.tape.trans h.tape,k.output.trans h.output,t_ h.size k.size,fun i hi' ho=>(k.block i (e_ hi' h.size) ho).trans (h.block i hi' ho)⟩
theorem Kept.below{lo hi:Nat}{a b c:World}(h:Kept lo hi a b)(k:Below b.heap.size b c):Kept lo hi a c:=
 h.trans ⟨k.os,k.tape,k.output,k.size,fun i hi' _=>k.block i hi'⟩
theorem Kept.setCell{lo hi:Nat}{a b:World}(h:Kept lo hi a b){p:Addr}(h1:lo≤p.block)(h2:p.block<hi)(u:Value):Kept lo hi a (b.setCell p u):=
 h.trans ⟨rfl,rfl,rfl,by simp[F_],fun i hi' ho=>o_ _ _ _ _ (by omega)⟩
theorem Kept.alloc{lo hi:Nat}{a b:World}(h:Kept lo hi a b)(o:Obj):Kept lo hi a (b.alloc o):=
 h.trans ⟨rfl,rfl,rfl,by simp,fun i hi' _=>V_ _ _ _ hi'⟩
theorem Kept.drew{lo hi:Nat}{a b:World}(h:Kept lo hi a b):Kept lo hi a b.drew:=h.trans ⟨rfl,rfl,rfl,q_ _,fun _ _ _=>rfl⟩
theorem Kept.toBelow{lo hi B:Nat}{a b c:World}(h:Below B a b)(k:Kept lo hi b c)(hB:B≤lo)(hs:B≤b.heap.size):Below B a c:=
 h.trans ⟨k.os,k.tape,k.output,k.size,fun i hi'=>k.block i (by omega) (by omega)⟩
theorem R.kept{lo hi:Nat}{w w':World}{d:D}{fp:List Nat}{cs:List Value}(h:R w d fp cs)(hk:Kept lo hi w w')(ho:∀b∈fp,b<lo∨hi≤b):R w' d fp cs:=
 h.same (fun b hm=>hk.block b (h.lt b hm) (ho b hm)) hk.size
theorem Sl.kept{lo hi:Nat}{w w':World}{l:List D}{fp:List Nat}{v:Value}(h:Sl w l fp v)(hk:Kept lo hi w w')(ho:∀b∈fp,b<lo∨hi≤b):Sl w' l fp v:=R.kept h hk ho
theorem gV.kept{lo hi base:Nat}{w w':World}{fp:List Nat}(h:gV w base fp)(hl:∀b∈fp,b<w.heap.size)(hk:Kept lo hi w w')(ho:∀b∈fp,b<lo∨hi≤b):gV w' base fp:=
 h.same fun b hm=>hk.block b (hl b hm) (ho b hm)
theorem QY.fin{lo hi:Nat}{d:D}{w b c:World}{fp:List Nat}{cs:List Value}(hK:Kept lo hi b c)(hr:R b d fp cs)(hf:gV b w.heap.size fp)(ho:∀x∈fp,x<lo∨hi≤x)(hb:Below w.heap.size w b)(hlo:w.heap.size≤lo):
 QY d w (.returned (.agg cs.toArray)) c:=
 ⟨fp,cs,rfl,hr.kept hK ho,hf.kept hr.lt hK ho,Kept.toBelow hb hK hlo hb.size⟩
def kC(w:World)(e:Ending)(w':World):Prop:=e= .returned (.bool true)∧Below w.heap.size w w'
def qH(P:Program)(f:Nat)(d:D):Prop:=∀(w:World) (f1 f2:List Nat) (c1 c2:List Value),R w d f1 c1→R w d f2 c2→Calls P f #[.agg c1.toArray,.agg c2.toArray] w (kC w)
def jS(P:Program)(f:Nat)(l:List D):Prop:=∀(w:World) (f1 f2:List Nat) (v1 v2:Value),Sl w l f1 v1→Sl w l f2 v2→Calls P f #[v1,v2] w (kC w)
theorem Tn{w w1:World}{a b:Array Value}{ta tb:TypeId}(h:Below ((w.alloc (.cells a ta)).alloc (.cells b tb)).heap.size ((w.alloc (.cells a ta)).alloc (.cells b tb)) w1):
 Row w1 w.heap.size ta a.toList∧Row w1 (w.heap.size+1) tb b.toList∧w.heap.size+2≤w1.heap.size∧Below w.heap.size w w1:=by
 have e1:(w.alloc (.cells a ta)).heap.size=w.heap.size+1:=by simp
 have e2:((w.alloc (.cells a ta)).alloc (.cells b tb)).heap.size=w.heap.size+2:=by simp
 have r0:=Row.new w ta a;have r1:=Row.new (w.alloc (.cells a ta)) tb b;rw[e1]at r1;refine⟨?_,r1.below h,by have:=h.size;omega, ?_⟩
 ·exact Row.below (Row.same r0 (V_ _ _ _ (by omega))) h
 ·exact(((L_ _ _).alloc (q_ _) _).alloc (by omega) _).trans (h.mono (by omega))
theorem J4{w w1:World}{a:Array Value}{ta:TypeId}(h:Below (w.alloc (.cells a ta)).heap.size (w.alloc (.cells a ta)) w1):
 Row w1 w.heap.size ta a.toList∧w.heap.size+1≤w1.heap.size∧Below w.heap.size w w1:=by
 have e1:(w.alloc (.cells a ta)).heap.size=w.heap.size+1:=by simp
 exact⟨(Row.new w ta a).below h,by have:=h.size;omega,((L_ _ _).alloc (q_ _) _).trans (h.mono (by omega))⟩
theorem rW{B:Nat}{a w:World}(h:Below B a w)(n:Nat):Below B a (w.drewN n):=⟨h.os,h.tape,h.output,h.size,h.block⟩
def li(n:Int):D:= .leaf (.int .i64 n)
def ls(s:ByteArray):D:= .leaf (.string s)
theorem EJ{l:List Int}:∀d∈l.map li,d.sz=1:=fun d h=>by obtain⟨_,_,rfl⟩:=a_.1 h;rfl
theorem uI{l:List ByteArray}:∀d∈l.map ls,d.sz=1:=fun d h=>by obtain⟨_,_,rfl⟩:=a_.1 h;rfl
section
variable{w:World}{fp:List Nat}{cs:List Value}{l l':List D}
theorem ji :R w (.agg l) fp cs=Rs w l fp cs:=by rw[R]
theorem iY :Rs w [] fp cs=(fp= []∧cs= []):=by rw[Rs]
theorem iC{v:Value}:Rs w (.leaf v::l) fp cs↔∃c,cs=v::c∧Rs w l fp c:=by
 rw[Rs];constructor
 ·rintro⟨f1,f2,c1,c2,rfl,rfl,⟨rfl,rfl⟩,h⟩;exact⟨c2,rfl,h⟩
 ·rintro⟨c,rfl,h⟩;exact⟨[],fp,[v],c,rfl,rfl,⟨rfl,rfl⟩,h⟩
theorem kH :Rs w (.sl l'::l) fp cs↔∃v c f1 f2,fp=f1++f2∧cs=v::c∧Sl w l' f1 v∧Rs w l f2 c:=by
 rw[Rs];constructor
 ·rintro⟨f1,f2,c1,c2,rfl,rfl,h1,h2⟩;have h:=h1;rw[R]at h;obtain⟨A,cap,rfl,_⟩:=h;exact⟨_,c2,f1,f2,rfl,rfl,h1,h2⟩
 ·rintro⟨v,c,f1,f2,rfl,rfl,h1,h2⟩;exact⟨f1,f2,[v],c,rfl,rfl,h1,h2⟩
theorem jf :Rs w (.agg l'::l) fp cs↔Rs w (l'++l) fp cs:=by
 constructor
 ·intro h;rw[Rs]at h;obtain⟨f1,f2,c1,c2,rfl,rfl,h1,h2⟩:=h;rw[ji]at h1;exact Rs.append h2 h1
 ·intro h;obtain⟨f1,f2,c1,c2,rfl,rfl,h1,h2⟩:=Rs.split h;rw[Rs];exact⟨f1,f2,c1,c2,rfl,rfl,by rw[ji];exact h1,h2⟩
end
structure GOrigin where
 cell:Int
 row:Int
def GOrigin.toD(x:GOrigin):D:= .agg [li x.cell,li x.row]
theorem GOrigin.dI(x:GOrigin):x.toD= .agg [li x.cell,li x.row]:=rfl
theorem GOrigin.gu(x:GOrigin):x.toD.sz=2:=by simp[GOrigin.dI,D.sz,D.szs,li,ls]
theorem GOrigin.szs{l:List GOrigin}:∀d∈l.map GOrigin.toD,d.sz=2:=fun d h=>by obtain⟨x,_,rfl⟩:=a_.1 h;exact x.gu
theorem GOrigin.opened{w:World}{fp:List Nat}{cs:List Value}{x:GOrigin}:R w x.toD fp cs↔fp= []∧cs= [.int .i64 x.cell,.int .i64 x.row]:=by
 rw[GOrigin.dI,ji];simp only[jf,b_,c_,li,ls,iC,kH,iY];constructor
 ·rintro⟨_,rfl,⟨_,rfl,⟨rfl,rfl⟩⟩⟩;exact⟨rfl,rfl⟩
 ·rintro⟨rfl,rfl⟩;exact⟨_,rfl,⟨_,rfl,⟨rfl,rfl⟩⟩⟩
structure GRow where
 cells:List Int
 src:List GOrigin
def GRow.toD(x:GRow):D:= .agg [.sl (x.cells.map li),.sl (x.src.map GOrigin.toD)]
theorem GRow.dI(x:GRow):x.toD= .agg [.sl (x.cells.map li),.sl (x.src.map GOrigin.toD)]:=rfl
theorem GRow.gu(x:GRow):x.toD.sz=2:=by simp[GRow.dI,D.sz,D.szs,li,ls]
theorem GRow.szs{l:List GRow}:∀d∈l.map GRow.toD,d.sz=2:=fun d h=>by obtain⟨x,_,rfl⟩:=a_.1 h;exact x.gu
theorem GRow.opened{w:World}{fp:List Nat}{cs:List Value}{x:GRow}:R w x.toD fp cs↔∃v0 v1 f0 f1,fp=f0++f1∧cs= [v0,v1]∧Sl w (x.cells.map li) f0 v0∧Sl w (x.src.map GOrigin.toD) f1 v1:=by
 rw[GRow.dI,ji];simp only[jf,b_,c_,li,ls,iC,kH,iY];constructor
 ·rintro⟨_,_,_,_,rfl,rfl,h0,⟨_,_,_,_,rfl,rfl,h1,⟨rfl,rfl⟩⟩⟩;exact⟨_,_,_,_,by simp,rfl,h0,h1⟩
 ·rintro⟨v0,v1,f0,f1,rfl,rfl,h0,h1⟩;exact⟨_,_,_,_,rfl,rfl,h0,⟨_,_,_,_,(j_ _).symm,rfl,h1,⟨rfl,rfl⟩⟩⟩
inductive GVal where
 |mk (kind:Int) (n:Int) (step:Int) (text:ByteArray) (list:List GVal) (cols:List ByteArray) (rows:List GRow)
def GVal.kind :GVal→Int| .mk kind _ _ _ _ _ _=>kind
def GVal.n :GVal→Int| .mk _ n _ _ _ _ _=>n
def GVal.step :GVal→Int| .mk _ _ step _ _ _ _=>step
def GVal.text :GVal→ByteArray| .mk _ _ _ text _ _ _=>text
def GVal.list :GVal→List GVal| .mk _ _ _ _ list _ _=>list
def GVal.cols :GVal→List ByteArray| .mk _ _ _ _ _ cols _=>cols
def GVal.rows :GVal→List GRow| .mk _ _ _ _ _ _ rows=>rows
mutual
def GVal.toD :GVal→D
 | .mk kind n step text list cols rows=> .agg [li kind,li n,li step,ls text,.sl (GVal.Ef list),.sl (cols.map ls),.sl (rows.map GRow.toD)]
def GVal.Ef :List GVal→List D
 | []=> []
 |x::l=>x.toD::GVal.Ef l
end
theorem GVal.Ee(l:List GVal):GVal.Ef l=l.map GVal.toD:=by
 induction l with
 |nil=>rfl
 |cons x l ih=>rw[GVal.Ef,ih];rfl
theorem GVal.lt_of_mem{x y:GVal}(h:y∈x.list):x_ y<x_ x:=by
 cases x with
 | mk kind n step text list cols rows=>
   have:=Q_ h;simp only[GVal.list]at this;simp only[GVal.mk.sizeOf_spec];omega
theorem GVal.dI(x:GVal):x.toD= .agg [li x.kind,li x.n,li x.step,ls x.text,.sl (x.list.map GVal.toD),.sl (x.cols.map ls),.sl (x.rows.map GRow.toD)]:=by
 cases x with
 |mk kind n step text list cols rows=>rw[GVal.toD,GVal.Ee];rfl
theorem GVal.gu(x:GVal):x.toD.sz=7:=by simp[GVal.dI,D.sz,D.szs,li,ls]
theorem GVal.szs{l:List GVal}:∀d∈l.map GVal.toD,d.sz=7:=fun d h=>by obtain⟨x,_,rfl⟩:=a_.1 h;exact x.gu
theorem GVal.opened{w:World}{fp:List Nat}{cs:List Value}{x:GVal}:R w x.toD fp cs↔∃v0 v1 v2 f0 f1 f2,fp=f0++(f1++f2)∧cs= [.int .i64 x.kind,.int .i64 x.n,.int .i64 x.step,.string x.text,v0,v1,v2]∧Sl w (x.list.map GVal.toD) f0 v0∧Sl w (x.cols.map ls) f1 v1∧Sl w (x.rows.map GRow.toD) f2 v2:=by
 rw[GVal.dI,ji];simp only[jf,b_,c_,li,ls,iC,kH,iY];constructor
 ·rintro⟨_,rfl,⟨_,rfl,⟨_,rfl,⟨_,rfl,⟨_,_,_,_,rfl,rfl,h0,⟨_,_,_,_,rfl,rfl,h1,⟨_,_,_,_,rfl,rfl,h2,⟨rfl,rfl⟩⟩⟩⟩⟩⟩⟩⟩;exact⟨_,_,_,_,_,_,by simp,rfl,h0,h1,h2⟩
 ·rintro⟨v0,v1,v2,f0,f1,f2,rfl,rfl,h0,h1,h2⟩;exact⟨_,rfl,⟨_,rfl,⟨_,rfl,⟨_,rfl,⟨_,_,_,_,rfl,rfl,h0,⟨_,_,_,_,rfl,rfl,h1,⟨_,_,_,_,(j_ _).symm,rfl,h2,⟨rfl,rfl⟩⟩⟩⟩⟩⟩⟩⟩
structure GTok where
 kind:Int
 n:Int
 pos:Int
 text:ByteArray
def GTok.toD(x:GTok):D:= .agg [li x.kind,li x.n,li x.pos,ls x.text]
theorem GTok.dI(x:GTok):x.toD= .agg [li x.kind,li x.n,li x.pos,ls x.text]:=rfl
theorem GTok.gu(x:GTok):x.toD.sz=4:=by simp[GTok.dI,D.sz,D.szs,li,ls]
theorem GTok.szs{l:List GTok}:∀d∈l.map GTok.toD,d.sz=4:=fun d h=>by obtain⟨x,_,rfl⟩:=a_.1 h;exact x.gu
theorem GTok.opened{w:World}{fp:List Nat}{cs:List Value}{x:GTok}:R w x.toD fp cs↔fp= []∧cs= [.int .i64 x.kind,.int .i64 x.n,.int .i64 x.pos,.string x.text]:=by
 rw[GTok.dI,ji];simp only[jf,b_,c_,li,ls,iC,kH,iY];constructor
 ·rintro⟨_,rfl,⟨_,rfl,⟨_,rfl,⟨_,rfl,⟨rfl,rfl⟩⟩⟩⟩⟩;exact⟨rfl,rfl⟩
 ·rintro⟨rfl,rfl⟩;exact⟨_,rfl,⟨_,rfl,⟨_,rfl,⟨_,rfl,⟨rfl,rfl⟩⟩⟩⟩⟩
inductive GExpr where
 |mk (kind:Int) (n:Int) (text:ByteArray) (args:List GExpr)
def GExpr.kind :GExpr→Int| .mk kind _ _ _=>kind
def GExpr.n :GExpr→Int| .mk _ n _ _=>n
def GExpr.text :GExpr→ByteArray| .mk _ _ text _=>text
def GExpr.args :GExpr→List GExpr| .mk _ _ _ args=>args
mutual
def GExpr.toD :GExpr→D
 | .mk kind n text args=> .agg [li kind,li n,ls text,.sl (GExpr.Ef args)]
def GExpr.Ef :List GExpr→List D
 | []=> []
 |x::l=>x.toD::GExpr.Ef l
end
theorem GExpr.Ee(l:List GExpr):GExpr.Ef l=l.map GExpr.toD:=by
 induction l with
 |nil=>rfl
 |cons x l ih=>rw[GExpr.Ef,ih];rfl
theorem GExpr.lt_of_mem{x y:GExpr}(h:y∈x.args):x_ y<x_ x:=by
 cases x with
 | mk kind n text args=>
   have:=Q_ h;simp only[GExpr.args]at this;simp only[GExpr.mk.sizeOf_spec];omega
theorem GExpr.dI(x:GExpr):x.toD= .agg [li x.kind,li x.n,ls x.text,.sl (x.args.map GExpr.toD)]:=by
 cases x with
 |mk kind n text args=>rw[GExpr.toD,GExpr.Ee];rfl
theorem GExpr.gu(x:GExpr):x.toD.sz=4:=by simp[GExpr.dI,D.sz,D.szs,li,ls]
theorem GExpr.szs{l:List GExpr}:∀d∈l.map GExpr.toD,d.sz=4:=fun d h=>by obtain⟨x,_,rfl⟩:=a_.1 h;exact x.gu
theorem GExpr.opened{w:World}{fp:List Nat}{cs:List Value}{x:GExpr}:R w x.toD fp cs↔∃v0 f0,fp=f0∧cs= [.int .i64 x.kind,.int .i64 x.n,.string x.text,v0]∧Sl w (x.args.map GExpr.toD) f0 v0:=by
 rw[GExpr.dI,ji];simp only[jf,b_,c_,li,ls,iC,kH,iY];constructor
 ·rintro⟨_,rfl,⟨_,rfl,⟨_,rfl,⟨_,_,_,_,rfl,rfl,h0,⟨rfl,rfl⟩⟩⟩⟩⟩;exact⟨_,_,by simp,rfl,h0⟩
 ·rintro⟨v0,f0,rfl,rfl,h0⟩;exact⟨_,rfl,⟨_,rfl,⟨_,rfl,⟨_,_,_,_,(j_ _).symm,rfl,h0,⟨rfl,rfl⟩⟩⟩⟩⟩
structure GCell where
 id:Int
 ver:Int
 kind:Int
 name:ByteArray
 code:ByteArray
 n:Int
def GCell.toD(x:GCell):D:= .agg [li x.id,li x.ver,li x.kind,ls x.name,ls x.code,li x.n]
theorem GCell.dI(x:GCell):x.toD= .agg [li x.id,li x.ver,li x.kind,ls x.name,ls x.code,li x.n]:=rfl
theorem GCell.gu(x:GCell):x.toD.sz=6:=by simp[GCell.dI,D.sz,D.szs,li,ls]
theorem GCell.szs{l:List GCell}:∀d∈l.map GCell.toD,d.sz=6:=fun d h=>by obtain⟨x,_,rfl⟩:=a_.1 h;exact x.gu
theorem GCell.opened{w:World}{fp:List Nat}{cs:List Value}{x:GCell}:R w x.toD fp cs↔fp= []∧cs= [.int .i64 x.id,.int .i64 x.ver,.int .i64 x.kind,.string x.name,.string x.code,.int .i64 x.n]:=by
 rw[GCell.dI,ji];simp only[jf,b_,c_,li,ls,iC,kH,iY];constructor
 ·rintro⟨_,rfl,⟨_,rfl,⟨_,rfl,⟨_,rfl,⟨_,rfl,⟨_,rfl,⟨rfl,rfl⟩⟩⟩⟩⟩⟩⟩;exact⟨rfl,rfl⟩
 ·rintro⟨rfl,rfl⟩;exact⟨_,rfl,⟨_,rfl,⟨_,rfl,⟨_,rfl,⟨_,rfl,⟨_,rfl,⟨rfl,rfl⟩⟩⟩⟩⟩⟩⟩
structure GNb where
 cells:List GCell
def GNb.toD(x:GNb):D:= .agg [.sl (x.cells.map GCell.toD)]
theorem GNb.dI(x:GNb):x.toD= .agg [.sl (x.cells.map GCell.toD)]:=rfl
theorem GNb.gu(x:GNb):x.toD.sz=1:=by simp[GNb.dI,D.sz,D.szs,li,ls]
theorem GNb.szs{l:List GNb}:∀d∈l.map GNb.toD,d.sz=1:=fun d h=>by obtain⟨x,_,rfl⟩:=a_.1 h;exact x.gu
theorem GNb.opened{w:World}{fp:List Nat}{cs:List Value}{x:GNb}:R w x.toD fp cs↔∃v0 f0,fp=f0∧cs= [v0]∧Sl w (x.cells.map GCell.toD) f0 v0:=by
 rw[GNb.dI,ji];simp only[jf,b_,c_,li,ls,iC,kH,iY];constructor
 ·rintro⟨_,_,_,_,rfl,rfl,h0,⟨rfl,rfl⟩⟩;exact⟨_,_,by simp,rfl,h0⟩
 ·rintro⟨v0,f0,rfl,rfl,h0⟩;exact⟨_,_,_,_,(j_ _).symm,rfl,h0,⟨rfl,rfl⟩⟩
structure GPart where
 kind:Int
 name:ByteArray
 expr:GExpr
 value:GVal
 pos:Int
def GPart.toD(x:GPart):D:= .agg [li x.kind,ls x.name,GExpr.toD x.expr,GVal.toD x.value,li x.pos]
theorem GPart.dI(x:GPart):x.toD= .agg [li x.kind,ls x.name,GExpr.toD x.expr,GVal.toD x.value,li x.pos]:=rfl
theorem GPart.gu(x:GPart):x.toD.sz=14:=by simp[GPart.dI,GExpr.dI,GVal.dI,D.sz,D.szs,li,ls]
theorem GPart.szs{l:List GPart}:∀d∈l.map GPart.toD,d.sz=14:=fun d h=>by obtain⟨x,_,rfl⟩:=a_.1 h;exact x.gu
theorem GPart.opened{w:World}{fp:List Nat}{cs:List Value}{x:GPart}:R w x.toD fp cs↔∃v0 v1 v2 v3 f0 f1 f2 f3,fp=f0++(f1++(f2++f3))∧cs= [.int .i64 x.kind,.string x.name,.int .i64 x.expr.kind,.int .i64 x.expr.n,.string x.expr.text,v0,.int .i64 x.value.kind,.int .i64 x.value.n,.int .i64 x.value.step,.string x.value.text,v1,v2,v3,.int .i64 x.pos]∧Sl w (x.expr.args.map GExpr.toD) f0 v0∧Sl w (x.value.list.map GVal.toD) f1 v1∧Sl w (x.value.cols.map ls) f2 v2∧Sl w (x.value.rows.map GRow.toD) f3 v3:=by
 rw[GPart.dI,ji];simp only[GExpr.dI,GVal.dI,jf,b_,c_,li,ls,iC,kH,iY];constructor
 ·rintro⟨_,rfl,⟨_,rfl,⟨_,rfl,⟨_,rfl,⟨_,rfl,⟨_,_,_,_,rfl,rfl,h0,⟨_,rfl,⟨_,rfl,⟨_,rfl,⟨_,rfl,⟨_,_,_,_,rfl,rfl,h1,⟨_,_,_,_,rfl,rfl,h2,⟨_,_,_,_,rfl,rfl,h3,⟨_,rfl,⟨rfl,rfl⟩⟩⟩⟩⟩⟩⟩⟩⟩⟩⟩⟩⟩⟩⟩;exact⟨_,_,_,_,_,_,_,_,by simp,rfl,h0,h1,h2,h3⟩
 ·rintro⟨v0,v1,v2,v3,f0,f1,f2,f3,rfl,rfl,h0,h1,h2,h3⟩;exact⟨_,rfl,⟨_,rfl,⟨_,rfl,⟨_,rfl,⟨_,rfl,⟨_,_,_,_,rfl,rfl,h0,⟨_,rfl,⟨_,rfl,⟨_,rfl,⟨_,rfl,⟨_,_,_,_,rfl,rfl,h1,⟨_,_,_,_,rfl,rfl,h2,⟨_,_,_,_,(j_ _).symm,rfl,h3,⟨_,rfl,⟨rfl,rfl⟩⟩⟩⟩⟩⟩⟩⟩⟩⟩⟩⟩⟩⟩⟩
structure GEdit where
 kind:Int
 pos:Int
 cell:GCell
def GEdit.toD(x:GEdit):D:= .agg [li x.kind,li x.pos,GCell.toD x.cell]
theorem GEdit.dI(x:GEdit):x.toD= .agg [li x.kind,li x.pos,GCell.toD x.cell]:=rfl
theorem GEdit.gu(x:GEdit):x.toD.sz=8:=by simp[GEdit.dI,GCell.dI,D.sz,D.szs,li,ls]
theorem GEdit.szs{l:List GEdit}:∀d∈l.map GEdit.toD,d.sz=8:=fun d h=>by obtain⟨x,_,rfl⟩:=a_.1 h;exact x.gu
theorem GEdit.opened{w:World}{fp:List Nat}{cs:List Value}{x:GEdit}:R w x.toD fp cs↔fp= []∧cs= [.int .i64 x.kind,.int .i64 x.pos,.int .i64 x.cell.id,.int .i64 x.cell.ver,.int .i64 x.cell.kind,.string x.cell.name,.string x.cell.code,.int .i64 x.cell.n]:=by
 rw[GEdit.dI,ji];simp only[GCell.dI,jf,b_,c_,li,ls,iC,kH,iY];constructor
 ·rintro⟨_,rfl,⟨_,rfl,⟨_,rfl,⟨_,rfl,⟨_,rfl,⟨_,rfl,⟨_,rfl,⟨_,rfl,⟨rfl,rfl⟩⟩⟩⟩⟩⟩⟩⟩⟩;exact⟨rfl,rfl⟩
 ·rintro⟨rfl,rfl⟩;exact⟨_,rfl,⟨_,rfl,⟨_,rfl,⟨_,rfl,⟨_,rfl,⟨_,rfl,⟨_,rfl,⟨_,rfl,⟨rfl,rfl⟩⟩⟩⟩⟩⟩⟩⟩⟩
structure GRead where
 kind:Int
 n:Int
 time:Int
 text:ByteArray
 result:GVal
def GRead.toD(x:GRead):D:= .agg [li x.kind,li x.n,li x.time,ls x.text,GVal.toD x.result]
theorem GRead.dI(x:GRead):x.toD= .agg [li x.kind,li x.n,li x.time,ls x.text,GVal.toD x.result]:=rfl
theorem GRead.gu(x:GRead):x.toD.sz=11:=by simp[GRead.dI,GVal.dI,D.sz,D.szs,li,ls]
theorem GRead.szs{l:List GRead}:∀d∈l.map GRead.toD,d.sz=11:=fun d h=>by obtain⟨x,_,rfl⟩:=a_.1 h;exact x.gu
theorem GRead.opened{w:World}{fp:List Nat}{cs:List Value}{x:GRead}:R w x.toD fp cs↔∃v0 v1 v2 f0 f1 f2,fp=f0++(f1++f2)∧cs= [.int .i64 x.kind,.int .i64 x.n,.int .i64 x.time,.string x.text,.int .i64 x.result.kind,.int .i64 x.result.n,.int .i64 x.result.step,.string x.result.text,v0,v1,v2]∧Sl w (x.result.list.map GVal.toD) f0 v0∧Sl w (x.result.cols.map ls) f1 v1∧Sl w (x.result.rows.map GRow.toD) f2 v2:=by
 rw[GRead.dI,ji];simp only[GVal.dI,jf,b_,c_,li,ls,iC,kH,iY];constructor
 ·rintro⟨_,rfl,⟨_,rfl,⟨_,rfl,⟨_,rfl,⟨_,rfl,⟨_,rfl,⟨_,rfl,⟨_,rfl,⟨_,_,_,_,rfl,rfl,h0,⟨_,_,_,_,rfl,rfl,h1,⟨_,_,_,_,rfl,rfl,h2,⟨rfl,rfl⟩⟩⟩⟩⟩⟩⟩⟩⟩⟩⟩⟩;exact⟨_,_,_,_,_,_,by simp,rfl,h0,h1,h2⟩
 ·rintro⟨v0,v1,v2,f0,f1,f2,rfl,rfl,h0,h1,h2⟩;exact⟨_,rfl,⟨_,rfl,⟨_,rfl,⟨_,rfl,⟨_,rfl,⟨_,rfl,⟨_,rfl,⟨_,rfl,⟨_,_,_,_,rfl,rfl,h0,⟨_,_,_,_,rfl,rfl,h1,⟨_,_,_,_,(j_ _).symm,rfl,h2,⟨rfl,rfl⟩⟩⟩⟩⟩⟩⟩⟩⟩⟩⟩⟩
structure GTape where
 cell:Int
 ver:Int
 reads:List GRead
def GTape.toD(x:GTape):D:= .agg [li x.cell,li x.ver,.sl (x.reads.map GRead.toD)]
theorem GTape.dI(x:GTape):x.toD= .agg [li x.cell,li x.ver,.sl (x.reads.map GRead.toD)]:=rfl
theorem GTape.gu(x:GTape):x.toD.sz=3:=by simp[GTape.dI,D.sz,D.szs,li,ls]
theorem GTape.szs{l:List GTape}:∀d∈l.map GTape.toD,d.sz=3:=fun d h=>by obtain⟨x,_,rfl⟩:=a_.1 h;exact x.gu
theorem GTape.opened{w:World}{fp:List Nat}{cs:List Value}{x:GTape}:R w x.toD fp cs↔∃v0 f0,fp=f0∧cs= [.int .i64 x.cell,.int .i64 x.ver,v0]∧Sl w (x.reads.map GRead.toD) f0 v0:=by
 rw[GTape.dI,ji];simp only[jf,b_,c_,li,ls,iC,kH,iY];constructor
 ·rintro⟨_,rfl,⟨_,rfl,⟨_,_,_,_,rfl,rfl,h0,⟨rfl,rfl⟩⟩⟩⟩;exact⟨_,_,by simp,rfl,h0⟩
 ·rintro⟨v0,f0,rfl,rfl,h0⟩;exact⟨_,rfl,⟨_,rfl,⟨_,_,_,_,(j_ _).symm,rfl,h0,⟨rfl,rfl⟩⟩⟩⟩
structure GBind where
 name:ByteArray
 value:GVal
def GBind.toD(x:GBind):D:= .agg [ls x.name,GVal.toD x.value]
theorem GBind.dI(x:GBind):x.toD= .agg [ls x.name,GVal.toD x.value]:=rfl
theorem GBind.gu(x:GBind):x.toD.sz=8:=by simp[GBind.dI,GVal.dI,D.sz,D.szs,li,ls]
theorem GBind.szs{l:List GBind}:∀d∈l.map GBind.toD,d.sz=8:=fun d h=>by obtain⟨x,_,rfl⟩:=a_.1 h;exact x.gu
theorem GBind.opened{w:World}{fp:List Nat}{cs:List Value}{x:GBind}:R w x.toD fp cs↔∃v0 v1 v2 f0 f1 f2,fp=f0++(f1++f2)∧cs= [.string x.name,.int .i64 x.value.kind,.int .i64 x.value.n,.int .i64 x.value.step,.string x.value.text,v0,v1,v2]∧Sl w (x.value.list.map GVal.toD) f0 v0∧Sl w (x.value.cols.map ls) f1 v1∧Sl w (x.value.rows.map GRow.toD) f2 v2:=by
 rw[GBind.dI,ji];simp only[GVal.dI,jf,b_,c_,li,ls,iC,kH,iY];constructor
 ·rintro⟨_,rfl,⟨_,rfl,⟨_,rfl,⟨_,rfl,⟨_,rfl,⟨_,_,_,_,rfl,rfl,h0,⟨_,_,_,_,rfl,rfl,h1,⟨_,_,_,_,rfl,rfl,h2,⟨rfl,rfl⟩⟩⟩⟩⟩⟩⟩⟩⟩;exact⟨_,_,_,_,_,_,by simp,rfl,h0,h1,h2⟩
 ·rintro⟨v0,v1,v2,f0,f1,f2,rfl,rfl,h0,h1,h2⟩;exact⟨_,rfl,⟨_,rfl,⟨_,rfl,⟨_,rfl,⟨_,rfl,⟨_,_,_,_,rfl,rfl,h0,⟨_,_,_,_,rfl,rfl,h1,⟨_,_,_,_,(j_ _).symm,rfl,h2,⟨rfl,rfl⟩⟩⟩⟩⟩⟩⟩⟩⟩
mutual
def D.one :D→Prop
 | .leaf v=>v.oneCell'=true
 | .sl _=>True
 | .agg l=>D.ones l
def D.ones :List D→Prop
 | []=>True
 |d::l=>d.one∧D.ones l
end
mutual
theorem R.one{w:World}:∀{d:D} {fp:List Nat} {cs:List Value},R w d fp cs→d.one→∀u∈cs,u.oneCell'=true
 | .leaf v,_,_,h,ho,u,hu=>by rw[h.2]at hu;simp at hu;subst hu;exact ho
 | .sl _,_,_,h,_,u,hu=>by
   rw[R]at h;obtain⟨A,cap,rfl,_⟩:=h;simp at hu;subst hu;rfl
 | .agg l,fp,cs,h,ho,u,hu=>by
   rw[R]at h;exact Rs.one_ h ho u hu
theorem Rs.one_{w:World}:∀{l:List D} {fp:List Nat} {cs:List Value},Rs w l fp cs→D.ones l→∀u∈cs,u.oneCell'=true
 | [],_,_,h,_,u,hu=>by rw[h.2]at hu;simp at hu
 | d::l,_,_,h,ho,u,hu=>by
   obtain⟨f1,f2,c1,c2,rfl,rfl,h1,h2⟩:=h;rcases k_.1 hu with hu|hu
   ·exact h1.one ho.1 u hu
   ·exact Rs.one_ h2 ho.2 u hu
end
theorem D.ones_of :∀{l:List D},(∀d∈l,d.one)→D.ones l
 | [],_=>trivial
 |d::l,h=>⟨h d (by simp),D.ones_of fun x hx=>h x (by simp[hx])⟩
theorem Sl.cells{w:World}{l:List D}{fp:List Nat}{A:Option Addr}{m c:Nat}(h:Sl w l fp (.slice A m c)):m=l.length∧∃fp' cs,Rs w l fp' cs∧(∀b∈fp',b∈fp)∧
 ((l= []∧cs= [])∨∃b o,A=some ⟨b,o,none⟩∧b<w.heap.size∧At w b o cs):=by
 unfold Sl at h;rw[R]at h;obtain⟨A',cap',h1,_,_,h3⟩:=h;simp only[p_,and_true,r_]at h1;obtain⟨rfl,rfl,rfl⟩:=h1;refine⟨rfl, ?_⟩;rcases h3 with⟨rfl,rfl⟩|⟨b,o,fp',cs',rfl,rfl,hb,hr,ha⟩
 ·exact⟨[],[],⟨rfl,rfl⟩,fun _ h=>h,K_ ⟨rfl,rfl⟩⟩
 ·exact⟨fp',cs',hr,fun x hx=>by simp[hx],s_ ⟨b,o,rfl,hb,ha⟩⟩
theorem Row.grown{w w':World}{g:Nat}{e:TypeId}{xs:List Value}{row:Option Nat}(h:Row w g e xs)(hg:w.grownBy w' row)(hne:some g≠row):Row w' g e xs:=(hg.block g h.lt hne).trans h
theorem ED{w:World}{base:Nat}{e:TypeId}{s:Nat}{v:Value}{n:Nat}{xs:List Value}(h:w.ownsRow base e s v n xs):∃A c,v= .slice A n c:=by
 rcases h.2 with⟨rfl,rfl⟩|⟨g,cap,cur,rfl,_⟩
 ·exact⟨_,_,rfl⟩
 ·exact⟨_,_,rfl⟩
theorem CW{w w':World}{base:Nat}{e:TypeId}{s:Nat}{v:Value}{n:Nat}{xs:List Value}(h:w.ownsRow base e s v n xs)(hb:Below w.heap.size w w'):w'.ownsRow base e s v n xs:=by
 obtain⟨h1,h2⟩:=h;refine⟨h1, ?_⟩;rcases h2 with h2|⟨g,cap,cur,hv,hg,hh,r⟩
 ·exact K_ h2
 ·refine s_ ⟨g,cap,cur,hv,hg, ?_,r⟩;rw[hb.block]
  ·exact hh
  ·rcases H_ g w.heap.size with hlt|hge
   ·exact hlt
   ·rw[Array.getElem?_eq_none hge]at hh;cases hh
theorem EC{w:World}{base base':Nat}{e:TypeId}{s:Nat}{v:Value}{n:Nat}{xs:List Value}(h:w.ownsRow base e s v n xs)(hb:base'≤base):w.ownsRow base' e s v n xs:=by
 obtain⟨h1,h2⟩:=h;refine⟨h1, ?_⟩;rcases h2 with h2|⟨g,cap,cur,hv,hg,r⟩
 ·exact K_ h2
 ·exact s_ ⟨g,cap,cur,hv,t_ hb hg,r⟩
end
section
open List renaming mem_map→a_,cons_append→b_,nil_append→c_,getElem?_append_right→d_,length_take→f_,getElem?_append_left→h_,take_append_drop→i_,append_nil→j_,mem_append→k_,getElem?_eq_some_iff→l_,getElem?_eq_getElem→m_,take_succ_eq_append_getElem→n_,length_cons→u_,mem_of_mem_take→v_,mem_cons→w_,drop_eq_getElem_cons→z_,nodup_append→D_,length_append→J_,nodup_cons→N_,drop_eq_nil_of_le→O_,singleton_append→P_,sizeOf_lt_of_mem→Q_,append_assoc→U_,mem_range→W_
open Nat renaming lt_of_lt_of_le→e_,le_refl→q_,le_trans→t_,min_eq_left→A_,lt_or_ge→H_,zero_add→I_,add_assoc→R_,add_zero→S_,sub_self→T_
open Lib renaming hid→g_
open Below renaming heap_setCell→o_,refl→L_,heap_alloc→V_
open List.cons renaming injEq→p_
open Value.slice renaming injEq→r_
open Or renaming inr→s_,inl→K_
open SizeOf renaming sizeOf→x_
open Ending renaming returned→y_
open Value renaming ownBlock→B_,oneCell'→C_,okWide→a_a
open UInt8 renaming ofNat→E_
open World renaming setCell→F_,cell?_of_block→G_,cell?_setCell_other→M_,frozen? →Y_,cell? →a_b
open Go.RowKit Go.WideShapes Go.ChangeShapes Go.ChangeAt
section
variable{H:Type}{enc:TypeId×Value→H}{P:Program}
theorem CV{f:Func}{s:ChangeSpec}{apart fresh handsOn again:Bool}{W W':World}{args:Array Value}{v:Value}{ds gs:List (DataW H)}{before pa pv:List MemPlace}
 (hW:DataW.Whole enc P f.params.toList s.vars apart W args.toList ds gs before)
 (hres:∀(b:Nat) (sp:Nat→Bool) (hd:Bool),DataW.TrodAll enc P W' b sp hd f.resultTypes.toList (v.resultList f.resultTypes.size) (s.fn H (ds++gs)).results [])
 (hargs:∀sp:Nat→Bool,(∀p∈before,sp p.block=true)→DataW.TrodAll enc P W' 0 sp true f.params.toList args.toList (s.fn H (ds++gs)).args pa)
 (hvars:∀sp:Nat→Bool,(∀p∈before,sp p.block=true)→DataW.TrodVars enc P W' sp s.vars (s.fn H (ds++gs)).vars pv)
 (hps:before=pa++pv) (hb:Below W.heap.size W W')
 (hok:∀(j:Nat) (t:TypeId) (r:Value),f.resultTypes[j]? =some t→(v.resultList f.resultTypes.size)[j]? =some r→a_a P W' .any 0 t r):
 s.post enc P f apart fresh handsOn again W args v W':=by
 have hlt:∀p∈before,p.block<W.heap.size:=fun p hp=>hW.lt p hp
 have hold:∀p∈before,(fun b=>decide (b<W.heap.size)) p.block=true:=fun p hp=>by simpa using hlt p hp
 refine⟨ds,gs,before,[],pa,pv,hW,hres _ _ _,hargs _ hold,hvars _ hold,World.keptBut_mono (fun p hp=>⟨hp, ?_⟩) (hb.frame (·∈before)),fun _=> ?_⟩
 ·rw[hps,k_]at hp;exact s_ hp
 ·obtain⟨_,_,_,_,_,hz,hn⟩:=hW;refine⟨hok,_,_,([]++pa)++pv,⟨[]++pa,pv,trodAll_append (hargs _ (fun _ _=>rfl)) (hres _ _ _),hvars _ (fun _ _=>rfl),rfl, ?_, ?_⟩, ?_⟩
  ·intro b off hp;have hin:MemPlace.cell b off∈before:=by rw[hps];simpa using hp
   rw[hb.frozen (hlt _ hin)];exact hz b off hin
  ·intro ha;have:=hn ha;rw[hps]at this;simpa using this
  ·intro p hp _;rw[hps];simpa using hp
end
theorem U2 :ownKnob Tryz.prog.godebug=none:=by kernel_rfl
theorem PS :laidOutB Tryz.prog=true:=by kernel_rfl
end
section
open List renaming mem_map→a_,cons_append→b_,nil_append→c_,getElem?_append_right→d_,length_take→f_,getElem?_append_left→h_,take_append_drop→i_,append_nil→j_,mem_append→k_,getElem?_eq_some_iff→l_,getElem?_eq_getElem→m_,take_succ_eq_append_getElem→n_,length_cons→u_,mem_of_mem_take→v_,mem_cons→w_,drop_eq_getElem_cons→z_,nodup_append→D_,length_append→J_,nodup_cons→N_,drop_eq_nil_of_le→O_,singleton_append→P_,sizeOf_lt_of_mem→Q_,append_assoc→U_,mem_range→W_
open Nat renaming lt_of_lt_of_le→e_,le_refl→q_,le_trans→t_,min_eq_left→A_,lt_or_ge→H_,zero_add→I_,add_assoc→R_,add_zero→S_,sub_self→T_
open Lib renaming hid→g_
open Below renaming heap_setCell→o_,refl→L_,heap_alloc→V_
open List.cons renaming injEq→p_
open Value.slice renaming injEq→r_
open Or renaming inr→s_,inl→K_
open SizeOf renaming sizeOf→x_
open Ending renaming returned→y_
open Value renaming ownBlock→B_,oneCell'→C_,okWide→a_a
open UInt8 renaming ofNat→E_
open World renaming setCell→F_,cell?_of_block→G_,cell?_setCell_other→M_,frozen? →Y_,cell? →a_b
def Dc(n:Nat):List UInt8:=if h:n=0 then []else Dc (n / 10)++ [E_ (48+n % 10)]
termination_by n
decreasing_by omega
theorem DT :Dc 0= []:=by rw[Dc];simp
theorem Iq{n:Nat}(h:n≠0):Dc n=Dc (n / 10)++ [E_ (48+n % 10)]:=by rw[Dc];simp[h]
def qZ(k:Int):ByteArray:=if k≤0 then⟨#[109,48]⟩else⟨(109::Dc k.toNat).toArray⟩
mutual
def D.cnt :D→Nat
 | .leaf _=>1
 | .sl l=>D.cnts l
 | .agg l=>D.cnts l
def D.cnts :List D→Nat
 | []=>0
 |d::l=>d.cnt+D.cnts l
end
def Ag(v:Value)(k:Int):Value:=match v with| .string _=> .string (qZ k)|_=> .int .i64 k
mutual
def D.mk :D→Int→D
 | .leaf v,k=> .leaf (Ag v k)
 | .sl l,k=> .sl (D.mks l k)
 | .agg l,k=> .agg (D.mks l k)
def D.mks :List D→Int→List D
 | [],_=> []
 |d::l,k=>d.mk k::D.mks l (k+d.cnt)
end
theorem D.qo(k:Int):D.mks [] k= []:=by rw[D.mks]
theorem D.l7(d:D)(l:List D)(k:Int):D.mks (d::l) k=d.mk k::D.mks l (k+d.cnt):=by rw[D.mks]
theorem D.jD :D.cnts []=0:=by rw[D.cnts]
theorem D.tq(d:D)(l:List D):D.cnts (d::l)=d.cnt+D.cnts l:=by rw[D.cnts]
theorem D.fM :∀(l:List D) (k:Int),(D.mks l k).length=l.length
 | [],_=>by rw[D.qo]
 |d::l,k=>by rw[D.l7,u_,u_,D.fM l]
theorem D.rP :∀(a b:List D),D.cnts (a++b)=D.cnts a+D.cnts b
 | [],b=>by rw[D.jD,c_,I_]
 |d::a,b=>by rw[b_,D.tq,D.tq,D.rP a b,R_]
theorem D.qp :∀(a b:List D) (k:Int),D.mks (a++b) k=D.mks a k++D.mks b (k+D.cnts a)
 | [],b,k=>by rw[D.qo,D.jD,c_,c_];simp
 | d::a,b,k=>by
   rw[b_,D.l7,D.l7,D.qp a b,D.tq,b_];congr 3
   push_cast
   omega
mutual
theorem D.GN :∀(d:D) (k:Int),(d.mk k).sz=d.sz
 | .leaf _,_=>rfl
 | .sl _,_=>rfl
 | .agg l,k=>by rw[D.mk,D.sz,D.sz,D.KN l]
theorem D.KN :∀(l:List D) (k:Int),D.szs (D.mks l k)=D.szs l
 | [],_=>by rw[D.qo]
 |d::l,k=>by rw[D.l7,D.szs,D.szs,D.GN d,D.KN l]
end
mutual
theorem D.Uc :∀(d:D) (k:Int),(d.mk k).cnt=d.cnt
 | .leaf _,_=>rfl
 | .sl l,k=>by rw[D.mk,D.cnt,D.cnt,D.Ah l]
 | .agg l,k=>by rw[D.mk,D.cnt,D.cnt,D.Ah l]
theorem D.Ah :∀(l:List D) (k:Int),D.cnts (D.mks l k)=D.cnts l
 | [],_=>by rw[D.qo]
 |d::l,k=>by rw[D.l7,D.cnts,D.cnts,D.Uc d,D.Ah l]
end
theorem D.jM(l:List D){i:Nat}(h:i<l.length):D.cnts (l.take (i+1))=D.cnts (l.take i)+(l[i]).cnt:=by
 rw[n_ h,D.rP,D.tq,D.jD,S_]
theorem D.iH(l:List D)(i:Nat):D.cnts (l.take i)≤D.cnts l:=by
 have:=D.rP (l.take i) (l.drop i);rw[i_]at this;omega
def part(l:List D)(k:Int)(i:Nat):List D:=D.mks (l.take i) k++l.drop i
theorem pJ(l:List D)(k:Int):part l k 0=l:=by simp[part,D.qo]
theorem jX(l:List D)(k:Int){i:Nat}(h:l.length≤i):part l k i=D.mks l k:=by
 unfold part;rw[List.take_of_length_le h,O_ h,j_]
theorem qW(l:List D)(k:Int){i:Nat}(h:i<l.length):(part l k i)[i]? =some l[i]:=by
 unfold part;rw[d_ (by rw[D.fM,f_];omega),D.fM,f_,A_ (by omega),T_,List.getElem?_drop,S_,m_ h]
theorem nJ(l:List D)(k:Int){i:Nat}(h:i<l.length):(part l k i).set i ((l[i]).mk (k+D.cnts (l.take i)))=part l k (i+1):=by
 unfold part;have hl:(D.mks (l.take i) k).length=i:=by rw[D.fM,f_];omega
 rw[n_ h,D.qp,List.set_append_right _ _ (by omega),hl,T_,z_ h,List.set_cons_zero,D.l7,D.qo,U_];rfl
theorem lU{l:List D}{s:Nat}(hs:∀d∈l,d.sz=s)(k:Int)(i:Nat):∀d∈part l k i,d.sz=s:=by
 intro d hd;unfold part at hd;rcases k_.1 hd with h|h
 ·have aux:∀(l:List D) (k:Int),(∀d∈l,d.sz=s)→∀d∈D.mks l k,d.sz=s:=by
   intro l
   induction l with
   |nil=>intro k _ d hd;rw[D.qo]at hd;simp at hd
   | cons x l ih=>
     intro k hx d hd;rw[D.l7]at hd;rcases w_.1 hd with rfl|hd
     ·rw[D.GN];exact hx x (by simp)
     ·exact ih _ (fun y hy=>hx y (by simp[hy])) d hd
  exact aux _ _ (fun y hy=>hs y (v_ hy)) d h
 ·exact hs d (List.mem_of_mem_drop h)
theorem vG(l:List D)(k:Int){i:Nat}(h:i<l.length):(D.mks l k)[i]? =some ((l[i]).mk (k+D.cnts (l.take i))):=by
 have e:D.mks l k=part l k l.length:=(jX l k (q_ _)).symm;have hp:=nJ l k h;have:D.mks l k=D.mks (l.take (i+1)) k++D.mks (l.drop (i+1)) (k+D.cnts (l.take (i+1))):=by rw[← D.qp,i_]
 rw[this,h_ (by rw[D.fM,f_];omega),n_ h,D.qp,d_ (by rw[D.fM,f_];omega),D.fM,f_,A_ (by omega),T_,D.l7];rfl
mutual
def D.acnt :D→Nat
 | .leaf _=>0
 | .sl l=>D.cnts l
 | .agg l=>D.qK l
def D.qK :List D→Nat
 | []=>0
 |d::l=>d.acnt+D.qK l
end
mutual
def D.amk :D→Int→D
 | .leaf v,_=> .leaf v
 | .sl l,k=> .sl (D.mks l k)
 | .agg l,k=> .agg (D.NJ l k)
def D.NJ :List D→Int→List D
 | [],_=> []
 |d::l,k=>d.amk k::D.NJ l (k+d.acnt)
end
structure Touch (fp:List Nat) (w w':World):Prop where
 os:w'.os=w.os
 tape:w'.tape=w.tape
 output:w'.output=w.output
 size:w.heap.size≤w'.heap.size
 block:∀k,k<w.heap.size→k∉fp→w'.heap[k]? =w.heap[k]?
 froz:∀b o,b<w.heap.size→w'.frozen? ⟨b,o,none⟩=w.frozen? ⟨b,o,none⟩
theorem Touch.refl(fp:List Nat)(w:World):Touch fp w w:=⟨rfl,rfl,rfl,q_ _,fun _ _ _=>rfl,fun _ _ _=>rfl⟩
theorem Touch.trans{fp:List Nat}{a b c:World}(h:Touch fp a b)(k:Touch fp b c):Touch fp a c:=
 ⟨k.os.trans h.os,k.tape.trans h.tape,k.output.trans h.output,t_ h.size k.size,fun i hi hn=>(k.block i (e_ hi h.size) hn).trans (h.block i hi hn),fun b o hb=>(k.froz b o (e_ hb h.size)).trans (h.froz b o hb)⟩
theorem Touch.mono{fp fp':List Nat}{a b:World}(h:Touch fp a b)(hf:∀x∈fp,x∈fp'):Touch fp' a b:=
 ⟨h.os,h.tape,h.output,h.size,fun i hi hn=>h.block i hi fun hm=>hn (hf i hm),h.froz⟩
theorem Touch.of_below{fp:List Nat}{a b:World}(h:Below a.heap.size a b):Touch fp a b:=
 ⟨h.os,h.tape,h.output,h.size,fun i hi _=>h.block i hi,fun x o hx=>h.frozen (p:=⟨x,o,none⟩) hx⟩
theorem Touch.below{fp:List Nat}{a b c:World}(h:Touch fp a b)(k:Below b.heap.size b c):Touch fp a c:=h.trans (Touch.of_below k)
theorem Touch.toBelow{fp:List Nat}{B:Nat}{a b c:World}(h:Below B a b)(k:Touch fp b c)(hf:∀x∈fp,B≤x)(hs:B≤b.heap.size):Below B a c:=
 h.trans ⟨k.os,k.tape,k.output,k.size,fun i hi=>k.block i (by omega) (fun hm=>by have:=hf i hm;omega)⟩
theorem Touch.kept{fp:List Nat}{lo hi:Nat}{a b:World}(h:Touch fp a b)(hf:∀x∈fp,lo≤x∧x<hi):Kept lo hi a b:=
 ⟨h.os,h.tape,h.output,h.size,fun i hi' ho=>h.block i hi' (fun hm=>by have:=hf i hm;omega)⟩
theorem gV.touch{fp:List Nat}{a b:World}{base:Nat}{g:List Nat}(hF:gV a base g)(hl:∀x∈g,x<a.heap.size)(h:Touch fp a b):gV b base g:=
 ⟨hF.1,fun x hx=>⟨(hF.2 x hx).1,fun o=>by rw[h.froz x o (hl x hx)];exact(hF.2 x hx).2 o⟩⟩
theorem R.touch{fp:List Nat}{a b:World}{d:D}{g:List Nat}{cs:List Value}(hR:R a d g cs)(h:Touch fp a b)(hd:∀x∈g,x∉fp):R b d g cs:=
 hR.same (fun x hx=>h.block x (hR.lt x hx) (hd x hx)) h.size
theorem Sl.touch{fp:List Nat}{a b:World}{l:List D}{g:List Nat}{v:Value}(hR:Sl a l g v)(h:Touch fp a b)(hd:∀x∈g,x∉fp):Sl b l g v:=R.touch hR h hd
theorem Row.touch{fp:List Nat}{a b:World}{g:Nat}{e:TypeId}{xs:List Value}(hR:Row a g e xs)(h:Touch fp a b)(hd:g∉fp):Row b g e xs:=(h.block g hR.lt hd).trans hR
structure Inr (b lo hi:Nat) (fi:List Nat) (w w':World):Prop where
 os:w'.os=w.os
 tape:w'.tape=w.tape
 output:w'.output=w.output
 size:w.heap.size≤w'.heap.size
 block:∀x,x<w.heap.size→x≠b→x∉fi→w'.heap[x]? =w.heap[x]?
 cell:∀off,(off<lo∨hi≤off)→w'.cell? ⟨b,off,none⟩=w.cell? ⟨b,off,none⟩
 froz:∀x o,x<w.heap.size→w'.frozen? ⟨x,o,none⟩=w.frozen? ⟨x,o,none⟩
section
variable{b lo hi:Nat}{fi:List Nat}{w a c:World}
theorem Inr.refl(b lo hi:Nat)(fi:List Nat)(w:World):Inr b lo hi fi w w:=⟨rfl,rfl,rfl,q_ _,fun _ _ _ _=>rfl,fun _ _=>rfl,fun _ _ _=>rfl⟩
theorem Inr.below(h:Inr b lo hi fi w a)(hb:b<w.heap.size)(k:Below a.heap.size a c):Inr b lo hi fi w c:=
 ⟨k.os.trans h.os,k.tape.trans h.tape,k.output.trans h.output,t_ h.size k.size,fun x hx h1 h2=>(k.block x (e_ hx h.size)).trans (h.block x hx h1 h2),fun off ho=>(k.cell (p:=⟨b,off,none⟩) (e_ hb h.size)).trans (h.cell off ho),fun x o hx=>(k.frozen (p:=⟨x,o,none⟩) (e_ hx h.size)).trans (h.froz x o hx)⟩
theorem Inr.touch{F:List Nat}(h:Inr b lo hi fi w a)(hb:b<w.heap.size)(k:Touch F a c)(hF:∀x∈F,x∈fi)(hn:b∉F):Inr b lo hi fi w c:=
 ⟨k.os.trans h.os,k.tape.trans h.tape,k.output.trans h.output,t_ h.size k.size,fun x hx h1 h2=>(k.block x (e_ hx h.size) (fun hm=>h2 (hF x hm))).trans (h.block x hx h1 h2),fun off ho=>(G_ (k.block b (e_ hb h.size) hn)).trans (h.cell off ho),fun x o hx=>(k.froz x o (e_ hx h.size)).trans (h.froz x o hx)⟩
theorem Inr.setCell(h:Inr b lo hi fi w a){off:Nat}(h1:lo≤off)(h2:off<hi)(u:Value):Inr b lo hi fi w (a.setCell ⟨b,off,none⟩ u):=
 ⟨h.os,h.tape,h.output,by simpa[F_]using h.size,fun x hx h3 h4=>(o_ _ _ _ _ h3).trans (h.block x hx h3 h4),
  fun o ho=>by
   rw[M_]
   ·exact h.cell o ho
   ·intro e;injection e with _ e2;omega,
  fun x o hx=>by rw[World.frozen?_setCell];exact h.froz x o hx⟩
theorem Inr.uV{fp:List Nat}(h:Inr b lo hi fi w a)(hb:b∈fp)(hf:∀x∈fi,x∈fp):Touch fp w a:=
 ⟨h.os,h.tape,h.output,h.size,fun x hx hn=>h.block x hx (fun e=>hn (e▸hb)) (fun hm=>hn (hf x hm)),h.froz⟩
end
theorem At.below{w a:World}{b o:Nat}{cs:List Value}(h:At w b o cs)(hb:b<w.heap.size)(k:Below w.heap.size w a):At a b o cs:=
 fun j u hj=>(k.cell (p:=⟨b,o+j,none⟩) hb).trans (h j u hj)
theorem At.touch{w a:World}{b o:Nat}{cs:List Value}{F:List Nat}(h:At w b o cs)(hb:b<w.heap.size)(k:Touch F w a)(hn:b∉F):At a b o cs:=
 fun j u hj=>(G_ (k.block b hb hn)).trans (h j u hj)
theorem At.set{w:World}{b o:Nat}{cs:List Value}(h:At w b o cs){j:Nat}(hj:j<cs.length)(u:Value):At (w.setCell ⟨b,o+j,none⟩ u) b o (cs.set j u):=by
 intro i v hi;rw[List.getElem?_set]at hi;split at hi
 ·next e=>
  subst e
  try rw[if_pos hj]at hi
  cases hi;exact World.cell?_setCell_same _ _ _ (h j _ (m_ hj))
 ·next e=>
  rw[M_]
  ·exact h i v hi
  ·intro e2;injection e2 with _ e3;omega
theorem Rs.yg{w:World}{a b:List Nat}(h:(a++b).Nodup):a.Nodup∧b.Nodup∧∀x∈a,x∉b:=
 ⟨(D_.1 h).1,(D_.1 h).2.1,fun x hx hy=>(D_.1 h).2.2 x hx x hy rfl⟩
theorem Sl.focus{w:World}{s:Nat}{l:List D}{fp:List Nat}{A:Option Addr}{n cap:Nat}(h:Sl w l fp (.slice A n cap))(hnd:fp.Nodup)(hs:∀d∈l,d.sz=s){k:Nat}{d:D}(hd:l[k]? =some d):
 ∃b o fi ci,A=some ⟨b,o,none⟩∧b<w.heap.size∧b∈fp∧R w d fi ci∧(∀x∈fi,x∈fp)∧b∉fi∧fi.Nodup∧At w b (o+k*s) ci∧
  ∀(w':World) (d':D) (ci':List Value),d'.sz=s→R w' d' fi ci'→At w' b (o+k*s) ci'→Inr b (o+k*s) (o+k*s+s) fi w w'→Sl w' (l.set k d') fp (.slice A n cap):=by
 unfold Sl at h;rw[R]at h;obtain⟨A',cap',h1,hle,hcap,h3⟩:=h;simp only[p_,and_true,r_]at h1;obtain⟨rfl,rfl,rfl⟩:=h1;rcases h3 with⟨rfl,_⟩|⟨b,o,fp',cs',rfl,rfl,hb,hr,ha⟩
 ·simp at hd
 ·obtain⟨hi,hd'⟩:=l_.1 hd;have e:l=l.take k++(d::l.drop (k+1)):=by rw[← hd',← z_,i_]
  rw[e]at hr;obtain⟨f1,f2,c1,c2,rfl,rfl,h1,h2⟩:=Rs.split hr;obtain⟨g1,g2,e1,e2,rfl,rfl,h3,h4⟩:=h2;have hl:c1.length=k*s:=by
   rw[h1.len,jL (s:=s) _ (fun x hx=>hs x (v_ hx)),f_,A_ (by omega)]
  have hl1:e1.length=s:=by rw[h3.len,hs d (List.mem_of_getElem? hd)]
  have hnd':=(N_.1 hnd)
  obtain⟨n1,n2,n3⟩:=Rs.yg (w:=w) hnd'.2;obtain⟨n4,n5,n6⟩:=Rs.yg (w:=w) n2;have ha2:At w b (o+k*s) (e1++e2):=by have:=ha.right;rwa[hl]at this
  refine⟨b,o,g1,e1,rfl,hb,by simp,h3,fun x hx=>by simp[hx],fun hm=>hnd'.1 (by simp[hm]),n4,ha2.left, ?_⟩;intro w' d' ci' hsz hR' hA' hI;have hbl:∀x∈f1++g2,w'.heap[x]? =w.heap[x]? :=by
   intro x hx;have hx':x∈f1++(g1++g2):=by rcases k_.1 hx with h|h<;>simp[h]
   refine hI.block x (Rs.lt hr x hx') (fun e=>hnd'.1 (e▸hx')) (fun hm=> ?_);rcases k_.1 hx with h|h
   ·exact n3 x h (by simp[hm])
   ·exact n6 x hm h
  unfold Sl;rw[R];have hls:(l.set k d').length=l.length:=List.length_set;have hc':ci'.length=s:=by rw[hR'.len,hsz]
  refine⟨_,cap,by rw[hls],by rw[hls];exact hle,hcap,s_ ⟨b,o,f1++(g1++g2),c1++(ci'++e2),rfl,rfl,e_ hb hI.size, ?_, ?_⟩⟩
  ·have e':l.set k d'=l.take k++(d'::l.drop (k+1)):=by rw[List.set_eq_take_append_cons_drop,if_pos hi]
   rw[e'];have h5:Rs w' (d'::l.drop (k+1)) (g1++g2) (ci'++e2):=by
    rw[Rs];exact⟨g1,g2,ci',e2,rfl,rfl,hR',h4.same (fun x hx=>hbl x (by simp[hx])) hI.size⟩
   exact Rs.append h5 (h1.same (fun x hx=>hbl x (by simp[hx])) hI.size)
  ·intro j u hj;rcases H_ j c1.length with hj1|hj1
   ·rw[h_ hj1]at hj;rw[hI.cell _ (K_ (by omega))];exact ha j u (by rw[h_ hj1];exact hj)
   ·rw[d_ hj1]at hj;rcases H_ (j - c1.length) ci'.length with hj2|hj2
    ·rw[h_ hj2]at hj;have:=hA' _ u hj;rwa[show o+k*s+(j - c1.length)=o+j by omega]at this
    ·rw[d_ hj2]at hj;rw[hI.cell _ (s_ (by omega))];refine ha j u ?_;rw[d_ hj1,d_ (by omega),← hj];congr 1;omega
def Q7(l:List D)(fp:List Nat)(v:Value)(k:Int)(w:World)(e:Ending)(w':World):Prop:=e= .returned (.int .i64 (k+D.cnts l))∧Sl w' (D.mks l k) fp v∧Touch fp w w'
def gK(P:Program)(f:Nat)(l:List D):Prop:=∀(w:World) (fp:List Nat) (v:Value) (k:Int),Sl w l fp v→gV w 0 fp→0≤k→k+D.cnts l≤4611686018427387904→Calls P f #[v,.int .i64 k] w (Q7 l fp v k w)
def NT(d:D)(fp:List Nat)(cs:List Value)(k:Int)(w:World)(e:Ending)(w':World):Prop:=e= .returned (.int .i64 (k+d.acnt))∧R w' (d.amk k) fp cs∧Touch fp w w'
def Ea(P:Program)(f:Nat)(d:D):Prop:=∀(w:World) (fp:List Nat) (cs:List Value) (k:Int),R w d fp cs→gV w 0 fp→0≤k→k+d.acnt≤4611686018427387904→Calls P f #[.agg cs.toArray,.int .i64 k] w (NT d fp cs k w)
def I7(n:Nat)(k:Int)(w:World)(e:Ending)(w':World):Prop:=e= .returned (.int .i64 (k+n))∧Below w.heap.size w w'
def gQ(P:Program)(f:Nat)(l:List D):Prop:=∀(w:World) (fp:List Nat) (v:Value) (k:Int),Sl w (D.mks l k) fp v→0≤k→k+D.cnts l≤4611686018427387904→Calls P f #[v,.int .i64 k] w (I7 (D.cnts l) k w)
def Eb(P:Program)(f:Nat)(d:D):Prop:=∀(w:World) (fp:List Nat) (cs:List Value) (k:Int),R w (d.amk k) fp cs→0≤k→k+d.acnt≤4611686018427387904→Calls P f #[.agg cs.toArray,.int .i64 k] w (I7 d.acnt k w)
theorem Sl.inr{b lo hi:Nat}{F:List Nat}{w a:World}{l:List D}{g:List Nat}{v:Value}(h:Sl w l g v)(hI:Inr b lo hi F w a)(hb:b∉g)(hd:∀x∈g,x∉F):Sl a l g v:=
 R.same h (fun x hx=>hI.block x (R.lt h x hx) (fun e=>hb (e▸hx)) (hd x hx)) hI.size
theorem gV.inr{b lo hi:Nat}{F:List Nat}{w a:World}{base:Nat}{g:List Nat}(h:gV w base g)(hl:∀x∈g,x<w.heap.size)(hI:Inr b lo hi F w a):gV a base g:=
 ⟨h.1,fun x hx=>⟨(h.2 x hx).1,fun o=>by rw[hI.froz x o (hl x hx)];exact(h.2 x hx).2 o⟩⟩
theorem Inr.mono{b lo hi:Nat}{F F':List Nat}{w a:World}(h:Inr b lo hi F w a)(hf:∀x∈F,x∈F'):Inr b lo hi F' w a:=
 ⟨h.os,h.tape,h.output,h.size,fun x hx h1 h2=>h.block x hx h1 (fun hm=>h2 (hf x hm)),h.cell,h.froz⟩
theorem gV.sub{w:World}{base:Nat}{fp g:List Nat}(h:gV w base fp)(hn:g.Nodup)(hs:∀x∈g,x∈fp):gV w base g:=⟨hn,fun x hx=>h.2 x (hs x hx)⟩
mutual
def D.thin :D→Prop
 | .leaf _=>True
 | .sl l=>D.iM l
 | .agg l=>D.JE l
def D.iM :List D→Prop
 | []=>True
 |d::l=>d.sz≤14∧d.thin∧D.iM l
def D.JE :List D→Prop
 | []=>True
 |d::l=>d.thin∧D.JE l
end
mutual
theorem D.cnt_le :∀(d:D),d.thin→d.cnt≤d.sz+14*d.wt
 | .leaf _,_=>by simp only[D.cnt,D.sz];omega
 | .sl l,h=>by
   have:=D.LD l h;simp only[D.cnt,D.sz,D.wt];omega
 | .agg l,h=>by
   have:=D.IU l h;simp only[D.cnt,D.sz,D.wt];omega
theorem D.LD :∀(l:List D),D.iM l→D.cnts l≤14*(l.length+D.wts l)
 | [],_=>by simp only[D.cnts];omega
 | d::l,h=>by
   obtain⟨h1,h2,h3⟩:=h;have e1:=D.cnt_le d h2;have e2:=D.LD l h3;simp only[D.cnts,D.wts,u_];omega
theorem D.IU :∀(l:List D),D.JE l→D.cnts l≤D.szs l+14*D.wts l
 | [],_=>by simp only[D.cnts,D.szs];omega
 | d::l,h=>by
   obtain⟨h1,h2⟩:=h;have e1:=D.cnt_le d h1;have e2:=D.IU l h2;simp only[D.cnts,D.wts,D.szs];omega
end
mutual
theorem D.SS :∀(d:D),d.acnt≤d.cnt
 | .leaf _=>by simp only[D.acnt];omega
 | .sl l=>by simp only[D.acnt,D.cnt];omega
 | .agg l=>by
   have:=D.D7 l;simp only[D.acnt,D.cnt];omega
theorem D.D7 :∀(l:List D),D.qK l≤D.cnts l
 | []=>by simp only[D.qK];omega
 | d::l=>by
   have e1:=D.SS d;have e2:=D.D7 l;simp only[D.qK,D.cnts];omega
end
theorem D.iU{l:List D}(h:∀d∈l,d.sz≤14∧d.thin):D.iM l:=by
 induction l with
 |nil=>trivial
 |cons d l ih=>exact⟨(h d (by simp)).1,(h d (by simp)).2,ih fun x hx=>h x (by simp[hx])⟩
theorem LY(l:List Int):D.iM (l.map li):=D.iU fun d hd=>by obtain⟨x,_,rfl⟩:=a_.1 hd;exact⟨by simp[li,D.sz],trivial⟩
theorem LX(l:List ByteArray):D.iM (l.map ls):=D.iU fun d hd=>by obtain⟨x,_,rfl⟩:=a_.1 hd;exact⟨by simp[ls,D.sz],trivial⟩
theorem GOrigin.thin(x:GOrigin):x.toD.thin:=by
 rw[GOrigin.dI];exact⟨trivial,trivial,trivial⟩
theorem GOrigin.iM(l:List GOrigin):D.iM (l.map GOrigin.toD):=D.iU fun d hd=>by obtain⟨y,_,rfl⟩:=a_.1 hd;exact⟨by rw[GOrigin.gu];omega,y.thin⟩
theorem GRow.thin(x:GRow):x.toD.thin:=by
 rw[GRow.dI];exact⟨LY _,GOrigin.iM _,trivial⟩
theorem GRow.iM(l:List GRow):D.iM (l.map GRow.toD):=D.iU fun d hd=>by obtain⟨y,_,rfl⟩:=a_.1 hd;exact⟨by rw[GRow.gu];omega,y.thin⟩
theorem GVal.thin(x:GVal):x.toD.thin:=by
 rw[GVal.dI];exact⟨trivial,trivial,trivial,trivial,(D.iU fun d hd=>by obtain⟨y,hy,rfl⟩:=a_.1 hd;exact⟨by rw[GVal.gu];omega,GVal.thin y⟩),LX _,GRow.iM _,trivial⟩
termination_by x_ x
decreasing_by exact GVal.lt_of_mem hy
theorem GVal.iM(l:List GVal):D.iM (l.map GVal.toD):=D.iU fun d hd=>by obtain⟨y,_,rfl⟩:=a_.1 hd;exact⟨by rw[GVal.gu];omega,y.thin⟩
theorem GTok.thin(x:GTok):x.toD.thin:=by
 rw[GTok.dI];exact⟨trivial,trivial,trivial,trivial,trivial⟩
theorem GTok.iM(l:List GTok):D.iM (l.map GTok.toD):=D.iU fun d hd=>by obtain⟨y,_,rfl⟩:=a_.1 hd;exact⟨by rw[GTok.gu];omega,y.thin⟩
theorem GExpr.thin(x:GExpr):x.toD.thin:=by
 rw[GExpr.dI];exact⟨trivial,trivial,trivial,(D.iU fun d hd=>by obtain⟨y,hy,rfl⟩:=a_.1 hd;exact⟨by rw[GExpr.gu];omega,GExpr.thin y⟩),trivial⟩
termination_by x_ x
decreasing_by exact GExpr.lt_of_mem hy
theorem GExpr.iM(l:List GExpr):D.iM (l.map GExpr.toD):=D.iU fun d hd=>by obtain⟨y,_,rfl⟩:=a_.1 hd;exact⟨by rw[GExpr.gu];omega,y.thin⟩
theorem GCell.thin(x:GCell):x.toD.thin:=by
 rw[GCell.dI];exact⟨trivial,trivial,trivial,trivial,trivial,trivial,trivial⟩
theorem GCell.iM(l:List GCell):D.iM (l.map GCell.toD):=D.iU fun d hd=>by obtain⟨y,_,rfl⟩:=a_.1 hd;exact⟨by rw[GCell.gu];omega,y.thin⟩
theorem GNb.thin(x:GNb):x.toD.thin:=by
 rw[GNb.dI];exact⟨GCell.iM _,trivial⟩
theorem GNb.iM(l:List GNb):D.iM (l.map GNb.toD):=D.iU fun d hd=>by obtain⟨y,_,rfl⟩:=a_.1 hd;exact⟨by rw[GNb.gu];omega,y.thin⟩
theorem GPart.thin(x:GPart):x.toD.thin:=by
 rw[GPart.dI];exact⟨trivial,trivial,GExpr.thin _,GVal.thin _,trivial,trivial⟩
theorem GPart.iM(l:List GPart):D.iM (l.map GPart.toD):=D.iU fun d hd=>by obtain⟨y,_,rfl⟩:=a_.1 hd;exact⟨by rw[GPart.gu];omega,y.thin⟩
theorem GEdit.thin(x:GEdit):x.toD.thin:=by
 rw[GEdit.dI];exact⟨trivial,trivial,GCell.thin _,trivial⟩
theorem GEdit.iM(l:List GEdit):D.iM (l.map GEdit.toD):=D.iU fun d hd=>by obtain⟨y,_,rfl⟩:=a_.1 hd;exact⟨by rw[GEdit.gu];omega,y.thin⟩
theorem GRead.thin(x:GRead):x.toD.thin:=by
 rw[GRead.dI];exact⟨trivial,trivial,trivial,trivial,GVal.thin _,trivial⟩
theorem GRead.iM(l:List GRead):D.iM (l.map GRead.toD):=D.iU fun d hd=>by obtain⟨y,_,rfl⟩:=a_.1 hd;exact⟨by rw[GRead.gu];omega,y.thin⟩
theorem GTape.thin(x:GTape):x.toD.thin:=by
 rw[GTape.dI];exact⟨trivial,trivial,GRead.iM _,trivial⟩
theorem GTape.iM(l:List GTape):D.iM (l.map GTape.toD):=D.iU fun d hd=>by obtain⟨y,_,rfl⟩:=a_.1 hd;exact⟨by rw[GTape.gu];omega,y.thin⟩
theorem J6{a b:ByteArray}(h:a=b):y_ (.string a)= .returned (.string b):=by rw[h]
def UZ(v:Value)(w:World)(e:Ending)(w':World):Prop:=e= .returned v∧Below w.heap.size w w'
theorem QG(n:Nat):(Dc n).length≤n:=by
 induction n using Nat.strongRecOn with
 | ind n ih=>
   by_cases h:n=0
   ·subst h;rw[DT];simp
   ·rw[Iq h,J_];have:=ih (n / 10) (by omega);simp only[u_,List.length_nil];omega
theorem UN(w:World)(g n:Nat)(hn:n<256)(hc:w.cell? ⟨g,0,none⟩=some (.int .u8 (n:Int))):
 (convert 32 9 (.slice (some ⟨g,0,none⟩) 1 1)).run Tryz.prog w= .ok (.string ⟨#[E_ n]⟩) w:=by
 have h:=run_convert_bytes_back (P:=Tryz.prog) w 32 9 5 ⟨g,0,none⟩ 1 [E_ n] Tryz.underlying32 Tryz.underlying5 Tryz.underlying9 (fun j hj=>by
  have:j=0:=by simpa using hj
  subst this;have e:((E_ n).toNat:Int)=(n:Int):=by simp;omega
  simp only[List.getElem_cons_zero,e];exact hc)
 exact h
theorem nD(k:Int)(w:World)(hk:k≤4611686018427387904):Calls Tryz.prog 85 #[.int .i64 k] w (UZ (.string (qZ k)) w):=by
 by_cases h:k≤0
 ·go_enter Tryz.func85,Tryz.ntmps85
  go_wp2
  go_ret
  exact⟨J6 (by unfold qZ;rw[if_pos h]),L_ _ _⟩
 ·obtain⟨n,rfl⟩:=Int.eq_ofNat_of_zero_le (show 0≤k by omega)
  go_enter Tryz.func85,Tryz.ntmps85
  go_wp2
  go_loopw [0,3] (fun kv ov wr=>∃(m:Nat) (l:List UInt8),m≤n∧kv= .int .i64 m∧ov= .string ⟨l.toArray⟩∧Dc n=Dc m++l∧Below w.heap.size w wr) (fun kv _ _=>(intOf kv).toNat)
  case atStart=>exact⟨n,[],by omega,rfl,rfl,by simp,L_ _ _⟩
  case round=>
   obtain⟨m,l,hmn,rfl,rfl,hd,hb⟩:=hrel;have hl:l.length≤n:=by have:=QG n;rw[hd,J_]at this;omega
   have hd':=g_ hd;clear hd;by_cases hm:m=0
   ·have hm':¬(0:Int)<(m:Int):=by omega
    go_wp2
    go_ret
    refine⟨J6 ?_,hb⟩;subst hm;have e:=hd'.out;rw[DT,c_]at e;unfold qZ;rw[if_neg (by omega),Int.toNat_natCast,e,ByteArray.mk_append_mk];rfl
   ·have hm':(0:Int)<(m:Int):=by omega
    have hcv:=UN (wr.alloc (.cells #[.int .u8 (48+(m:Int) % 10)] 5)) wr.heap.size (48+m % 10) (by omega) (by simp);obtain⟨c,hc⟩:∃c:UInt8,c=E_ (48+m % 10):=⟨_,rfl⟩
    rw[← hc]at hcv;have hc':=g_ hc;clear hc
    go_wp2
    go_roundw
    case rel=>exact⟨m / 10,c::l,by omega,by simp,by rw[ByteArray.mk_append_mk];rfl,by rw[hd'.out,Iq hm,U_,← hc'.out];rfl,hb.alloc hb.size _⟩
    case measure=>(simp[intOf]<;>omega)
theorem Row.drew{w:World}{g:Nat}{e:TypeId}{xs:List Value}(h:Row w g e xs):Row w.drew g e xs:=h
structure EK (P:Program) where
 t:TypeId
 e:TypeId
 s:Nat
 ht:P.underlying t=some (.slice e)
 info:∃(i:TypeInfo) (z:Value),P.info? e=some i∧i.zero=some z∧i.size=s∧i.bytes≤1024∧z.cells.size=s
 h0:0<s
def oh(w:World)(base:Nat)(e:TypeId)(s:Nat)(l:List D)(f:List Nat)(v:Value):Prop:=
 ∃cs,w.ownsRow base e s v l.length cs∧Rs w l f cs∧gV w base f∧∀g,v.ownBlock=some g→g∉f
def Src(w:World)(l:List D)(f:List Nat)(v:Value):Prop:=
 ∃A c cs,v= .slice A l.length c∧Rs w l f cs∧((l= []∧cs= [])∨∃b o,A=some ⟨b,o,none⟩∧b<w.heap.size∧At w b o cs)
theorem Src.TA{w:World}{l:List D}{fp:List Nat}{v:Value}(h:Sl w l fp v):∃f,Src w l f v∧(∀x∈f,x∈fp):=by
 obtain⟨A,c,rfl,_,_⟩:=h.form;obtain⟨_,f,cs,h1,h2,h3⟩:=h.cells;exact⟨f,⟨A,c,cs,rfl,h1,h3⟩,h2⟩
theorem Src.of_flat{w:World}{l:List D}{fp:List Nat}{v:Value}(h:Sl w l fp v)(hf:∀(f:List Nat) (cs:List Value),Rs w l f cs→f= []):Src w l [] v:=by
 obtain⟨f,⟨A,c,cs,h1,h2,h3⟩,_⟩:=Src.TA h;have:=hf f cs h2;subst this;exact⟨A,c,cs,h1,h2,h3⟩
theorem Src.one{w:World}{g:Nat}{e:TypeId}{cs:List Value}{d:D}{f:List Nat}(h:Row w g e cs)(hR:R w d f cs):Src w [d] f (.slice (some ⟨g,0,none⟩) 1 1):=
 ⟨_,_,cs,rfl,Rs.one hR,s_ ⟨g,0,rfl,h.lt,fun j u hj=>by rw[I_,h.cell,hj]⟩⟩
theorem Src.two{w:World}{g:Nat}{e:TypeId}{cs:List Value}{l:List D}{f:List Nat}{n:Nat}(h:Row w g e cs)(hR:Rs w l f cs)(hn:l.length=n):Src w l f (.slice (some ⟨g,0,none⟩) n n):=by
 subst hn;exact⟨_,_,cs,rfl,hR,s_ ⟨g,0,rfl,h.lt,fun j u hj=>by rw[I_,h.cell,hj]⟩⟩
section
variable{w w':World}{base:Nat}{e:TypeId}{s:Nat}{l:List D}{f:List Nat}{v:Value}
theorem oh.sl(h:oh w base e s l f v):Sl w l (v.ownBlock.toList++f) v:=by
 obtain⟨cs,h1,h2,_⟩:=h;exact Sl.of_own h1 h2
theorem oh.free(h:oh w base e s l f v):gV w base (v.ownBlock.toList++f):=by
 obtain⟨cs,h1,h2,h3,h4⟩:=h;exact gV.of_own h1 h3 h4
theorem oh.lit{g:Nat}(hg:w.heap.size=g)(hb:base≤g):oh (w.alloc (.cells #[] e)) base e s [] [] (.slice (some ⟨g,0,none⟩) 0 0):=by
 subst hg;exact⟨[],World.ownsRow_lit w #[] 0 hb (by simp) (by simp),⟨rfl,rfl⟩,gV.nil,fun _ _=>by simp⟩
theorem oh.nil :oh w base e s [] [] (.slice none 0 0):=
 ⟨[],⟨by simp,K_ ⟨rfl,rfl⟩⟩,⟨rfl,rfl⟩,gV.nil,fun _ _=>by simp⟩
theorem oh.lt(h:oh w base e s l f v):∀x∈f,x<w.heap.size:=by
 obtain⟨cs,h1,h2,_⟩:=h;exact Rs.lt h2
theorem oh.below(h:oh w base e s l f v)(hb:Below w.heap.size w w'):oh w' base e s l f v:=by
 obtain⟨cs,h1,h2,h3,h4⟩:=h;exact⟨cs,CW h1 hb,h2.below hb,h3.below (Rs.lt h2) hb,h4⟩
theorem oh.mono{base':Nat}(h:oh w base e s l f v)(hb:base'≤base):oh w base' e s l f v:=by
 obtain⟨cs,h1,h2,h3,h4⟩:=h;exact⟨cs,EC h1 hb,h2,h3.mono hb,h4⟩
theorem oh.form(h:oh w base e s l f v):∃A c,v= .slice A l.length c:=by
 obtain⟨cs,h1,_⟩:=h;exact ED h1
theorem oh.tos{W:World}(h:oh w' W.heap.size e s l f v)(hb:Below W.heap.size W w'):zI l W (.returned v) w':=⟨_,v,rfl,h.sl,h.free,hb⟩
end
theorem Sl.take{w:World}{l:List D}{fp:List Nat}{A:Option Addr}{n cap k:Nat}(h:Sl w l fp (.slice A n cap))(hk:k≤l.length):∃f,Sl w (l.take k) f (.slice A k cap)∧∀x∈f,x∈fp:=by
 unfold Sl at h⊢;rw[R]at h;obtain⟨A',cap',h1,h2,h3,h4⟩:=h;simp only[p_,and_true,r_]at h1;obtain⟨rfl,rfl,rfl⟩:=h1;have hl:(l.take k).length=k:=by rw[f_];omega
 rcases h4 with⟨rfl,rfl⟩|⟨b,o,fp',cs',rfl,rfl,hb,hr,ha⟩
 ·have:k=0:=by simpa using hk
  subst this;refine⟨[], ?_,fun _ hx=>hx⟩;rw[R];exact⟨A,cap,by simp,by simp,h3,K_ ⟨by simp,rfl⟩⟩
 ·have hr':=hr;rw[← i_ k l]at hr';obtain⟨f1,f2,c1,c2,rfl,rfl,r1,r2⟩:=Rs.split hr';refine⟨b::f1, ?_,fun x hx=>by
   rcases w_.1 hx with rfl|h
   ·simp
   ·simp[h]⟩
  rw[R];exact⟨_,cap,by rw[hl],by rw[hl];omega,h3,s_ ⟨b,o,f1,c1,rfl,rfl,hb,r1,ha.left⟩⟩
theorem Sl.drop{w:World}{l:List D}{fp:List Nat}{b o n cap k s:Nat}(h:Sl w l fp (.slice (some ⟨b,o,none⟩) n cap))(hs:∀d∈l,d.sz=s)(hk:k≤l.length):∃f,Sl w (l.drop k) f (.slice (some ⟨b,o+k*s,none⟩) (n - k) (cap - k))∧∀x∈f,x∈fp:=by
 unfold Sl at h⊢;rw[R]at h;obtain⟨A',cap',h1,h2,h3,h4⟩:=h;simp only[p_,and_true,r_]at h1;obtain⟨rfl,rfl,rfl⟩:=h1;have hl:(l.drop k).length=l.length - k:=List.length_drop;rcases h4 with⟨rfl,rfl⟩|⟨b',o',fp',cs',hbo,rfl,hb,hr,ha⟩
 ·refine⟨[], ?_,fun _ hx=>hx⟩;rw[R];exact⟨some ⟨b,o+k*s,none⟩,cap - k,by simp,by simp,by omega,K_ ⟨by simp,rfl⟩⟩
 ·injection hbo with hbo
  injection hbo with hb1 hb2 _
  subst hb1 hb2;have hr':=hr;rw[← i_ k l]at hr';obtain⟨f1,f2,c1,c2,rfl,rfl,r1,r2⟩:=Rs.split hr';have hc1:c1.length=k*s:=by rw[r1.len,jL (s:=s) _ (fun d hd=>hs d (v_ hd)),f_,A_ hk]
  refine⟨b::f2, ?_,fun x hx=>by
   rcases w_.1 hx with rfl|h
   ·simp
   ·simp[h]⟩
  rw[R];exact⟨_,_,by rw[hl],by rw[hl];omega,by omega,s_ ⟨b,o+k*s,f2,c2,rfl,rfl,hb,r2,by have:=ha.right;rwa[hc1]at this⟩⟩
theorem EK.elem{P:Program}(k:EK P):P.elem k.t=k.e:=by
 have h:=k.ht;simp only[Program.elem];rw[h]
theorem EK.sizeOf{P:Program}(k:EK P)(w:World):(Go.sizeOf k.e).run P w= .ok k.s w:=by
 obtain⟨i,z,hi,hz,hs,_,_⟩:=k.info;simp[Go.sizeOf,typeInfo,hi,hs]
theorem oh.drewN{w:World}{base:Nat}{e:TypeId}{s:Nat}{l:List D}{f:List Nat}{v:Value}(h:oh w base e s l f v)(n:Nat):oh (w.drewN n) base e s l f v:=h.below (rW (L_ _ _) n)
end
section
open List renaming mem_map→a_,cons_append→b_,nil_append→c_,getElem?_append_right→d_,length_take→f_,getElem?_append_left→h_,take_append_drop→i_,append_nil→j_,mem_append→k_,getElem?_eq_some_iff→l_,getElem?_eq_getElem→m_,take_succ_eq_append_getElem→n_,length_cons→u_,mem_of_mem_take→v_,mem_cons→w_,drop_eq_getElem_cons→z_,nodup_append→D_,length_append→J_,nodup_cons→N_,drop_eq_nil_of_le→O_,singleton_append→P_,sizeOf_lt_of_mem→Q_,append_assoc→U_,mem_range→W_
open Nat renaming lt_of_lt_of_le→e_,le_refl→q_,le_trans→t_,min_eq_left→A_,lt_or_ge→H_,zero_add→I_,add_assoc→R_,add_zero→S_,sub_self→T_
open Lib renaming hid→g_
open Below renaming heap_setCell→o_,refl→L_,heap_alloc→V_
open List.cons renaming injEq→p_
open Value.slice renaming injEq→r_
open Or renaming inr→s_,inl→K_
open SizeOf renaming sizeOf→x_
open Ending renaming returned→y_
open Value renaming ownBlock→B_,oneCell'→C_,okWide→a_a
open UInt8 renaming ofNat→E_
open World renaming setCell→F_,cell?_of_block→G_,cell?_setCell_other→M_,frozen? →Y_,cell? →a_b
open Go.RowKit Go.ChangeShapes Go.WideShapes
section
variable{H:Type}{enc:TypeId×Value→H}{P:Program}{w:World}{spare:Nat→Bool}
def JJ(w:World)(cs:List Value):Nat→List D→Prop
 |_,[]=>True
 |off,d::l=>(∃fp,R w d fp ((cs.drop off).take d.sz))∧JJ w cs (off+d.sz) l
theorem JJ.cons{cs:List Value}{off s:Nat}{d:D}{l:List D}(hs:d.sz=s)(h:∃fp,R w d fp ((cs.drop off).take s))(t:JJ w cs (off+s) l):JJ w cs off (d::l):=by
 subst hs;exact⟨h,t⟩
theorem JJ.rs{cs:List Value}:∀(l:List D) (off:Nat),JJ w cs off l→cs.length=off+D.szs l→∃fp,Rs w l fp (cs.drop off)
 | [],off,_,h=>⟨[],by
  rw[D.szs,S_]at h;rw[O_ (by omega)];exact⟨rfl,rfl⟩⟩
 | d::l,off,⟨⟨f1,h1⟩,h2⟩,h=>by
   rw[D.szs]at h;obtain⟨f2,h3⟩:=JJ.rs l (off+d.sz) h2 (by omega);refine⟨f1++f2,f1,f2,_,_,rfl, ?_,h1,h3⟩;rw[← List.drop_drop,i_]
theorem SG{t:TypeId}{v:Value}{d:DataW H}{p:List MemPlace}{r:Reach}{b0:Nat}(hs:P.underlying t=some .string)(hv:a_a P w r b0 t v)
 (h:DataW.Trod enc P w 0 spare true t v d p):∃s:ByteArray,v= .string s∧s.size≤maxLen:=by
 obtain⟨n,rfl⟩:=okWide_string hs hv;obtain⟨fuel,hf⟩:=h;obtain⟨m,h1,_,h2⟩:=DataW.trod_string hs hf;have e:n=m:=by simpa[Value.cells]using h1
 exact⟨n,rfl,e▸h2⟩
end
section
variable{H:Type}{enc:TypeId×Value→H}{w:World}{spare:Nat→Bool}
end
end
section
open List renaming mem_map→a_,cons_append→b_,nil_append→c_,getElem?_append_right→d_,length_take→f_,getElem?_append_left→h_,take_append_drop→i_,append_nil→j_,mem_append→k_,getElem?_eq_some_iff→l_,getElem?_eq_getElem→m_,take_succ_eq_append_getElem→n_,length_cons→u_,mem_of_mem_take→v_,mem_cons→w_,drop_eq_getElem_cons→z_,nodup_append→D_,length_append→J_,nodup_cons→N_,drop_eq_nil_of_le→O_,singleton_append→P_,sizeOf_lt_of_mem→Q_,append_assoc→U_,mem_range→W_
open Nat renaming lt_of_lt_of_le→e_,le_refl→q_,le_trans→t_,min_eq_left→A_,lt_or_ge→H_,zero_add→I_,add_assoc→R_,add_zero→S_,sub_self→T_
open Lib renaming hid→g_
open Below renaming heap_setCell→o_,refl→L_,heap_alloc→V_
open List.cons renaming injEq→p_
open Value.slice renaming injEq→r_
open Or renaming inr→s_,inl→K_
open SizeOf renaming sizeOf→x_
open Ending renaming returned→y_
open Value renaming ownBlock→B_,oneCell'→C_,okWide→a_a
open UInt8 renaming ofNat→E_
open World renaming setCell→F_,cell?_of_block→G_,cell?_setCell_other→M_,frozen? →Y_,cell? →a_b
theorem GOrigin.one_(x:GOrigin):x.toD.one:=by
 rw[GOrigin.dI];simp[D.one,D.ones,li,ls,C_]
theorem GRow.one_(x:GRow):x.toD.one:=by
 rw[GRow.dI];simp[D.one,D.ones,li,ls,C_]
theorem GVal.one_(x:GVal):x.toD.one:=by
 rw[GVal.dI];simp[D.one,D.ones,li,ls,C_]
theorem GExpr.one_(x:GExpr):x.toD.one:=by
 rw[GExpr.dI];simp[D.one,D.ones,li,ls,C_]
theorem GCell.one_(x:GCell):x.toD.one:=by
 rw[GCell.dI];simp[D.one,D.ones,li,ls,C_]
def inR(n lo hi:Int):Bool:=decide (lo≤n) && decide (n≤hi)
def Cj(v:Value)(w:World)(e:Ending)(w':World):Prop:=e= .returned v∧w=w'
def NP(v:Value)(w:World)(e:Ending)(w':World):Prop:=e= .returned v∧Below w.heap.size w w'
theorem zL(n lo hi:Int)(w:World):Calls Tryz.prog 81 #[.int .i64 n,.int .i64 lo,.int .i64 hi] w (Cj (.bool (inR n lo hi)) w):=by
 by_cases h1:lo≤n
 ·by_cases h2:n≤hi
  ·go_enter Tryz.func81,Tryz.ntmps81
   go_wp2
   go_ret
   exact⟨by simp[inR,h1,h2],rfl⟩
  ·have h3:decide (n≤hi)=false:=by simpa using h2
   go_enter Tryz.func81,Tryz.ntmps81
   go_wp2
   go_ret
   exact⟨by simp[inR,h1,h2],rfl⟩
 ·have h3:decide (lo≤n)=false:=by simpa using h1
  go_enter Tryz.func81,Tryz.ntmps81
  go_wp2
  go_ret
  exact⟨congrArg (fun b=>y_ (.bool b)) (by unfold inR;rw[h3];rfl),rfl⟩
theorem PU(n lo hi:Int)(w:World):Calls Tryz.prog 62 #[.int .i64 n,.int .i64 lo,.int .i64 hi] w (Cj (.bool (inR n lo hi)) w):=by
 by_cases h1:lo≤n
 ·by_cases h2:n≤hi
  ·go_enter Tryz.func62,Tryz.ntmps62
   go_wp2
   go_ret
   exact⟨by simp[inR,h1,h2],rfl⟩
  ·have h3:decide (n≤hi)=false:=by simpa using h2
   go_enter Tryz.func62,Tryz.ntmps62
   go_wp2
   go_ret
   exact⟨by simp[inR,h1,h2],rfl⟩
 ·have h3:decide (lo≤n)=false:=by simpa using h1
  go_enter Tryz.func62,Tryz.ntmps62
  go_wp2
  go_ret
  exact⟨congrArg (fun b=>y_ (.bool b)) (by unfold inR;rw[h3];rfl),rfl⟩
theorem ilt(a b:Int):a<b∨b≤a:=by omega
def l9(c:UInt8):Bool:=decide (97≤(c.toNat:Int)) && decide ((c.toNat:Int)≤122)
def mg(c:UInt8):Bool:=decide (48≤(c.toNat:Int)) && decide ((c.toNat:Int)≤57)
def kS(j:Nat)(c:UInt8):Bool:=l9 c ||(decide (0<j) && mg c)
def lu(s:ByteArray):Bool:=decide (0<s.size) && (List.range s.size).all fun j=>kS j (s.data.toList.getD j 0)
def lV(s:ByteArray):Bool:=lu s && decide ((s.size:Int)≤8)
theorem vN(s:ByteArray)(j:Nat)(h:j<s.size):s.data.toList.getD j 0=s[j]:=by
 rw[List.getD_eq_getElem?_getD,m_ (by simpa using h)];rfl
theorem jG{s:ByteArray}{j:Nat}(hj:j<s.size)(h:kS j s[j]=false):lu s=false:=by
 unfold lu;rw[Bool.and_eq_false_iff];refine s_ (List.all_eq_false.2 ⟨j,W_.2 hj, ?_⟩);rw[vN s j hj,h];decide
theorem xY{s:ByteArray}(h:∀j (hj:j<s.size),kS j s[j]=true):lu s=decide (0<(s.size:Int)):=by
 unfold lu;rw[List.all_eq_true.2 (fun j hj=>by rw[vN s j (W_.1 hj)];exact h j _),Bool.and_true];simp
theorem kV{s:ByteArray}{j:Nat}(hj:j<s.size)(h:kS j s[j]=false):lV s=false:=by
 unfold lV;rw[jG hj h];rfl
theorem I8{s:ByteArray}(h:∀j (hj:j<s.size),kS j s[j]=true):lV s=inR s.size 1 8:=by
 unfold lV inR;rw[xY h];congr 1
theorem GY(s:ByteArray)(hs:s.size≤9223372036854775807)(w:World):Calls Tryz.prog 124 #[.string s] w (Cj (.bool (lV s)) w):=by
 go_enter Tryz.func124,Tryz.ntmps124
 go_wp2
 go_loop [3] (fun i=>∃k:Nat,k≤s.size∧i= .int .i64 k∧∀j (hj:j<s.size),j<k→kS j s[j]=true) (fun i=>s.size - (intOf i).toNat)
 case atStart=>exact⟨0,Nat.zero_le _,rfl,fun j hj h=>absurd h (by omega)⟩
 case round=>
  obtain⟨k,hk,rfl,hall⟩:=hrel;have hall':=g_ hall;clear hall;by_cases hlt:k<s.size
  ·rcases ilt (s[k].toNat:Int) 97 with h1|h1
   ·have d1:decide (97≤(s[k].toNat:Int))=false:=by simp;omega
    by_cases hk0:k=0
    ·have hk1:((k:Int)==0)=true:=by simp[hk0]
     have hk2:kS k s[k]=false:=by unfold kS l9 mg;simp;omega
     clear hk0;have hf:=g_ (show false=lV s from(kV hlt (hk2)).symm);clear hk2
     go_wp2
     all_goals(go_ret;exact⟨fV hf.out,rfl⟩)
    ·have hk1:((k:Int)==0)=false:=by simp;omega
     rcases ilt (s[k].toNat:Int) 48 with h3|h3
     ·have d2:decide (48≤(s[k].toNat:Int))=false:=by simp;omega
      have hf:=g_ (show false=lV s from(kV hlt (by unfold kS l9 mg;simp;omega)).symm)
      go_wp2
      all_goals(go_ret;exact⟨fV hf.out,rfl⟩)
     ·rcases ilt 57 (s[k].toNat:Int)with h4|h4
      ·have d2:decide ((s[k].toNat:Int)≤57)=false:=by simp;omega
       have hf:=g_ (show false=lV s from(kV hlt (by unfold kS l9 mg;simp;omega)).symm)
       go_wp2
       all_goals(go_ret;exact⟨fV hf.out,rfl⟩)
      ·skip
       have hf:=g_ (show kS k s[k]=true from by unfold kS l9 mg;simp;omega)
       go_wp2
       go_round
       case rel=>exact⟨k+1,by omega,by go_num,fun j hj h=>by
        by_cases e:j=k
        ·subst e;exact hf.out
        ·exact hall'.out j hj (by omega)⟩
       case measure=>(simp[intOf]<;>omega)
   ·rcases ilt 122 (s[k].toNat:Int)with h2|h2
    ·have d1:decide ((s[k].toNat:Int)≤122)=false:=by simp;omega
     by_cases hk0:k=0
     ·have hk1:((k:Int)==0)=true:=by simp[hk0]
      have hk2:kS k s[k]=false:=by unfold kS l9 mg;simp;omega
      clear hk0;have hf:=g_ (show false=lV s from(kV hlt (hk2)).symm);clear hk2
      go_wp2
      all_goals(go_ret;exact⟨fV hf.out,rfl⟩)
     ·have hk1:((k:Int)==0)=false:=by simp;omega
      rcases ilt (s[k].toNat:Int) 48 with h3|h3
      ·have d2:decide (48≤(s[k].toNat:Int))=false:=by simp;omega
       have hf:=g_ (show false=lV s from(kV hlt (by unfold kS l9 mg;simp;omega)).symm)
       go_wp2
       all_goals(go_ret;exact⟨fV hf.out,rfl⟩)
      ·rcases ilt 57 (s[k].toNat:Int)with h4|h4
       ·have d2:decide ((s[k].toNat:Int)≤57)=false:=by simp;omega
        have hf:=g_ (show false=lV s from(kV hlt (by unfold kS l9 mg;simp;omega)).symm)
        go_wp2
        all_goals(go_ret;exact⟨fV hf.out,rfl⟩)
       ·skip
        omega
    ·skip
     have hf:=g_ (show kS k s[k]=true from by unfold kS l9 mg;simp;omega)
     go_wp2
     go_round
     case rel=>exact⟨k+1,by omega,by go_num,fun j hj h=>by
      by_cases e:j=k
      ·subst e;exact hf.out
      ·exact hall'.out j hj (by omega)⟩
     case measure=>(simp[intOf]<;>omega)
  ·have hf:=g_ (show inR s.size 1 8=lV s from(I8 (fun j hj=>hall'.out j hj (by omega))).symm)
   go_wp2_with (go_at_call 81;refine(zL _ _ _ _).mono ?_;rintro e w' ⟨rfl,rfl⟩)
   go_ret
   exact⟨fV hf.out,rfl⟩
theorem EO(s:ByteArray)(hs:s.size≤9223372036854775807)(w:World):Calls Tryz.prog 101 #[.string s] w (Cj (.bool (lu s)) w):=by
 go_enter Tryz.func101,Tryz.ntmps101
 go_wp2
 go_loop [3] (fun i=>∃k:Nat,k≤s.size∧i= .int .i64 k∧∀j (hj:j<s.size),j<k→kS j s[j]=true) (fun i=>s.size - (intOf i).toNat)
 case atStart=>exact⟨0,Nat.zero_le _,rfl,fun j hj h=>absurd h (by omega)⟩
 case round=>
  obtain⟨k,hk,rfl,hall⟩:=hrel;have hall':=g_ hall;clear hall;by_cases hlt:k<s.size
  ·rcases ilt (s[k].toNat:Int) 97 with h1|h1
   ·have d1:decide (97≤(s[k].toNat:Int))=false:=by simp;omega
    by_cases hk0:k=0
    ·have hk1:((k:Int)==0)=true:=by simp[hk0]
     have hk2:kS k s[k]=false:=by unfold kS l9 mg;simp;omega
     clear hk0;have hf:=g_ (show false=lu s from(jG hlt (hk2)).symm);clear hk2
     go_wp2
     all_goals(go_ret;exact⟨fV hf.out,rfl⟩)
    ·have hk1:((k:Int)==0)=false:=by simp;omega
     rcases ilt (s[k].toNat:Int) 48 with h3|h3
     ·have d2:decide (48≤(s[k].toNat:Int))=false:=by simp;omega
      have hf:=g_ (show false=lu s from(jG hlt (by unfold kS l9 mg;simp;omega)).symm)
      go_wp2
      all_goals(go_ret;exact⟨fV hf.out,rfl⟩)
     ·rcases ilt 57 (s[k].toNat:Int)with h4|h4
      ·have d2:decide ((s[k].toNat:Int)≤57)=false:=by simp;omega
       have hf:=g_ (show false=lu s from(jG hlt (by unfold kS l9 mg;simp;omega)).symm)
       go_wp2
       all_goals(go_ret;exact⟨fV hf.out,rfl⟩)
      ·skip
       have hf:=g_ (show kS k s[k]=true from by unfold kS l9 mg;simp;omega)
       go_wp2
       go_round
       case rel=>exact⟨k+1,by omega,by go_num,fun j hj h=>by
        by_cases e:j=k
        ·subst e;exact hf.out
        ·exact hall'.out j hj (by omega)⟩
       case measure=>(simp[intOf]<;>omega)
   ·rcases ilt 122 (s[k].toNat:Int)with h2|h2
    ·have d1:decide ((s[k].toNat:Int)≤122)=false:=by simp;omega
     by_cases hk0:k=0
     ·have hk1:((k:Int)==0)=true:=by simp[hk0]
      have hk2:kS k s[k]=false:=by unfold kS l9 mg;simp;omega
      clear hk0;have hf:=g_ (show false=lu s from(jG hlt (hk2)).symm);clear hk2
      go_wp2
      all_goals(go_ret;exact⟨fV hf.out,rfl⟩)
     ·have hk1:((k:Int)==0)=false:=by simp;omega
      rcases ilt (s[k].toNat:Int) 48 with h3|h3
      ·have d2:decide (48≤(s[k].toNat:Int))=false:=by simp;omega
       have hf:=g_ (show false=lu s from(jG hlt (by unfold kS l9 mg;simp;omega)).symm)
       go_wp2
       all_goals(go_ret;exact⟨fV hf.out,rfl⟩)
      ·rcases ilt 57 (s[k].toNat:Int)with h4|h4
       ·have d2:decide ((s[k].toNat:Int)≤57)=false:=by simp;omega
        have hf:=g_ (show false=lu s from(jG hlt (by unfold kS l9 mg;simp;omega)).symm)
        go_wp2
        all_goals(go_ret;exact⟨fV hf.out,rfl⟩)
       ·skip
        omega
    ·skip
     have hf:=g_ (show kS k s[k]=true from by unfold kS l9 mg;simp;omega)
     go_wp2
     go_round
     case rel=>exact⟨k+1,by omega,by go_num,fun j hj h=>by
      by_cases e:j=k
      ·subst e;exact hf.out
      ·exact hall'.out j hj (by omega)⟩
     case measure=>(simp[intOf]<;>omega)
  ·have hf:=g_ (show decide (0<s.size)=lu s from((xY (fun j hj=>hall'.out j hj (by omega))).trans (by simp)).symm)
   go_wp2
   go_ret
   exact⟨fV hf.out,rfl⟩
end
end Go.Proofs.YtfengkmaphbofaaGreatDoor
