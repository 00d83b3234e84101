/-
  Texts joined: IrD IrD2 IrM IrO IrP.
-/
import Derived.Test.YtagaefgglphkgaaJC
import Derived.Orders
set_option linter.unusedSimpArgs false
set_option linter.unusedVariables false
namespace Go.Proofs.Ytagaefgglphkgaa
open Go.RowKit
open Or renaming inl→a_,inr→b_
open Bool renaming and_eq_true→c_,not_eq_true'→m_,or_eq_true→B_,not_true→F_,false_or→G_,false_eq_true→V_
open List renaming getD_eq_getElem?_getD→d_,mem_filter→e_,mem_range→f_,mk_mem_zipIdx_iff_getElem? →g_,getElem?_set_ne→k_,filter_eq_self→n_,length_append→o_,pairwise_lt_range→p_,pairwise_append→r_,mem_of_getElem? →s_,getElem?_append_left→u_,getElem?_eq_some_iff→v_,pairwise_cons→w_,all_cons→y_,mem_append_right→z_,contains_iff_mem→A_,mem_append→C_,eq_nil_of_length_eq_zero→D_,map_cons→E_,getElem?_append_right→H_,getElem?_set→I_,length_cons→J_,all_eq_true→K_,append_cancel_left→M_,range→N_,range_eq_range'→O_,set_comm→P_,mem_cons→Q_,append_of_mem→S_,filter_filter→T_,filter_append→U_,flatMap_cons→W_,filter_congr→X_,length→Y_,cons_append→a_a,mem_flatMap→a_b,filter_cons→a_c,length_nil→a_d,append_nil→a_e,range'→a_k
open Option renaming getD_some→h_,map_some→t_
open Region renaming binds→i_,ready→l_
open Nat renaming le_refl→j_,add_sub_cancel_left→L_,lt_of_lt_of_le→R_,add_assoc→a_g,le_of_lt→a_h,add_comm→a_i,le_of_eq→a_j
open List.Pairwise renaming filter→q_
open Option.some renaming injEq→x_
def I.cls :I→Nat
 | .load .. =>2
 | .iad .. =>1
 | .lsl .. =>1
 | .fad .. =>1
 | .nck .. =>1
 | .len .. =>1
 | .snil .. =>1
 | .call .. =>1
 | .app .. =>3
 | .brow true .. =>3
 | .mk .. =>3
 | .apps .. =>3
 | .cvs .. =>1
 | .alloc .. =>4
 | .box .. =>4
 | .store .. =>5
 |_=>0
def Opd.tmps :Opd→List Nat| .t n=> [n]| .k _=> []
def PE :Option Opd→List Nat|some x=>x.tmps|none=> []
def I.reads :I→List Nat
 | .mov x=>x.tmps
 | .pick c x y=>c.tmps++(x.tmps++y.tmps)
 | .bin _ x y=>x.tmps++y.tmps
 | .beq _ x y=>x.tmps++y.tmps
 | .not x=>x.tmps
 | .load _ _ x=>x.tmps
 | .fad _ x=>x.tmps
 | .iad _ x i=>x.tmps++i.tmps
 | .nck x=>x.tmps
 | .alloc _=> []
 | .box x=>x.tmps
 | .store _ x y=>x.tmps++y.tmps
 | .brow _ _ _ _ _ xs=>xs.flatMap Opd.tmps
 | .bld _ ps=>ps.flatMap fun p=>p.2.2.tmps
 | .fld _ _ _ x=>x.tmps
 | .sidx x i=>x.tmps++i.tmps
 | .ssl x lo hi=>x.tmps++(PE lo++PE hi)
 | .lsl _ x lo hi=>x.tmps++(PE lo++PE hi)
 | .ext _ x=>x.tmps
 | .call _ xs=>xs.flatMap Opd.tmps
 | .app _ _ x y=>x.tmps++y.tmps
 | .len _ x=>x.tmps
 | .mkf _ xs=>xs.flatMap Opd.tmps
 | .fnil _ x=>x.tmps
 | .snil _ x=>x.tmps
 | .mk _ _ x=>x.tmps
 | .beqS _ _ x y=>x.tmps++y.tmps
 | .cvi _ x=>x.tmps
 | .cvs x=>x.tmps
 | .apps _ x y=>x.tmps++y.tmps
 | .callv x xs=>x.tmps++xs.flatMap Opd.tmps
def IOp.reads(o:IOp):List Nat:=o.i.reads++(match o.gd with|some (g,_)=> [g]|none=> [])
def jh(l:List Nat)(ρ ρ':Opd→AV):Prop:=(∀v,ρ (.k v)=ρ' (.k v))∧∀n∈l,ρ (.t n)=ρ' (.t n)
section
variable{ρ ρ':Opd→AV}
theorem jh.opd{l:List Nat}(h:jh l ρ ρ'){x:Opd}(hx:∀n∈x.tmps,n∈l):ρ x=ρ' x:=by
 cases x with
 |t n=>exact h.2 n (hx n (by simp[Opd.tmps]))
 |k v=>exact h.1 v
theorem jh.map{l:List Nat}(h:jh l ρ ρ'):∀{xs:List Opd},(∀n∈xs.flatMap Opd.tmps,n∈l)→xs.map ρ=xs.map ρ'
 | [],_=>rfl
 | x::xs,hx=>by
   rw[E_,E_,h.opd (fun n hn=>hx n (by simp[hn])),jh.map h (fun n hn=>hx n (by rw[W_];exact z_ _ hn))]
theorem jh.opt{l:List Nat}(h:jh l ρ ρ'){x:Option Opd}(hx:∀n∈PE x,n∈l):x.map (fun y=>bI (ρ y))=x.map (fun y=>bI (ρ' y)):=by
 cases x with
 |none=>rfl
 |some x=>simp only[t_];rw[h.opd hx]
theorem jh.fill{l:List Nat}(h:jh l ρ ρ'):∀{ps:List (Nat×Nat×Opd)} {cs:List AC},(∀n∈ps.flatMap (fun p=>p.2.2.tmps),n∈l)→bW ρ ps cs=bW ρ' ps cs
 | [],_,_=>rfl
 | (off,n,x)::ps,cs,hx=>by
   rw[bW,bW,h.opd (fun n hn=>hx n (by simp[hn]))];split
   ·split
    ·exact jh.fill h (fun n hn=>hx n (by rw[W_];exact z_ _ hn))
    ·rfl
   ·rfl
theorem Res.congr{P:Program}{os os':List Own}{bs bs':List (List AC)}{i:I}{r:AV}(h:Res P ρ os bs i r os' bs')(ha:jh i.reads ρ ρ'):Res P ρ' os bs i r os' bs':=by
 have e:∀{x:Opd},(∀n∈x.tmps,n∈i.reads)→ρ x=ρ' x:=fun hx=>ha.opd hx
 cases h with
 | @mov x=>rw[e (x:=x) (fun n hn=>hn)];exact .mov
 | @pick c x y b hc=>
   rw[e (x:=x) (fun n hn=>by simp[I.reads,hn]),e (x:=y) (fun n hn=>by simp[I.reads,hn])];rw[e (x:=c) (fun n hn=>by simp[I.reads,hn])]at hc;exact .pick hc
 | bin hx hy hz=>
   rw[e (fun n hn=>by simp[I.reads,hn])]at hx hy;exact .bin hx hy hz
 | beq hx hy=>
   rw[e (fun n hn=>by simp[I.reads,hn])]at hx hy;exact .beq hx hy
 |mkf h1=>rw[ha.map (fun n hn=>hn)]at h1;exact .mkf h1
 |fnilC hx=>rw[e (fun n hn=>by simp[I.reads,hn])]at hx;exact .fnilC hx
 |fnilN hx=>rw[e (fun n hn=>by simp[I.reads,hn])]at hx;exact .fnilN hx
 |snilZ hx=>rw[e (fun n hn=>by simp[I.reads,hn])]at hx;exact .snilZ hx
 |snilO hx ho hv hl=>rw[e (fun n hn=>by simp[I.reads,hn])]at hx;exact .snilO hx ho hv hl
 | not hx=>
   rw[e (fun n hn=>by simp[I.reads,hn])]at hx;exact .not hx
 |loadP hx hl=>rw[e (fun n hn=>by simp[I.reads,hn])]at hx;exact .loadP hx hl
 |loadB hx hk hl=>rw[e (fun n hn=>by simp[I.reads,hn])]at hx;exact .loadB hx hk hl
 |loadE hx ho hv hd hl=>rw[e (fun n hn=>by simp[I.reads,hn])]at hx;exact .loadE hx ho hv hd hl
 |fadP hx hl=>rw[e (fun n hn=>by simp[I.reads,hn])]at hx;exact .fadP hx hl
 |fadB hx=>rw[e (fun n hn=>by simp[I.reads,hn])]at hx;exact .fadB hx
 |fadE hx ho hv=>rw[e (fun n hn=>by simp[I.reads,hn])]at hx;exact .fadE hx ho hv
 |iadS hx hi h0 hl hel=>rw[e (fun n hn=>by simp[I.reads,hn])]at hx hi;exact .iadS hx hi h0 hl hel
 |iadO hx hi h0 ho hv hl hs=>rw[e (fun n hn=>by simp[I.reads,hn])]at hx hi;exact .iadO hx hi h0 ho hv hl hs
 |iadU hx hi h0 ho hv hl hs=>rw[e (fun n hn=>by simp[I.reads,hn])]at hx hi;exact .iadU hx hi h0 ho hv hl hs
 |lenU hx ho hv=>rw[e (fun n hn=>by simp[I.reads,hn])]at hx;exact .lenU hx ho hv
 |nckP hx=>rw[e (fun n hn=>by simp[I.reads,hn])]at hx;exact .nckP hx
 |nckB hx=>rw[e (fun n hn=>by simp[I.reads,hn])]at hx;exact .nckB hx
 |alloc=>exact .alloc
 |box hx h1=>rw[e (fun n hn=>by simp[I.reads,hn])]at hx;exact .box hx h1
 |store hx hy hl h1 hk ho=>rw[e (fun n hn=>by simp[I.reads,hn])]at hx hy;exact .store hx hy hl h1 hk ho
 |brow hd hs hl=>rw[ha.map (fun n hn=>hn)]at hd⊢;exact .brow hd hs hl
 |mkO hx hk=>rw[e (fun n hn=>by simp[I.reads,hn])]at hx;exact .mkO hx hk
 |cvi hx=>rw[e (fun n hn=>by simp[I.reads,hn])]at hx;exact .cvi hx
 |beqS hx hy hu hv he=>rw[e (fun n hn=>by simp[I.reads,hn])]at hx hy;exact .beqS hx hy hu hv he
 |cvsS hx hb=>rw[e (fun n hn=>by simp[I.reads,hn])]at hx;exact .cvsS hx hb
 |cvsO hx ho hv hb=>rw[e (fun n hn=>by simp[I.reads,hn])]at hx;exact .cvsO hx ho hv hb
 |apps hx ho hv h1 h2 hy h3=>rw[e (fun n hn=>by simp[I.reads,hn])]at hx hy;exact .apps hx ho hv h1 h2 hy h3
 |bown hd hs hl=>rw[ha.map (fun n hn=>hn)]at hd⊢;exact .bown hd hs hl
 |bld hf=>rw[ha.fill (fun n hn=>hn)]at hf;exact .bld hf
 |fld hx hl=>rw[e (fun n hn=>by simp[I.reads,hn])]at hx;exact .fld hx hl
 |sidx hx hi h0 hb=>rw[e (fun n hn=>by simp[I.reads,hn])]at hx hi;exact .sidx hx hi h0 hb
 | ssl hx h1 h2 h3=>
   rw[e (fun n hn=>by simp[I.reads,hn])]at hx;rw[ha.opt (fun n hn=>by simp[I.reads,hn])]at h1 h2;exact .ssl hx h1 h2 h3
 | lsl hx h1 h2 h3 h4=>
   rw[e (fun n hn=>by simp[I.reads,hn])]at hx;rw[ha.opt (fun n hn=>by simp[I.reads,hn])]at h1 h2;exact .lsl hx h1 h2 h3 h4
 | lslO hx ho hv hs h1 h2 h3=>
   rw[e (fun n hn=>by simp[I.reads,hn])]at hx;rw[ha.opt (fun n hn=>by simp[I.reads,hn])]at h1 h2;exact .lslO hx ho hv hs h1 h2 h3
 |ext hx hj=>rw[e (fun n hn=>by simp[I.reads,hn])]at hx;exact .ext hx hj
 |call h1 h2 h3=>rw[ha.map (fun n hn=>hn)]at h1;exact .call h1 h2 h3
 |callO h1 h2 h3=>rw[ha.map (fun n hn=>hn)]at h1;exact .callO h1 h2 h3
 |callX h1 h2 h3 h4=>rw[ha.map (fun n hn=>hn)]at h1;exact .callX h1 h2 h3 h4
 |callA h1 h2 h3=>rw[ha.map (fun n hn=>hn)]at h1;exact .callA h1 h2 h3
 | appO hx ho hv h1 h2 hs hl hn=>
   rw[e (fun n hn=>by simp[I.reads,hn])]at hx hs;exact .appO hx ho hv h1 h2 hs hl hn
 | appU hx ho hv h1 h2 hs hl hn=>
   rw[e (fun n hn=>by simp[I.reads,hn])]at hx hs;exact .appU hx ho hv h1 h2 hs hl hn
 | appN hx hs hl hn=>
   rw[e (fun n hn=>by simp[I.reads,hn])]at hx hs;exact .appN hx hs hl hn
 |lenS hx=>rw[e (fun n hn=>by simp[I.reads,hn])]at hx;exact .lenS hx
 |lenO hx ho hv=>rw[e (fun n hn=>by simp[I.reads,hn])]at hx;exact .lenO hx ho hv
 |lenT hx=>rw[e (fun n hn=>by simp[I.reads,hn])]at hx;exact .lenT hx
 |lenN hx=>rw[e (fun n hn=>by simp[I.reads,hn])]at hx;exact .lenN hx
end
section
variable{P:Program}{ρ:Opd→AV}{os os':List Own}{bs bs':List (List AC)}{i:I}{r:AV}
theorem Md{α:Type}{l:List α}{x:α}(h:l=l++ [x]):False:=by
 have:=congrArg Y_ h;simp at this
theorem ER(h:Res P ρ os bs i r os' bs')(hc:i.cls=0):os'=os∧bs'=bs∧∀os2 bs2,Res P ρ os2 bs2 i r os2 bs2:=by
 cases h<;>first
  |(simp[I.cls]at hc;done)
  |exact⟨rfl,rfl,fun _ _=> .mov⟩
  |exact⟨rfl,rfl,fun _ _=> .pick ‹_›⟩
  |exact⟨rfl,rfl,fun _ _=> .bin ‹_› ‹_› ‹_›⟩
  |exact⟨rfl,rfl,fun _ _=> .beq ‹_› ‹_›⟩
  |exact⟨rfl,rfl,fun _ _=> .not ‹_›⟩
  |exact⟨rfl,rfl,fun _ _=> .cvi ‹_›⟩
  |exact⟨rfl,rfl,fun _ _=> .beqS ‹_› ‹_› ‹_› ‹_› ‹_›⟩
  |exact⟨rfl,rfl,fun _ _=> .mkf ‹_›⟩
  |exact⟨rfl,rfl,fun _ _=> .fnilC ‹_›⟩
  |exact⟨rfl,rfl,fun _ _=> .fnilN ‹_›⟩
  |exact⟨rfl,rfl,fun _ _=> .brow ‹_› ‹_› ‹_›⟩
  |exact⟨rfl,rfl,fun _ _=> .bld ‹_›⟩
  |exact⟨rfl,rfl,fun _ _=> .fld ‹_› ‹_›⟩
  |exact⟨rfl,rfl,fun _ _=> .sidx ‹_› ‹_› ‹_› ‹_›⟩
  |exact⟨rfl,rfl,fun _ _=> .ssl ‹_› ‹_› ‹_› ‹_›⟩
  |exact⟨rfl,rfl,fun _ _=> .ext ‹_› ‹_›⟩
theorem ND(h:Res P ρ os bs i r os' bs')(hc:i.cls=1)(he:os'=os):bs'=bs∧∀bs2,Res P ρ os bs2 i r os bs2:=by
 cases h<;>first
  |(simp[I.cls]at hc;done)
  |exact⟨rfl,fun _=> .iadS ‹_› ‹_› ‹_› ‹_› ‹_›⟩
  |exact⟨rfl,fun _=> .iadO ‹_› ‹_› ‹_› ‹_› ‹_› ‹_› ‹_›⟩
  |exact⟨rfl,fun _=> .iadU ‹_› ‹_› ‹_› ‹_› ‹_› ‹_› ‹_›⟩
  |exact⟨rfl,fun _=> .lsl ‹_› ‹_› ‹_› ‹_› ‹_›⟩
  |exact⟨rfl,fun _=> .lslO ‹_› ‹_› ‹_› ‹_› ‹_› ‹_› ‹_›⟩
  |exact⟨rfl,fun _=> .lenU ‹_› ‹_› ‹_›⟩
  |exact⟨rfl,fun _=> .fadP ‹_› ‹_›⟩
  |exact⟨rfl,fun _=> .fadB ‹_›⟩
  |exact⟨rfl,fun _=> .fadE ‹_› ‹_› ‹_›⟩
  |exact⟨rfl,fun _=> .nckP ‹_›⟩
  |exact⟨rfl,fun _=> .nckB ‹_›⟩
  |exact⟨rfl,fun _=> .lenS ‹_›⟩
  |exact⟨rfl,fun _=> .cvsS ‹_› ‹_›⟩
  |exact⟨rfl,fun _=> .cvsO ‹_› ‹_› ‹_› ‹_›⟩
  |exact⟨rfl,fun _=> .lenO ‹_› ‹_› ‹_›⟩
  |exact⟨rfl,fun _=> .lenT ‹_›⟩
  |exact⟨rfl,fun _=> .snilZ ‹_›⟩
  |exact⟨rfl,fun _=> .snilO ‹_› ‹_› ‹_› ‹_›⟩
  |exact⟨rfl,fun _=> .lenN ‹_›⟩
  |exact⟨rfl,fun _=> .call ‹_› ‹_› ‹_›⟩
  |exact⟨rfl,fun _=> .callA ‹_› ‹_› ‹_›⟩
  |exact(Md he.symm).elim
  |(exfalso;have:=congrArg Y_ he;rw[o_]at this;omega)
theorem Sm(h:Res P ρ os bs i r os' bs')(hc:i.cls=2):os'=os∧bs'=bs∧(∀z,Res P ρ os (bs++ [z]) i r os (bs++ [z]))∧
 ∀bs2 z,bs=bs2++ [z]→(∀v,ρ (.k v)=kav v)→(∀x,∀n∈i.reads,x= .t n→∀k off,ρ x= .bptr k off→k<bs2.length)→Res P ρ os bs2 i r os bs2:=by
 cases h<;>first
  |(simp[I.cls]at hc;done)
  |exact⟨rfl,rfl,fun _=> .loadP ‹_› ‹_›,fun _ _ _ _ _=> .loadP ‹_› ‹_›⟩
  |exact⟨rfl,rfl,fun _=> .loadE ‹_› ‹_› ‹_› ‹_› ‹_›,fun _ _ _ _ _=> .loadE ‹_› ‹_› ‹_› ‹_› ‹_›⟩
  |skip
 next n g x xs k off hx hk hl=>
  refine⟨rfl,rfl,fun z=> .loadB hx (uw hk) hl,fun bs2 z hb hkv hwf=> ?_⟩;subst hb;cases x with
  | t m=>
    have:=hwf (.t m) m (by simp[I.reads,Opd.tmps]) rfl k off hx;rw[u_ this]at hk;exact .loadB hx hk hl
  | k v=>
    rw[hkv v]at hx;unfold kav at hx;split at hx<;>cases hx
theorem Nz(h:Res P ρ os bs i r os' bs')(hc:i.cls=3):bs'=bs∧∀bs2,Res P ρ os bs2 i r os' bs2:=by
 cases h<;>first
  |(simp[I.cls]at hc;done)
  |exact⟨rfl,fun _=> .bown ‹_› ‹_› ‹_›⟩
  |exact⟨rfl,fun _=> .mkO ‹_› ‹_›⟩
  |exact⟨rfl,fun _=> .apps ‹_› ‹_› ‹_› ‹_› ‹_› ‹_› ‹_›⟩
  |exact⟨rfl,fun _=> .appO ‹_› ‹_› ‹_› ‹_› ‹_› ‹_› ‹_› ‹_›⟩
  |exact⟨rfl,fun _=> .appU ‹_› ‹_› ‹_› ‹_› ‹_› ‹_› ‹_› ‹_›⟩
  |exact⟨rfl,fun _=> .appN ‹_› ‹_› ‹_› ‹_›⟩
theorem Sj(h:Res P ρ os bs i r os' bs')(hc:i.cls=4):os'=os∧(∃z,bs'=bs++ [z])∧∀os2,Res P ρ os2 bs i r os2 bs':=by
 cases h<;>first
  |(simp[I.cls]at hc;done)
  |exact⟨rfl,⟨_,rfl⟩,fun _=> .alloc⟩
  |exact⟨rfl,⟨_,rfl⟩,fun _=> .box ‹_› ‹_›⟩
theorem Si(h:Res P ρ os bs i r os' bs')(hc:i.cls=5):os'=os∧∀os2,Res P ρ os2 bs i r os2 bs':=by
 cases h<;>first
  |(simp[I.cls]at hc;done)
  |exact⟨rfl,fun _=> .store ‹_› ‹_› ‹_› ‹_› ‹_› ‹_›⟩
theorem EP(i:I):i.cls=0∨i.cls=1∨i.cls=2∨i.cls=3∨i.cls=4∨i.cls=5:=by
 cases i<;>(try(simp[I.cls];done))
 next own e s n g xs=>cases own<;>simp[I.cls]
end
def mo(m:Bool)(st:St):List Own:=if m then []else st.owns
def eff(i:I):Bool:=decide (3≤i.cls)
inductive DStep (P:Program) (m:Bool) (o:IOp) (st:St):St→Prop
 |pure {r bs'}:gdA st o.gd=some true→eff o.i=false→Res P st.ev (mo m st) st.boxes o.i r (mo m st) bs'→DStep P m o st (St.put ⟨st.fr,st.owns,bs'⟩ o.d r)
 |eff {r os' bs'}:gdA st o.gd=some true→eff o.i=true→Res P st.ev st.owns st.boxes o.i r os' bs'→DStep P m o st (St.put ⟨st.fr,os',bs'⟩ o.d r)
 |skip:gdA st o.gd=some false→DStep P m o st (st.put o.d (.c false [.raw undef]))
 |callV {x xs f caps r os' bs'}:gdA st o.gd=some true→o.i= .callv x xs→st.ev x= .c false [.cl f caps]→AQ P f=true→kJ P f (xs.map st.ev++caps.map fun k=> .bptr k 0) st.owns st.boxes r os' bs'→DStep P m o st (St.put ⟨st.fr,os',bs'⟩ o.d r)
theorem NK{os:List Own}{x:AC}{d:D}(h:jg [] x=some d):jg os x=some d:=by
 cases x with
 |own k i=>simp[jg]at h
 |osub k i a b=>simp[jg]at h
 |cl f caps=>exact h
 |any=>exact h
 |raw v=>exact h
 |sl n l=>exact h
theorem Bg{os:List Own}:∀{xs:List AC} {ds:List D},fU [] xs=some ds→fU os xs=some ds
 | [],_,h=>h
 | x::xs,ds,h=>by
   rw[fU]at h⊢;split at h
   ·next d ds' h1 h2=>rw[NK h1,Bg h2];exact h
   ·cases h
theorem yJ{os:List Own}:∀{xs:List AV} {ds:List D},aO [] xs ds→aO os xs ds
 | [],[],h=>h
 | x::xs,d::ds,h=>by
   refine⟨?_,yJ h.2⟩;have h1:=h.1;cases x with
   |c g xs=>exact⟨Bg h1.1,h1.2⟩
   |_=>exact h1.elim
 | [],_::_,h=>h.elim
 |_::_,[],h=>h.elim
theorem MG{P:Program}{ρ:Opd→AV}{os o1 o2:List Own}{bs bs':List (List AC)}{i:I}{r:AV}(h:Res P ρ o1 bs i r o2 bs')(h1:o1= [])(h2:o2= [])(hc:eff i=false):Res P ρ os bs i r os bs':=by
 rcases EP i with h0|h0|h0|h0|h0|h0
 ·obtain⟨_,h2,h3⟩:=ER h h0;subst h2;exact h3 _ _
 ·cases h<;>first
   |(simp[I.cls]at h0;done)
   |exact .iadS ‹_› ‹_› ‹_› ‹_› ‹_›
   |exact .lsl ‹_› ‹_› ‹_› ‹_› ‹_›
   |exact .fadP ‹_› ‹_›
   |exact .fadB ‹_›
   |exact .nckP ‹_›
   |exact .nckB ‹_›
   |exact .cvsS ‹_› ‹_›
   |exact .lenS ‹_›
   |exact .lenT ‹_›
   |exact .lenN ‹_›
   |exact .snilZ ‹_›
   |(subst h1;exact .call (yJ ‹_›) ‹_› ‹_›)
   |exact .callA ‹_› ‹_› ‹_›
   |(exfalso;have:=congrArg Y_ h2;rw[o_,a_d]at this;omega)
   |(subst h1;simp at*;done)
 ·cases h<;>first
   |(simp[I.cls]at h0;done)
   |exact .loadP ‹_› ‹_›
   |exact .loadB ‹_› ‹_› ‹_›
   |(subst h1;simp at*;done)
 ·simp[eff,h0]at hc
 ·simp[eff,h0]at hc
 ·simp[eff,h0]at hc
theorem Ox{P:Program}{ρ:Opd→AV}{os:List Own}{bs bs':List (List AC)}{i:I}{r:AV}(h:Res P ρ [] bs i r [] bs')(hc:eff i=false):Res P ρ os bs i r os bs':=MG h rfl rfl hc
theorem DStep.step{P:Program}{m:Bool}{o:IOp}{st st':St}(h:DStep P m o st st'):Step P o st st':=by
 cases h with
 | pure hg he hr=>
   refine .run hg ?_;unfold mo at hr;split at hr
   ·exact Ox hr he
   ·exact hr
 |eff hg he hr=>exact .run hg hr
 |skip hg=>exact .skip hg
 |callV hg hi hx hf hs=>exact .callV hg hi hx hf hs
def yF(x y:Nat):Bool:=(x==3 && y==3)||(x==4 && y==4)||(x==5 && y==5)||(x==2 && y==5)||(x==5 && y==2)||(x==4 && y==5)||(x==5 && y==4)
def I.isV :I→Bool
 | .callv .. =>true
 |_=>false
def Aq(a b:IOp):Bool:=
 (match a.d with|some t=> !(b.reads.contains t)|none=>true) && (match b.d with|some t=> !(a.reads.contains t)|none=>true) &&
 (match a.d,b.d with|some t,some u=>t !=u|_,_=>true) && !(yF a.i.cls b.i.cls) && !a.i.isV && !b.i.isV
def WfB(st:St):Prop:=∀n k off,st.ev (.t n)= .bptr k off→k<st.boxes.length
theorem dV{st:St}{os:List Own}{bs:List (List AC)}{d:Option Nat}{x:AV}{l:List Nat}(h:∀t,d=some t→t∉l):jh l st.ev (St.put ⟨st.fr,os,bs⟩ d x).ev:=by
 refine⟨fun v=>rfl,fun n hn=> ?_⟩;cases d with
 |none=>rfl
 | some t=>
   have hne:t≠n:=fun e=>h t rfl (e▸hn)
   simp only[St.ev,St.put];rw[d_,d_,k_ hne]
theorem mO{st:St}{os:List Own}{bs:List (List AC)}{d:Option Nat}{x:AV}{o:IOp}(h:∀t,d=some t→t∉o.reads):gdA (St.put ⟨st.fr,os,bs⟩ d x) o.gd=gdA st o.gd:=by
 cases hg:o.gd with
 |none=>rfl
 | some g=>
   obtain⟨g,w⟩:=g;have:=(dV (st:=st) (os:=os) (bs:=bs) (d:=d) (x:=x) (l:=o.reads) h).2 g (by simp[IOp.reads,hg]);simp only[St.ev]at this;simp only[gdA];rw[← this]
theorem Em{fr:List AV}{os:List Own}{bs:List (List AC)}{d e:Option Nat}{x y:AV}(h:∀t u,d=some t→e=some u→t≠u)(os2:List Own)(bs2:List (List AC)):
 St.put ⟨(St.put ⟨fr,os,bs⟩ d x).fr,os2,bs2⟩ e y=St.put ⟨(St.put ⟨fr,os,bs⟩ e y).fr,os2,bs2⟩ d x:=by
 cases d with
 |none=>cases e<;>rfl
 | some t=>cases e with
   |none=>rfl
   | some u=>
     simp only[St.put];rw[P_ _ _ (h t u rfl rfl)]
theorem Am{a b:IOp}(h:Aq a b=true):(∀t,a.d=some t→t∉b.reads)∧(∀t,b.d=some t→t∉a.reads)∧(∀t u,a.d=some t→b.d=some u→t≠u)∧yF a.i.cls b.i.cls=false∧a.i.isV=false∧b.i.isV=false:=by
 unfold Aq at h;simp only[c_,m_]at h;obtain⟨⟨⟨⟨⟨h1,h2⟩,h3⟩,h4⟩,h5⟩,h6⟩:=h;refine⟨fun t ht=> ?_,fun t ht=> ?_,fun t u ht hu=> ?_,h4,h5,h6⟩
 ·rw[ht]at h1;simpa using h1
 ·rw[ht]at h2;simpa using h2
 ·rw[ht,hu]at h3;simpa using h3
theorem iL{o:IOp}{d:Option Nat}(h:∀t,d=some t→t∉o.reads):∀t,d=some t→t∉o.i.reads:=fun t ht hm=>h t ht (by simp[IOp.reads,hm])
def Eff(P:Program)(m:Bool)(o:IOp)(act:Bool)(ρ:Opd→AV)(os:List Own)(bs:List (List AC))(r:AV)(os':List Own)(bs':List (List AC)):Prop:=
 (act=true∧eff o.i=true∧Res P ρ os bs o.i r os' bs')∨(act=true∧eff o.i=false∧os'=os∧bs'=bs∧Res P ρ (if m then []else os) bs o.i r (if m then []else os) bs)∨
 (act=false∧r= .c false [.raw undef]∧os'=os∧bs'=bs)
theorem Kv{P:Program}{ρ:Opd→AV}{os:List Own}{bs bs':List (List AC)}{i:I}{r:AV}(h:Res P ρ os bs i r os bs')(hc:eff i=false):bs'=bs:=by
 rcases EP i with h0|h0|h0|h0|h0|h0
 ·exact(ER h h0).2.1
 ·exact(ND h h0 rfl).1
 ·exact(Sm h h0).2.1
 ·simp[eff,h0]at hc
 ·simp[eff,h0]at hc
 ·simp[eff,h0]at hc
theorem je{P:Program}{m:Bool}{o:IOp}{st st':St}(h:DStep P m o st st')(hv:o.i.isV=false):∃act r os' bs',gdA st o.gd=some act∧Eff P m o act st.ev st.owns st.boxes r os' bs'∧st'=St.put ⟨st.fr,os',bs'⟩ o.d r:=by
 cases h with
 | @pure r bs' hg he hr=>
   have:=Kv hr he;subst this;exact⟨true,r,_,_,hg,b_ (a_ ⟨rfl,he,rfl,rfl,hr⟩),rfl⟩
 |eff hg he hr=>exact⟨true,_,_,_,hg,a_ ⟨rfl,he,hr⟩,rfl⟩
 |skip hg=>exact⟨false,_,_,_,hg,b_ (b_ ⟨rfl,rfl,rfl,rfl⟩),rfl⟩
 |callV hg hi _ _ _=>rw[hi]at hv;cases hv
theorem kP{P:Program}{m:Bool}{o:IOp}{st:St}{act:Bool}{r:AV}{os':List Own}{bs':List (List AC)}(hg:gdA st o.gd=some act)(h:Eff P m o act st.ev st.owns st.boxes r os' bs'):DStep P m o st (St.put ⟨st.fr,os',bs'⟩ o.d r):=by
 rcases h with⟨rfl,he,hr⟩|⟨rfl,he,rfl,rfl,hr⟩|⟨rfl,rfl,rfl,rfl⟩
 ·exact .eff hg he hr
 ·exact .pure hg he hr
 ·exact .skip hg
theorem Eff.congr{P:Program}{m:Bool}{o:IOp}{act:Bool}{ρ ρ':Opd→AV}{os os':List Own}{bs bs':List (List AC)}{r:AV}(h:Eff P m o act ρ os bs r os' bs')(ha:jh o.i.reads ρ ρ'):Eff P m o act ρ' os bs r os' bs':=by
 rcases h with⟨h1,he,hr⟩|⟨h1,he,h2,h3,hr⟩|h
 ·exact a_ ⟨h1,he,hr.congr ha⟩
 ·exact b_ (a_ ⟨h1,he,h2,h3,hr.congr ha⟩)
 ·exact b_ (b_ h)
theorem rU{i:I}(h:eff i=true):i.cls=3∨i.cls=4∨i.cls=5:=by
 rcases EP i with h0|h0|h0|h0|h0|h0<;>simp[eff,h0]at h⊢
theorem oU{i:I}(h:eff i=false):i.cls=0∨i.cls=1∨i.cls=2:=by
 rcases EP i with h0|h0|h0|h0|h0|h0<;>simp[eff,h0]at h⊢
theorem Hw{P:Program}{m:Bool}{a b:IOp}{xa xb:Bool}{ρa ρb:Opd→AV}{os os1 os2:List Own}{bs bs1 bs2:List (List AC)}{ra rb:AV}
 (ha:Eff P m a xa ρa os bs ra os1 bs1) (hb:Eff P m b xb ρb os1 bs1 rb os2 bs2) (hc:yF a.i.cls b.i.cls=false) (hm:a.i.cls=3∨b.i.cls=3→m=true)
 (hkv:∀v,ρb (.k v)=kav v) (hwf:∀n∈b.i.reads,∀k off,ρb (.t n)= .bptr k off→k<bs.length):
 ∃os1' bs1',Eff P m b xb ρb os bs rb os1' bs1'∧Eff P m a xa ρa os1' bs1' ra os2 bs2:=by
 rcases ha with⟨rfl,ea,hra⟩|⟨rfl,ea,rfl,rfl,hra⟩|⟨rfl,rfl,rfl,rfl⟩
 ·rcases hb with⟨rfl,eb,hrb⟩|⟨rfl,eb,rfl,rfl,hrb⟩|⟨rfl,rfl,rfl,rfl⟩
  ·
   rcases rU ea with ca|ca|ca<;>rcases rU eb with cb|cb|cb<;>(try(simp[yF,ca,cb]at hc;done))
   ·obtain⟨rfl,h1⟩:=Nz hra ca;obtain⟨rfl,⟨z,rfl⟩,h2⟩:=Sj hrb cb;exact⟨os,_,a_ ⟨rfl,eb,h2 os⟩,a_ ⟨rfl,ea,h1 _⟩⟩
   ·obtain⟨rfl,h1⟩:=Nz hra ca;obtain⟨rfl,h2⟩:=Si hrb cb;exact⟨os,_,a_ ⟨rfl,eb,h2 os⟩,a_ ⟨rfl,ea,h1 _⟩⟩
   ·obtain⟨rfl,⟨z,rfl⟩,h1⟩:=Sj hra ca;obtain⟨rfl,h2⟩:=Nz hrb cb;exact⟨os2,_,a_ ⟨rfl,eb,h2 bs⟩,a_ ⟨rfl,ea,h1 _⟩⟩
   ·obtain⟨rfl,h1⟩:=Si hra ca;obtain⟨rfl,h2⟩:=Nz hrb cb;exact⟨os2,_,a_ ⟨rfl,eb,h2 bs⟩,a_ ⟨rfl,ea,h1 _⟩⟩
  ·
   rcases rU ea with ca|ca|ca
   ·have hmt:=hm (a_ ca);subst hmt;obtain⟨rfl,h1⟩:=Nz hra ca;exact⟨os,_,b_ (a_ ⟨rfl,eb,rfl,rfl,hrb⟩),a_ ⟨rfl,ea,hra⟩⟩
   ·obtain⟨rfl,⟨z,rfl⟩,h1⟩:=Sj hra ca;refine⟨_,bs,b_ (a_ ⟨rfl,eb,rfl,rfl, ?_⟩),a_ ⟨rfl,ea,hra⟩⟩;rcases oU eb with cb|cb|cb
    ·exact(ER hrb cb).2.2 _ _
    ·exact(ND hrb cb rfl).2 _
    ·exact(Sm hrb cb).2.2.2 bs z rfl hkv (fun x n hn hx k off hk=>hwf n hn k off (by rw[← hx];exact hk))
   ·obtain⟨rfl,h1⟩:=Si hra ca;refine⟨_,bs,b_ (a_ ⟨rfl,eb,rfl,rfl, ?_⟩),a_ ⟨rfl,ea,hra⟩⟩;rcases oU eb with cb|cb|cb
    ·exact(ER hrb cb).2.2 _ _
    ·exact(ND hrb cb rfl).2 _
    ·simp[yF,ca,cb]at hc
  ·exact⟨os,bs,b_ (b_ ⟨rfl,rfl,rfl,rfl⟩),a_ ⟨rfl,ea,hra⟩⟩
 ·rcases hb with⟨rfl,eb,hrb⟩|⟨rfl,eb,rfl,rfl,hrb⟩|⟨rfl,rfl,rfl,rfl⟩
  ·refine⟨os2,bs2,a_ ⟨rfl,eb,hrb⟩,b_ (a_ ⟨rfl,ea,rfl,rfl, ?_⟩)⟩;rcases rU eb with cb|cb|cb
   ·have hmt:=hm (b_ cb);subst hmt;obtain⟨rfl,_⟩:=Nz hrb cb;exact hra
   ·obtain⟨rfl,⟨z,rfl⟩,_⟩:=Sj hrb cb;rcases oU ea with ca|ca|ca
    ·exact(ER hra ca).2.2 _ _
    ·exact(ND hra ca rfl).2 _
    ·exact(Sm hra ca).2.2.1 z
   ·obtain⟨rfl,_⟩:=Si hrb cb;rcases oU ea with ca|ca|ca
    ·exact(ER hra ca).2.2 _ _
    ·exact(ND hra ca rfl).2 _
    ·simp[yF,ca,cb]at hc
  ·exact⟨_,_,b_ (a_ ⟨rfl,eb,rfl,rfl,hrb⟩),b_ (a_ ⟨rfl,ea,rfl,rfl,hra⟩)⟩
  ·exact⟨_,_,b_ (b_ ⟨rfl,rfl,rfl,rfl⟩),b_ (a_ ⟨rfl,ea,rfl,rfl,hra⟩)⟩
 ·exact⟨os2,bs2,hb,b_ (b_ ⟨rfl,rfl,rfl,rfl⟩)⟩
theorem Ux{P:Program}{m:Bool}{a b:IOp}{st st1 st2:St}(ha:DStep P m a st st1)(hb:DStep P m b st1 st2)(hi:Aq a b=true)(hm:a.i.cls=3∨b.i.cls=3→m=true)(hwf:WfB st):
 ∃st1',DStep P m b st st1'∧DStep P m a st1' st2:=by
 obtain⟨i1,i2,i3,i4,i5,i6⟩:=Am hi;obtain⟨xa,ra,os1,bs1,ga,ea,rfl⟩:=je ha i5;obtain⟨xb,rb,os2,bs2,gb,eb,rfl⟩:=je hb i6;rw[mO i1]at gb;have hag:jh b.i.reads (St.put ⟨st.fr,os1,bs1⟩ a.d ra).ev st.ev:=by
  have:=dV (st:=st) (os:=os1) (bs:=bs1) (d:=a.d) (x:=ra) (iL i1);exact⟨fun v=>rfl,fun n hn=>(this.2 n hn).symm⟩
 have e1:(St.put ⟨st.fr,os1,bs1⟩ a.d ra).owns=os1:=aA _ _ _;have e2:(St.put ⟨st.fr,os1,bs1⟩ a.d ra).boxes=bs1:=aU _ _ _;rw[e1,e2]at eb;obtain⟨os1',bs1',h1,h2⟩:=Hw ea (eb.congr hag) i4 hm (fun v=>rfl) (fun n _ k off hk=>hwf n k off hk);refine⟨_,kP gb h1, ?_⟩;have h3:=h2.congr (dV (st:=st) (os:=os1') (bs:=bs1') (d:=b.d) (x:=rb) (iL i2));have e3:(St.put ⟨st.fr,os1',bs1'⟩ b.d rb).owns=os1':=aA _ _ _;have e4:(St.put ⟨st.fr,os1',bs1'⟩ b.d rb).boxes=bs1':=aU _ _ _;have h4:=kP (st:=St.put ⟨st.fr,os1',bs1'⟩ b.d rb) (P:=P) (m:=m) (o:=a) (act:=xa) (r:=ra) (os':=os2) (bs':=bs2) (by rw[mO i2];exact ga) (by rw[e3,e4];exact h3);rw[Em (fun t u ht hu=>(i3 u t hu ht).symm)]at h4;have e5:St.put ⟨(St.put ⟨st.fr,os1',bs1'⟩ a.d ra).fr,os2,bs2⟩ b.d rb=St.put ⟨(St.put ⟨st.fr,os1,bs1⟩ a.d ra).fr,os2,bs2⟩ b.d rb:=by
  cases a.d<;>rfl
 rwa[e5]at h4
theorem JO{P:Program}{ρ:Opd→AV}{os os':List Own}{bs bs':List (List AC)}{i:I}{r:AV}(h:Res P ρ os bs i r os' bs')(hw:∀x k off,ρ x= .bptr k off→k<bs.length):bs.length≤bs'.length∧∀k off,r= .bptr k off→k<bs'.length:=by
 cases h<;>first
  |(refine⟨j_ _,fun k off e=> ?_⟩;cases e;done)
  |exact⟨j_ _,fun k off e=>hw _ k off e⟩
  |(refine⟨j_ _,fun k off e=> ?_⟩;split at e<;>exact hw _ k off e)
  |(refine⟨j_ _,fun k off e=> ?_⟩;cases e;exact hw _ _ _ ‹_›)
  |(refine⟨j_ _,fun k off e=> ?_⟩;subst e;rename_i h;exact h.elim)
  |(refine⟨j_ _,fun k off e=> ?_⟩;subst e;rename_i h;simp[AV.old]at h;done)
  |(refine⟨j_ _,fun k off e=> ?_⟩;rename_i r' _ _ _ h _;cases r'<;>simp_all [AV.shift,AV.out];done)
  |(refine⟨by simp,fun k off e=> ?_⟩;cases e;simp;done)
  |(refine⟨by simp,fun k off e=> ?_⟩;cases e;done)
theorem zK{P:Program}{m:Bool}{o:IOp}{st st':St}(h:DStep P m o st st')(hv:o.i.isV=false)(hw:WfB st):WfB st':=by
 have hall:∀x k off,st.ev x= .bptr k off→k<st.boxes.length:=fun x k off e=>by
  cases x with
  |t n=>exact hw n k off e
  | k v=>
    simp only[St.ev]at e;unfold kav at e;split at e<;>cases e
 have key:∀(r:AV) (os':List Own) (bs':List (List AC)),st.boxes.length≤bs'.length→(∀k off,r= .bptr k off→k<bs'.length)→WfB (St.put ⟨st.fr,os',bs'⟩ o.d r):=by
  intro r os' bs' h1 h2 n k off e;have hb:(St.put ⟨st.fr,os',bs'⟩ o.d r).boxes=bs':=aU _ _ _;rw[hb];cases hd:o.d with
  | none=>
    rw[hd]at e;exact R_ (hw n k off e) h1
  | some t=>
    rw[hd]at e;simp only[St.ev,St.put]at e;rw[d_,I_]at e;split at e
    ·split at e
     ·exact h2 k off e
     ·cases e
    ·exact R_ (hw n k off (by simp only[St.ev];rw[d_];exact e)) h1
 cases h with
 | pure hg he hr=>
   obtain⟨h1,h2⟩:=JO hr hall;exact key _ _ _ h1 h2
 | eff hg he hr=>
   obtain⟨h1,h2⟩:=JO hr hall;exact key _ _ _ h1 h2
 |skip hg=>exact key _ _ _ (j_ _) (fun k off e=>by cases e)
 |callV hg hi _ _ _=>rw[hi]at hv;cases hv
theorem JQ{B:Nat}{Xs:List Nat}{G:Org}{w0:World}{st:St}{E:Env}{a:Act}{w:World}(h:Rel B Xs G w0 st E a w):WfB st:=fun n k off e=>by
 have:=dM h (.tmp n);simp only[opd]at this;rw[e]at this;obtain⟨p,hp,_⟩:=this;rw[← h.blen];exact(v_.1 hp).1
inductive DSteps (P:Program) (m:Bool) (is:List IOp):List Nat→St→St→Prop
 |nil {st}:DSteps P m is [] st st
 |cons {i io l st st1 st2}:is[i]? =some io→DStep P m io st st1→DSteps P m is l st1 st2→DSteps P m is (i::l) st st2
theorem QA{P:Program}{m:Bool}{is:List IOp}{i:Nat}{io:IOp}(hio:is[i]? =some io)(hm:∀(j:Nat) (jo:IOp),is[j]? =some jo→jo.i.cls=3→m=true):∀(pre post:List Nat) (st st2:St),
 DSteps P m is (pre++i::post) st st2→(∀j∈pre,∀(jo:IOp),is[j]? =some jo→Aq jo io=true)→WfB st→∃st1,DStep P m io st st1∧DSteps P m is (pre++post) st1 st2
 | [],post,st,st2,h,_,_=>by
   cases h with
   | cons h1 h2 h3=>
     rw[hio]at h1;injection h1 with h1
     subst h1;exact⟨_,h2,h3⟩
 | j ::pre,post,st,st2,h,hi,hw=>by
   rw[a_a]at h;cases h with
   | @cons _ jo _ _ st1 _ h1 h2 h3=>
     obtain⟨st3,h4,h5⟩:=QA hio hm pre post st1 st2 h3 (fun j hj=>hi j (by simp[hj])) (zK h2 (Am (hi j (by simp) jo h1)).2.2.2.2.1 hw);obtain⟨st4,h6,h7⟩:=Ux h2 h4 (hi j (by simp) jo h1) (fun h=>by
      rcases h with h|h
      ·exact hm j jo h1 h
      ·exact hm i io hio h) hw
     exact⟨st4,h6,.cons h1 h7 h5⟩
def Cm :List Oper→List (List Nat)→List (List Nat)
 | [],acc=>acc
 |o::l,acc=>Cm l (acc++ [o.after.toList.flatMap fun e=>if i_ .any e then e.on::acc.getD e.on []else []])
def sO(ops:List Oper)(is:List IOp):Bool:=
 let an:=Cm ops []
 (ops.zipIdx.all fun p=>p.1.after.toList.all fun e=> !i_ .any e || decide (e.on<p.2)) &&
 (is.zipIdx.all fun p=>is.zipIdx.all fun q=> !decide (q.2<p.2)|| Aq q.1 p.1 ||(an.getD p.2 []).contains q.2)
def wH(ops:Array Oper)(listed:Array Bool):Prop:=∀i o,ops[i]? =some o→listed.getD i false=true→∀e∈o.after.toList,i_ .any e=true→listed.getD e.on false=true
theorem xO(ops:Array Oper)(listed:Array Bool)(hc:wH ops listed):∀(l:List Oper) (acc:List (List Nat)),(∀j,l[j]? =ops[acc.length+j]?)→
 (∀i o,i<acc.length→ops[i]? =some o→(∀e∈o.after.toList,i_ .any e=true→listed.getD e.on false=true)→∀x∈acc.getD i [],listed.getD x false=true)→
 ∀i o,ops[i]? =some o→(∀e∈o.after.toList,i_ .any e=true→listed.getD e.on false=true)→i<(Cm l acc).length→∀x∈(Cm l acc).getD i [],listed.getD x false=true
 | [],acc,hl,ha,i,o,ho,he,hlt,x,hx=>ha i o hlt ho he x hx
 | q :: l,acc,hl,ha,i,o,ho,he,hlt,x,hx=>by
   rw[Cm]at hlt hx;refine xO ops listed hc l _ (fun j=> ?_) (fun i' o' hi' ho' he' x' hx'=> ?_) i o ho he hlt x hx
   ·have:=hl (j+1);simp only[List.getElem?_cons_succ]at this;rw[this,o_];congr 1;simp;omega
   ·rw [o_]at hi';simp only[J_,a_d]at hi';rw[d_,List.getElem?_append]at hx';split at hx'
    ·next h=>exact ha i' o' h ho' he' x' (by rw[d_];exact hx')
    ·next h=>
     have e0:i'=acc.length:=by omega
     subst e0;have hq:ops[acc.length]? =some q:=by have:=hl 0;simpa using this.symm
     rw[ho']at hq;injection hq with hq
     subst hq;simp only[Nat.sub_self,List.getElem?_cons_zero,h_]at hx';obtain⟨e,hem,hxe⟩:=a_b.1 hx';split at hxe
     ·next hb=>
      have hon:=he' e hem hb;rcases Q_.1 hxe with rfl|hxe
      ·exact hon
      ·by_cases hlt':e.on<acc.length
       ·cases hoo:ops[e.on]? with
        |some oo=>exact ha e.on oo hlt' hoo (hc e.on oo hoo hon) x' hxe
        | none=>
          have:ops[e.on]? =none:=hoo;have h1:=Array.getElem?_eq_none_iff.1 this;have h2:acc.length<ops.size:=(Array.getElem?_eq_some_iff.1 ho').1;omega
       ·rw[d_,List.getElem?_eq_none (by omega)]at hxe;simp at hxe
     ·simp at hxe
theorem Bh :∀(l:List Oper) (acc:List (List Nat)),(Cm l acc).length=acc.length+l.length
 | [],acc=>rfl
 |o::l,acc=>by rw[Cm,Bh l];simp;omega
theorem kW{P:Program}{ops:Array Oper}:∀{l:List Oper} {is:List IOp},jZ P ops l=some is→is.length=l.length∧∀(i:Nat) (o:Oper),l[i]? =some o→∃io,is[i]? =some io∧xC P ops o=some io
 | [],is,h=>by
   injection h with h
   subst h;exact⟨rfl,fun i o ho=>by simp at ho⟩
 | o::l,is,h=>by
   rw[jZ]at h;split at h
   ·next io is' h1 h2=>
    injection h with h
    subst h;obtain⟨h3,h4⟩:=kW h2;refine⟨by simp[h3],fun i q hq=> ?_⟩;cases i with
    |zero=>simp at hq;subst hq;exact⟨io,rfl,h1⟩
    |succ i=>simpa using h4 i q (by simpa using hq)
   ·cases h
theorem Jy{P:Program}{m:Bool}{is:List IOp}{st st2:St}(h:DSteps P m is [] st st2):st2=st:=by cases h;rfl
def jA(n:Nat)(listed:Array Bool):List Nat:=(N_ n).filter fun i=> !listed.getD i true
theorem Ue {P:Program}{B:Nat}{Xs:List Nat}{G:Org}{w0:World}{ops:Array Oper}{is:List IOp}{m:Bool}{K:St→Prop}{Q:Exit→Act→World→Prop}(hcomp:jZ P ops ops.toList=some is)(hd:sO ops.toList is=true)
 (hm:∀(j:Nat) (jo:IOp),is[j]? =some jo→jo.i.cls=3→m=true) (hQ:∀st' E' a' w',Rel B Xs G w0 st' E' a' w'→K st'→Q .normal a' w'):
 ∀(fuel:Nat) (listed:Array Bool) (st st2:St) (E:Env) (a:Act) (w:World),listed.size=ops.size→(jA ops.size listed).length=fuel→wH ops listed→DSteps P m is (jA ops.size listed) st st2→K st2→Rel B Xs G w0 st E a w→
  wpAny P .any ops Q fuel listed a w:=by
 obtain⟨hlen,hget⟩:=kW hcomp;have hlen':is.length=ops.size:=by rw[hlen];simp
 unfold sO at hd;simp only[c_,K_]at hd;obtain⟨hd1,hd2⟩:=hd;have hback:∀i o,ops[i]? =some o→∀e∈o.after.toList,i_ .any e=true→e.on<i:=by
  intro i o ho e he hb;have:=hd1 (o,i) (by
   rw[g_];simpa using ho) e he
  simpa[hb]using this
 have hpair:∀i j io jo,is[i]? =some io→is[j]? =some jo→j<i→Aq jo io=true∨j∈(Cm ops.toList []).getD i []:=by
  intro i j io jo hi hj hlt;have:=hd2 (io,i) (by rw[g_];exact hi) (jo,j) (by rw[g_];exact hj);simp only[hlt,decide_true,F_,G_,B_,A_]at this;exact this
 have hsub:∀listed i,i∈l_ .any ops listed→i<ops.size∧listed.getD i true=false∧∃o,ops[i]? =some o∧∀e∈o.after.toList,i_ .any e=true→listed.getD e.on false=true:=by
  intro listed i hi;unfold l_ at hi;rw[e_]at hi;obtain⟨h1,h2⟩:=hi;simp only[c_,m_]at h2;obtain⟨h2,h3⟩:=h2;have hlt:=f_.1 h1;refine⟨hlt,h2,ops[i],Array.getElem?_eq_getElem hlt,fun e he hb=> ?_⟩;rw[Array.getElem?_eq_getElem hlt]at h3;simp only[t_,h_]at h3;rw[Array.all_eq_true']at h3;have:=h3 e (by simpa using he);simpa[hb]using this
 intro fuel
 induction fuel with
 | zero=>
   intro listed st st2 E a w hsz hf hcl hs hK hR;have hnil:jA ops.size listed= []:=D_ hf;rw[hnil]at hs;have:=Jy hs;subst this;refine⟨?_,hQ _ E a w hR hK⟩;cases hr:l_ .any ops listed with
   |nil=>rfl
   | cons i l=>
     obtain⟨h1,h2,_⟩:=hsub listed i (by rw[hr];simp);have:i∈jA ops.size listed:=e_.2 ⟨f_.2 h1,by simp[h2]⟩;rw[hnil]at this;simp at this
 | succ fuel ih=>
   intro listed st st2 E a w hsz hf hcl hs hK hR;refine⟨fun hr=> ?_,fun i hi=> ?_⟩
   ·
    exfalso;cases hrem:jA ops.size listed with
    |nil=>rw[hrem]at hf;simp at hf
    | cons i l=>
      have hi:i∈jA ops.size listed:=by rw[hrem];simp
      obtain⟨h1,h2⟩:=e_.1 hi;have hlt:=f_.1 h1;have hmin:∀j∈jA ops.size listed,i≤j:=by
       have hp:(jA ops.size listed).Pairwise (· < ·):=q_ _ p_;rw[hrem]at hp⊢;intro j hj;rcases Q_.1 hj with rfl|hj
       ·exact j_ _
       ·exact a_h ((w_.1 hp).1 j hj)
      have :i∈l_ .any ops listed:=by
       unfold l_;rw[e_];refine⟨h1, ?_⟩;rw[Array.getElem?_eq_getElem hlt];simp only[t_,h_,c_];refine⟨h2, ?_⟩;rw[Array.all_eq_true'];intro e he;cases hb:i_ .any e with
       |false=>simp
       | true=>
         have hon:=hback i ops[i] (Array.getElem?_eq_getElem hlt) e (by simpa using he) hb;simp only[F_,G_];cases hl:listed.getD e.on false with
         |true=>rfl
         | false=>
           have:e.on∈jA ops.size listed:=by
            refine e_.2 ⟨f_.2 (by omega), ?_⟩;have hs2:e.on<listed.size:=by omega
            simp only[Array.getD_eq_getD_getElem?,Array.getElem?_eq_getElem hs2,h_]at hl⊢;simp[hl]
           have:=hmin _ this;omega
      rw[hr]at this;simp at this
   ·obtain⟨hlt,hnl,o,ho,hed⟩:=hsub listed i hi;have hmem:i∈jA ops.size listed:=e_.2 ⟨f_.2 hlt,by simp[hnl]⟩;obtain⟨io,hio,hco⟩:=hget i o (by simpa using ho);obtain⟨pre,post,hsplit⟩:=S_ hmem;have hp:(jA ops.size listed).Pairwise (· < ·):=q_ _ p_;rw[hsplit]at hs hp;have hpre:∀j∈pre,j<i:=fun j hj=>(r_.1 hp).2.2 j hj i (by simp)
    have hpost:∀j∈post,i<j:=fun j hj=>(w_.1 (r_.1 hp).2.1).1 j hj
    have hind:∀j∈pre,∀(jo:IOp),is[j]? =some jo→Aq jo io=true:=by
     intro j hj jo hjo;rcases hpair i j io jo hio hjo (hpre j hj)with h|h
     ·exact h
     ·exfalso;have hl:=xO ops listed hcl ops.toList [] (fun j=>by simp) (fun i o hi=>by simp at hi) i o ho hed (by rw[Bh];simpa using hlt) j h;have hjm:j∈jA ops.size listed:=by rw[hsplit];simp[hj]
      have:=(e_.1 hjm).2;have hjs:j<listed.size:=by have:=f_.1 (e_.1 hjm).1;omega
      simp only[Array.getD_eq_getD_getElem?,Array.getElem?_eq_getElem hjs,h_]at hl this;simp[hl]at this
    obtain⟨st1,h1,h2⟩:=QA hio hm pre post st st2 hs hind (JQ hR);have hg':∀j,(listed.setIfInBounds i true).getD j true=if j=i then true else listed.getD j true:=by
     intro j;simp only[Array.getD_eq_getD_getElem?];by_cases e:j=i
     ·subst e;rw[if_pos rfl,Array.getElem?_setIfInBounds_self_of_lt (by omega)];rfl
     ·rw[if_neg e,Array.getElem?_setIfInBounds_ne (fun h=>e h.symm)]
    have hrem':jA ops.size (listed.setIfInBounds i true)=pre++post:=by
     have e1:jA ops.size (listed.setIfInBounds i true)=(jA ops.size listed).filter (fun j=>j !=i):=by
      unfold jA;rw[T_];apply X_;intro j _;rw[hg'];by_cases e:j=i
      ·simp[e]
      ·simp[e]
     rw[e1,hsplit,U_,a_c];simp only[bne_self_eq_false,V_,if_false];rw[n_.2 (fun j hj=>by have:=hpre j hj;simp;omega),n_.2 (fun j hj=>by have:=hpost j hj;simp;omega)]
    have hcl':wH ops (listed.setIfInBounds i true):=by
     intro k q hq hk e he hb;have hgf:∀j,(listed.setIfInBounds i true).getD j false=if j=i then true else listed.getD j false:=by
      intro j;simp only[Array.getD_eq_getD_getElem?];by_cases e:j=i
      ·subst e;rw[if_pos rfl,Array.getElem?_setIfInBounds_self_of_lt (by omega)];rfl
      ·rw[if_neg e,Array.getElem?_setIfInBounds_ne (fun h=>e h.symm)]
     rw[hgf]at hk⊢;split
     ·rfl
     ·split at hk
      ·next e'=>
       subst e';rw[ho]at hq;injection hq with hq
       subst hq;exact hed e he hb
      ·exact hcl k q hq hk e he hb
    have hlen2:(pre++post).length=fuel:=by
     rw[hsplit]at hf;simp only[o_,J_]at hf⊢;omega
    unfold wpOp;rw[ho];have:=zy (Q:=Q) (K:=wpAny P .any ops Q fuel (listed.setIfInBounds i true)) hR hco h1.step (fun E' a' w' hR'=>
     ih (listed.setIfInBounds i true) st1 st2 E' a' w' (by simp[hsz]) (by rw[hrem'];exact hlen2) hcl' (by rw[hrem'];exact h2) hK hR')
    simp only;split
    ·next hw=>rw[if_pos hw]at this;exact a_ this
    ·next hw=>rw[if_neg hw]at this;exact this
theorem Rel.drewN{B:Nat}{Xs:List Nat}{G:Org}{w0:World}{st:St}{E:Env}{a:Act}{w:World}(h:Rel B Xs G w0 st E a w):Rel B Xs G w0 st E a {w with drawn:=w.drawn+1}:=by
 have:=h.lK (Below.refl w.heap.size w).drew (d:=none) (x:= .any) (v:=undef) trivial;exact this
theorem Q7{P:Program}{B:Nat}{Xs:List Nat}{G:Org}{w0:World}{st st2:St}{E:Env}{a:Act}{w:World}{id:Nat}{ops:Array Oper}{is:List IOp}{m:Bool}{K:St→Prop}{Q:Exit→Act→World→Prop}(hmix:P.follows .mixedOrders=true)(hcomp:jZ P ops ops.toList=some is)(hd:sO ops.toList is=true)
 (hm:∀(j:Nat) (jo:IOp),is[j]? =some jo→jo.i.cls=3→m=true) (hQ:∀st' E' a' w',Rel B Xs G w0 st' E' a' w'→K st'→Q .normal a' w') (hs:DSteps P m is (N_ ops.size) st st2) (hK:K st2) (hR:Rel B Xs G w0 st E a w):
 (Code.region id ops true).wp P Q a w:=by
 have e:jA ops.size (Array.replicate ops.size false)=N_ ops.size:=by
  unfold jA;refine n_.2 (fun j hj=> ?_);have:=f_.1 hj;simp[Array.getD_eq_getD_getElem?,this]
 refine wp_region_any hmix (Ue hcomp hd hm hQ ops.size _ st st2 E a _ (by simp) (by rw[e];simp) ?_ (by rw[e];exact hs) hK hR.drewN);intro i o _ h;simp[Array.getD_eq_getD_getElem?,Array.getElem?_replicate]at h;split at h<;>simp at h
section
variable(P:Program)(m:Bool)(K:St→Prop)
def sd : List IOp→St→Prop
 | [],st=>K st
 | o ::rest,st=>match gdA st o.gd with
   |none=>False
   |some false=>sd rest (st.put o.d (.c false [.raw undef]))
   | some true=>match o.i with
     | .iad s x j=>(match st.ev x with
       | .c false [.sl n l]=>El s l∧(match idx l (bI (st.ev j))with|some dd=>sd rest (st.put o.d (.ptr (dd.acs n)))|none=>False)
       | .c false [.own k v]=>(match(mo m st)[k]?,bI (st.ev j)with|some ow,some z=>ow.ver=v∧ow.s=s∧0≤z∧z.toNat<ow.l.length∧sd rest (st.put o.d (.eptr k v z.toNat 0))|_,_=>False)
       | .c false [.osub k v p q]=>(match(mo m st)[k]?,bI (st.ev j)with|some ow,some z=>ow.ver=v∧ow.s=s∧0≤z∧z.toNat<q - p∧sd rest (st.put o.d (.eptr k v (p+z.toNat) 0))|_,_=>False)
       |_=>False)
     | .lsl s x lo hi=>(match st.ev x,opI st.ev lo,opI st.ev hi with
       | .c false [.sl n l],some a,some b=>El s l∧(match jr a b l.length with|some (p,q)=>sd rest (st.put o.d (.c false [.sl n ((l.take q).drop p)]))|none=>False)
       | .c false [.own k v],some a,some b=>(match(mo m st)[k]? with|some ow=>ow.ver=v∧ow.s=s∧(match jr a b ow.l.length with|some (p,q)=>sd rest (st.put o.d (.c false [.osub k v p q]))|none=>False)|none=>False)
       |_,_,_=>False)
     | .call f xs=>(∃ds r,aO (mo m st) (xs.map st.ev) ds∧aJ P f ds r∧r.res∧sd rest (st.put o.d r))∨(∃ds r,aO [] (xs.map st.ev) ds∧mg P f ds r∧r.old=true∧sd rest (st.put o.d r))
     | .callv x xs=>(∃f caps r os' bs',st.ev x= .c false [.cl f caps]∧AQ P f=true∧kJ P f (xs.map st.ev++caps.map fun k=> .bptr k 0) st.owns st.boxes r os' bs'∧sd rest (St.put ⟨st.fr,os',bs'⟩ o.d r))
     | .app e s x y=>(match st.ev x,bV st.owns (st.ev y)with
       | .c false [.own k v],some (l,n)=>(match st.owns[k]? with
         |some ow=>ow.ver=v∧ow.e=e∧ow.s=s∧El s l∧ow.l.length+l.length≤jH s∧sd rest (St.put ⟨st.fr,st.owns.set k ⟨ow.l++l,e,s,v+1,ow.nw.n && n⟩,st.boxes⟩ o.d (.c false [.own k (v+1)]))
         |none=>False)
       | .c false [.osub k v p q],some (l,n)=>(match st.owns[k]? with
         |some ow=>ow.ver=v∧ow.e=e∧ow.s=s∧El s l∧ow.l.length+l.length≤jH s∧sd rest (St.put ⟨st.fr,st.owns.set k ⟨(ow.l.take q).drop p++l,e,s,v+1,ow.nw.n && n⟩,st.boxes⟩ o.d (.c false [.own k (v+1)]))
         |none=>False)
       | .c false [.raw (.slice none 0 0)],some (l,n)=>El s l∧l.length≤jH s∧sd rest (St.put ⟨st.fr,st.owns++ [⟨l,e,s,0,n⟩],st.boxes⟩ o.d (.c false [.own st.owns.length 0]))
       |_,_=>False)
     | i=>if eff i then(match ex st.ev st.owns st.boxes i with|some (r,os',bs')=>sd rest (St.put ⟨st.fr,os',bs'⟩ o.d r)|none=>False)
       else(match ex st.ev (mo m st) st.boxes i with|some (r,_,bs')=>sd rest (St.put ⟨st.fr,st.owns,bs'⟩ o.d r)|none=>False)
def JK(d:Option Nat)(x:AV)(avs:List AV)(rest:List IOp)(st:St):Prop:=
 ∃f caps r os' bs',x= .c false [.cl f caps]∧AQ P f=true∧kJ P f (avs++caps.map fun k=> .bptr k 0) st.owns st.boxes r os' bs'∧sd P m K rest (St.put ⟨st.fr,os',bs'⟩ d r)
def o9(d:Option Nat)(f:Nat)(avs:List AV)(rest:List IOp)(st:St):Prop:=
 (∃ds r,aO (mo m st) avs ds∧aJ P f ds r∧r.res∧sd P m K rest (st.put d r))∨(∃ds r,aO [] avs ds∧mg P f ds r∧r.old=true∧sd P m K rest (st.put d r))
end
section
variable{P:Program}{m:Bool}{K:St→Prop}
theorem Ut{ρ:Opd→AV}{os os':List Own}{bs bs':List (List AC)}{i:I}{r:AV}(h:ex ρ os bs i=some (r,os',bs'))(he:eff i=false):os'=os:=by
 have hr:=xq (P:=default) h;rcases oU he with c|c|c
 ·exact(ER hr c).1
 ·cases i<;>simp only[I.cls]at c<;>(try(simp at c;done))<;>(try(simp[ex]at h;done))
  all_goals(cases hr<;>first|rfl|(simp[eff,I.cls]at he;done))
 ·exact(Sm hr c).1
theorem JZ{o:IOp}{rest:List IOp}{st:St}(h:sd P m K (o::rest) st):∃st',DStep P m o st st'∧sd P m K rest st':=by
 obtain⟨d,gd,i⟩:=o;unfold sd at h;split at h
 ·exact h.elim
 ·next hg=>exact⟨_,.skip hg,h⟩
 ·next hg=>
  simp only at h hg;split at h
  ·next s x j=>
   split at h
   ·next n l hx=>
    obtain⟨hel,h⟩:=h;split at h
    ·next dd hi=>
     obtain⟨y,h1,h2,h3⟩:=Gz hi;exact⟨_,.pure hg rfl (.iadS hx h1 h2 h3 hel),h⟩
    ·exact h.elim
   ·next k v hx=>
    split at h
    ·next ow z ho hz=>
     obtain⟨h1,h2,h3,h4,h⟩:=h;exact⟨_,.pure hg rfl (.iadO hx hz h3 ho h1 h4 h2),h⟩
    ·exact h.elim
   ·next k v p q hx=>
    split at h
    ·next ow z ho hz=>
     obtain⟨h1,h2,h3,h4,h⟩:=h;exact⟨_,.pure hg rfl (.iadU hx hz h3 ho h1 h4 h2),h⟩
    ·exact h.elim
   ·exact h.elim
  ·next s x lo hi=>
   split at h
   ·next n l a b hx hlo hhi=>
    obtain⟨hel,h⟩:=h;split at h
    ·next p q hs=>exact⟨_,.pure hg rfl (.lsl hx (jq hlo) (jq hhi) hs hel),h⟩
    ·exact h.elim
   ·next k v a b hx hlo hhi=>
    split at h
    ·next ow ho=>
     obtain⟨h1,h2,h⟩:=h;split at h
     ·next p q hs=>exact⟨_,.pure hg rfl (.lslO hx ho h1 h2 (jq hlo) (jq hhi) hs),h⟩
     ·exact h.elim
    ·exact h.elim
   ·exact h.elim
  ·next f xs=>
   rcases h with⟨ds,r,h1,h2,h3,h4⟩|⟨ds,r,h1,h2,h3,h4⟩
   ·exact⟨_,.pure hg rfl (.call h1 h2 h3),h4⟩
   ·exact⟨_,.pure hg rfl (.callA h1 h2 h3),h4⟩
  ·next x xs=>
   obtain⟨f,caps,r,os',bs',h1,h2,h3,h4⟩:=h;exact⟨_,.callV hg rfl h1 h2 h3,h4⟩
  ·next e s x y=>
   split at h
   ·next k v l n hx hs=>
    split at h
    ·next ow ho=>
     obtain⟨h1,h2,h3,h4,h5,h⟩:=h;exact⟨_,.eff hg rfl (.appO hx ho h1 h2 h3 hs h4 h5),h⟩
    ·exact h.elim
   ·next k v p q l n hx hs=>
    split at h
    ·next ow ho=>
     obtain⟨h1,h2,h3,h4,h5,h⟩:=h;exact⟨_,.eff hg rfl (.appU hx ho h1 h2 h3 hs h4 h5),h⟩
    ·exact h.elim
   ·next l n hx hs=>
    obtain⟨h1,h2,h⟩:=h;exact⟨_,.eff hg rfl (.appN hx hs h1 h2),h⟩
   ·exact h.elim
  ·split at h
   ·next he=>
    split at h
    ·next r os' bs' hx=>exact⟨_,.eff hg he (xq hx),h⟩
    ·exact h.elim
   ·next he=>
    have he':eff i=false:=by simpa using he
    split at h
    ·next r os' bs' hx=>
     have e1:=Ut hx he';subst e1;exact⟨_,.pure hg he' (xq hx),h⟩
    ·exact h.elim
theorem FP{is:List IOp}:∀(l:List IOp) (k:Nat) (st:St),(∀j,l[j]? =is[k+j]?)→sd P m K l st→∃st2,DSteps P m is (a_k k l.length) st st2∧K st2
 | [],k,st,_,h=>⟨st,.nil,h⟩
 | o::l,k,st,hl,h=>by
   obtain⟨st1,h1,h2⟩:=JZ h;obtain⟨st2,h3,h4⟩:=FP l (k+1) st1 (fun j=>by have:=hl (j+1);simpa[a_g,a_i 1 j]using this) h2;exact⟨st2,.cons (by have:=hl 0;simpa using this.symm) h1 h3,h4⟩
theorem SL{B:Nat}{Xs:List Nat}{G:Org}{w0:World}{st:St}{E:Env}{a:Act}{w:World}{id:Nat}{ops:Array Oper}{is:List IOp}{Q:Exit→Act→World→Prop}(hmix:P.follows .mixedOrders=true)(hcomp:jZ P ops ops.toList=some is)(hd:sO ops.toList is=true)
 (hm:m=is.any fun o=>o.i.cls==3) (hQ:∀st' E' a' w',Rel B Xs G w0 st' E' a' w'→K st'→Q .normal a' w') (hs:sd P m K is st) (hR:Rel B Xs G w0 st E a w):(Code.region id ops true).wp P Q a w:=by
 obtain⟨st2,h1,h2⟩:=FP (is:=is) is 0 st (fun j=>by simp) hs;have hl:is.length=ops.size:=by rw[(kW hcomp).1];simp
 rw[hl,← O_]at h1;refine Q7 hmix hcomp hd (m:=m) (fun j jo hj hc=> ?_) hQ h1 h2 hR;rw[hm];exact List.any_eq_true.2 ⟨jo,s_ hj,by simp[hc]⟩
theorem Ol{st:St}:sd P m K [] st=K st:=rfl
theorem FQ{d:Option Nat}{g:Nat×Bool}{i:I}{rest:List IOp}{st:St}:sd P m K (⟨d,some g,i⟩::rest) st=(match gdA st (some g)with
 |none=>False
 |some false=>sd P m K rest (st.put d (.c false [.raw undef]))
 |some true=>sd P m K (⟨d,none,i⟩::rest) st):=by
 rw[sd.eq_2];simp only;cases gdA st (some g)with
 |none=>rfl
 | some b=>cases b with
   |false=>rfl
   |true=>rfl
theorem Oo{d:Option Nat}{s:Nat}{x j:Opd}{rest:List IOp}{st:St}:sd P m K (⟨d,none,.iad s x j⟩::rest) st=(match st.ev x with
 | .c false [.sl n l]=>El s l∧(match idx l (bI (st.ev j))with|some dd=>sd P m K rest (st.put d (.ptr (dd.acs n)))|none=>False)
 | .c false [.own k v]=>(match(mo m st)[k]?,bI (st.ev j)with|some ow,some z=>ow.ver=v∧ow.s=s∧0≤z∧z.toNat<ow.l.length∧sd P m K rest (st.put d (.eptr k v z.toNat 0))|_,_=>False)
 | .c false [.osub k v p q]=>(match(mo m st)[k]?,bI (st.ev j)with|some ow,some z=>ow.ver=v∧ow.s=s∧0≤z∧z.toNat<q - p∧sd P m K rest (st.put d (.eptr k v (p+z.toNat) 0))|_,_=>False)
 |_=>False):=rfl
theorem Om{d:Option Nat}{s:Nat}{x:Opd}{lo hi:Option Opd}{rest:List IOp}{st:St}:sd P m K (⟨d,none,.lsl s x lo hi⟩::rest) st=(match st.ev x,opI st.ev lo,opI st.ev hi with
 | .c false [.sl n l],some a,some b=>El s l∧(match jr a b l.length with|some (p,q)=>sd P m K rest (st.put d (.c false [.sl n ((l.take q).drop p)]))|none=>False)
 | .c false [.own k v],some a,some b=>(match(mo m st)[k]? with|some ow=>ow.ver=v∧ow.s=s∧(match jr a b ow.l.length with|some (p,q)=>sd P m K rest (st.put d (.c false [.osub k v p q]))|none=>False)|none=>False)
 |_,_,_=>False):=rfl
theorem D9{d:Option Nat}{f:Nat}{xs:List Opd}{rest:List IOp}{st:St}:sd P m K (⟨d,none,.call f xs⟩::rest) st=o9 P m K d f (xs.map st.ev) rest st:=rfl
theorem FT{d:Option Nat}{x:Opd}{xs:List Opd}{rest:List IOp}{st:St}:sd P m K (⟨d,none,.callv x xs⟩::rest) st=JK P m K d (st.ev x) (xs.map st.ev) rest st:=rfl
theorem Ou{d:Option Nat}{e s:Nat}{x y:Opd}{rest:List IOp}{st:St}:sd P m K (⟨d,none,.app e s x y⟩::rest) st=(match st.ev x,bV st.owns (st.ev y)with
 | .c false [.own k v],some (l,n)=>(match st.owns[k]? with
   |some ow=>ow.ver=v∧ow.e=e∧ow.s=s∧El s l∧ow.l.length+l.length≤jH s∧sd P m K rest (St.put ⟨st.fr,st.owns.set k ⟨ow.l++l,e,s,v+1,ow.nw.n && n⟩,st.boxes⟩ d (.c false [.own k (v+1)]))
   |none=>False)
 | .c false [.osub k v p q],some (l,n)=>(match st.owns[k]? with
   |some ow=>ow.ver=v∧ow.e=e∧ow.s=s∧El s l∧ow.l.length+l.length≤jH s∧sd P m K rest (St.put ⟨st.fr,st.owns.set k ⟨(ow.l.take q).drop p++l,e,s,v+1,ow.nw.n && n⟩,st.boxes⟩ d (.c false [.own k (v+1)]))
   |none=>False)
 | .c false [.raw (.slice none 0 0)],some (l,n)=>El s l∧l.length≤jH s∧sd P m K rest (St.put ⟨st.fr,st.owns++ [⟨l,e,s,0,n⟩],st.boxes⟩ d (.c false [.own st.owns.length 0]))
 |_,_=>False):=rfl
theorem Oq{d:Option Nat}{i:I}{rest:List IOp}{st:St}(hi:i.plain=true)(he:eff i=false):sd P m K (⟨d,none,i⟩::rest) st=(match ex st.ev (mo m st) st.boxes i with|some (r,_,bs')=>sd P m K rest (St.put ⟨st.fr,st.owns,bs'⟩ d r)|none=>False):=by
 have:sd P m K (⟨d,none,i⟩::rest) st=if eff i then(match ex st.ev st.owns st.boxes i with|some (r,os',bs')=>sd P m K rest (St.put ⟨st.fr,os',bs'⟩ d r)|none=>False)
  else(match ex st.ev (mo m st) st.boxes i with|some (r,_,bs')=>sd P m K rest (St.put ⟨st.fr,st.owns,bs'⟩ d r)|none=>False):=by
  cases i<;>first|rfl|cases hi
 rw[this,he];rfl
theorem Ot{d:Option Nat}{i:I}{rest:List IOp}{st:St}(hi:i.plain=true)(he:eff i=true):sd P m K (⟨d,none,i⟩::rest) st=(match ex st.ev st.owns st.boxes i with|some (r,os',bs')=>sd P m K rest (St.put ⟨st.fr,os',bs'⟩ d r)|none=>False):=by
 have:sd P m K (⟨d,none,i⟩::rest) st=if eff i then(match ex st.ev st.owns st.boxes i with|some (r,os',bs')=>sd P m K rest (St.put ⟨st.fr,os',bs'⟩ d r)|none=>False)
  else(match ex st.ev (mo m st) st.boxes i with|some (r,_,bs')=>sd P m K rest (St.put ⟨st.fr,st.owns,bs'⟩ d r)|none=>False):=by
  cases i<;>first|rfl|cases hi
 rw[this,he];rfl
theorem DC{d:Option Nat}{f:Nat}{avs:List AV}{rest:List IOp}{st:St}{ds:List D}{r:AV}(hc:aJ P f ds r)(hr:r.res)(ha:aO (mo m st) avs ds)(h:sd P m K rest (st.put d r)):o9 P m K d f avs rest st:=
 a_ ⟨ds,r,ha,hc,hr,h⟩
end
def D.avN(b:Bool)(d:D):AV:= .c d.isAgg (d.acs b)
def D.av(d:D):AV:= .c d.isAgg (d.acs false)
def AC.cur :AC→Bool
 | .raw _=>true
 | .any=>true
 | .sl n _=>n
 |_=>false
def AC.sD :AC→Bool
 | .raw _=>true
 | .any=>true
 | .sl n _=>n
 | .own _ _=>true
 |_=>false
def AV.sD :AV→Bool
 | .any=>true
 | .c _ xs=>xs.all AC.sD
 | .tup ys=>ys.all fun y=>y.2.all AC.sD
 |_=>false
def AC.fl(t:Bool):AC→AC
 | .sl _ l=> .sl t l
 |x=>x
def AV.fl(t:Bool):AV→AV
 | .c g xs=> .c g (xs.map (AC.fl t))
 | .tup ys=> .tup (ys.map fun y=>(y.1,y.2.map (AC.fl t)))
 |x=>x
def AC.cin(t:Bool):AC→Bool
 | .raw _=>true
 | .any=>true
 | .sl n _=> !t || n
 |_=>false
def TD(X:List Nat)(b:Nat)(ty:TypeId)(post:AV→List Own→List AC→Prop)(w:World)(e:Ending)(w':World):Prop:=
 ∃v om r os' c' us',post r os' c'∧r.sD=true∧c'.all AC.cur=true∧e= .returned v∧oL w.heap.size w' om os'∧r.ok ⟨w.heap.size,om,[(b,ty)],X⟩ os' w' v∧
  Row w' b ty us'∧Oks ⟨w.heap.size,om,[(b,ty)],X⟩ os' w' c' us'∧Below b w w'∧∀x,x<w.heap.size→x≠b→w'.heap[x]? =w.heap[x]?
def qp(P:Program)(f:Nat)(ds:List D)(c:List AC)(post:AV→List Own→List AC→Prop):Prop:=
 ∀(w:World) (b:Nat) (ty:TypeId) (us vs:List Value) (X:List Nat),BelowT b w w→(∀x∈X,x≠b∧x<w.heap.size)→Row w b ty us→Oks ⟨w.heap.size,[],[(b,ty)],X⟩ [] w c us→
  nP ⟨w.heap.size,[],[(b,ty)],X⟩ [] w (ds.map D.av) vs→Calls P f (.pointer (some ⟨b,0,none⟩)::vs).toArray w (TD X b ty post w)
theorem qp.mono{P:Program}{f:Nat}{ds:List D}{c:List AC}{p q:AV→List Own→List AC→Prop}(h:qp P f ds c p)(hq:∀r os' c',p r os' c'→q r os' c'):qp P f ds c q:=by
 intro w b ty us vs X h1 h2 h3 h4 h5;refine(h w b ty us vs X h1 h2 h3 h4 h5).mono ?_;rintro e w' ⟨v,om,r,os',c',us',k1,k2⟩;exact⟨v,om,r,os',c',us',hq _ _ _ k1,k2⟩
def jO(P:Program)(f:Nat)(ds:List D)(post:AV→List Own→Prop):Prop:=
 ∀w vs,Rds w ds vs→nM w→Calls P f vs.toArray w (fun e w'=>∃r os',post r os'∧r.out=true∧Fb r os' w e w')
theorem dH.xe{P:Program}{f:Nat}{ds:List D}{r:AV}{os:List Own}(h:dH P f ds r os)(ho:r.out=true:=by rfl):jO P f ds (fun r' os'=>r'=r∧os'=os):=fun w vs h1 h2=>(h w vs h1 h2).mono fun e w' h3=>⟨r,os,⟨rfl,rfl⟩,ho,h3⟩
theorem jO.mono{P:Program}{f:Nat}{ds:List D}{p q:AV→List Own→Prop}(h:jO P f ds p)(hq:∀r os',p r os'→q r os'):jO P f ds q:=by
 intro w vs h1 h2;refine(h w vs h1 h2).mono ?_;rintro e w' ⟨r,os',k1,k2⟩;exact⟨r,os',hq _ _ k1,k2⟩
section
variable{P:Program}{B:Nat}{Xs:List Nat}{G:Org}{w0:World}{fr:List AV}{os:List Own}{bs:List (List AC)}{E:Env}{a:Act}{w w':World}
theorem DL{st:St}(h:Rel B Xs G w0 st E a w):∀{xs:List AV} {ds:List D} {vs:List Value},aO st.owns xs ds→nP E st.owns w xs vs→Rds w ds vs
 | [],[],[],_,_=>trivial
 |x::xs,d::ds,v::vs,hd,hv=>⟨QN h hd.1 hv.1,DL h hd.2 hv.2⟩
 | [],_::_,_,hd,_=>hd.elim
 |_::_,[],_,hd,_=>hd.elim
 | [],[],_::_,_,hv=>hv.elim
 |_::_,_::_,[],_,hv=>hv.elim
theorem Rel.here{st:St}(h:Rel B Xs G w0 st E a w):Rel B Xs ⟨E,st.owns,w⟩ w0 ⟨[],st.owns,st.boxes⟩ E {tmps:= #[],defers:= []} w where
 eb:=h.eb
 ex:=h.ex
 sim:=Sim.refl _ _ _
 defers:=rfl
 size:=rfl
 fr:=fun t y hy=>by simp at hy
 olen:=h.olen
 own:=h.own
 blen:=h.blen
 box:=h.box
 nodup:=h.nodup
 lin:=h.lin
 unf:=h.unf
 below:=h.below
 base:=h.base
theorem jO.toE{f:Nat}{ds:List D}{ys:List AV}{post:AV→List Own→Prop}(h:jO P f ds post)(ha:aO os ys ds):
 kK P f ys os bs (fun r2 os2 bs2=>∃r os',post r os'∧r2=r.shift os.length∧os2=os++os'∧bs2=bs):=by
 intro B Xs G w0 fr E a w vs hR hv;refine(h w vs (DL hR ha hv) hR.below.now).mono ?_;rintro e w' ⟨r,os',hp,hr,v,om,rfl,ho,hx,hb⟩;have hA:=hR.here;have hok:∀E':Env,(∀b,b∈E'.M↔b∈E.M∨b∈om.flatMap fun q=>q.1.ownBlock.toList)→E'.nw=E.nw→E'.om=E.om++om→(r.shift os.length).ok E' (os++os') w' v:=by
  intro E' hM hnw hom;cases r with
  |any=>trivial
  |c g xs=>exact tV hA hM hnw hom hr hx
  |tup ys=>obtain⟨vs,h1,h2⟩:=hx;exact⟨vs,h1,qI hA hM hnw hom hr h2⟩
  |ptr _=>cases hr
  |bptr _ _=>cases hr
  |eptr _ _ _ _=>cases hr
 have hB:=hA.vU (x:=r.shift os.length) (u:=v) hb ho none hok;exact⟨v,_,_,_,_,⟨r,os',hp,rfl,rfl,rfl⟩,rfl,hB,hok _ (fun b=>lM E om) rfl rfl⟩
theorem QO{st:St}(h:Rel B Xs G w0 st E a w){kc:Nat}{p:Nat×TypeId}(hp:E.bm[kc]? =some p){x:AC}{dd:D}{v:Value}(hd:jg st.owns x=some dd)(hx:x.ok E st.owns w v):∃fp,R w dd fp [v]∧∀b∈fp,b≠p.1:=by
 have hpM:p.1∈E.M:=gV.2 (a_ ⟨kc,p,hp,rfl⟩);have hno:∀(k:Nat) (o:Own) (q:Value×List Nat),st.owns[k]? =some o→E.om[k]? =some q→∀b,(q.1.ownBlock=some b∨b∈q.2)→b≠p.1:=by
  intro k o q h1 h2 b hb e;subst e;rcases hb with hb|hb
  ·have hn:=h.nodup;unfold Env.M at hn;rw[List.nodup_append]at hn;exact hn.2.2 p.1 (List.mem_map.2 ⟨p,s_ hp,rfl⟩) p.1 (a_b.2 ⟨q,s_ h2,by simpa using hb⟩) rfl
  ·obtain⟨cs,_,_,_,h8⟩:=h.own k o q h1 h2;exact(h8 _ hb).1 hpM
 cases x with
 | own k i=>
   simp only[jg]at hd;obtain⟨_,o,q,h1,h2,h3,h4⟩:=hx;rw[h1]at hd;simp only at hd;split at hd
   ·next hv=>
    injection hd with hd
    subst hd;obtain rfl:=h4 hv;obtain⟨cs,h5,h6,_⟩:=h.own k o q h1 h2;refine⟨_,Sl.kU h5 h6,fun b hb=>hno k o q h1 h2 b ?_⟩;rcases C_.1 hb with hb|hb
    ·exact a_ (by simpa using hb)
    ·exact b_ hb
   ·cases hd
 | osub k i p1 q1=>
   simp only[jg]at hd;have hx':=hx;obtain⟨_,o,pp,h1,h2,h3,h4⟩:=hx;rw[h1]at hd;simp only at hd;split at hd
   ·next hv=>
    injection hd with hd
    subst hd;obtain⟨_,_,pp',cs,f,g1,g2,g3,g4,g5,_⟩:=rJ h hx' h1 hv;rw[h2]at g1;injection g1 with g1
    subst g1;refine⟨_,Sl.kU g2 g3,fun b hb=>hno k o pp h1 h2 b ?_⟩;rcases C_.1 hb with hb|hb
    ·exact a_ (by rw[← g5];simpa using hb)
    ·exact b_ (g4 b hb)
   ·cases hd
 |cl f caps=>simp[jg,AC.toD]at hd
 |any=>simp[jg,AC.toD]at hd
 | raw u=>
   obtain⟨_,h1,fp,h2,h3⟩:=toD_ok (x:= .raw u) hd hx;exact⟨fp,h2,fun b hb e=>(h3 b hb).1 (e▸hpM)⟩
 | sl n l=>
   obtain⟨_,h1,fp,h2,h3⟩:=toD_ok (x:= .sl n l) hd hx;exact⟨fp,h2,fun b hb e=>(h3 b hb).1 (e▸hpM)⟩
theorem xK{st:St}(h:Rel B Xs G w0 st E a w){kc:Nat}{p:Nat×TypeId}(hp:E.bm[kc]? =some p):∀{xs:List AC} {ds:List D} {vs:List Value},fU st.owns xs=some ds→Oks E st.owns w xs vs→∃fp,Rs w ds fp vs∧∀b∈fp,b≠p.1
 | [],ds,[],hd,_=>by
   injection hd with hd
   subst hd;exact⟨[],⟨rfl,rfl⟩,fun b hb=>by simp at hb⟩
 | x::xs,ds,v::vs,hd,hx=>by
   rw[fU]at hd;split at hd
   ·next d ds' h1 h2=>
    injection hd with hd
    subst hd;obtain⟨f1,r1,k1⟩:=QO h hp h1 hx.1;obtain⟨f2,r2,k2⟩:=xK h hp h2 hx.2;exact⟨f1++f2,⟨f1,f2,[v],vs,rfl,rfl,r1,r2⟩,fun b hb=>(C_.1 hb).elim (k1 b) (k2 b)⟩
   ·cases hd
 | [],_,_::_,_,h=>h.elim
 |_::_,_,[],_,h=>h.elim
theorem SE{st:St}(h:Rel B Xs G w0 st E a w){kc:Nat}{p:Nat×TypeId}(hp:E.bm[kc]? =some p){H:Nat}{X:List Nat}{x:AV}{dd:D}{v:Value}(hd:iW st.owns x dd)(hx:x.ok E st.owns w v):
 (D.av dd).ok ⟨H,[],[p],X⟩ [] w v:=by
 have hM:∀b,b∈(⟨H,[],[p],X⟩:Env).M→b=p.1:=fun b hb=>by simpa[Env.M]using hb
 cases x with
 | c g xs=>
   obtain⟨h1,rfl⟩:=hd;unfold D.av AV.ok Gok;cases hg:dd.isAgg with
   | true=>
     rw[hg]at hx;obtain⟨vs,h2,h3⟩:=hx;obtain⟨fp,h4,h5⟩:=xK h hp h1 h3;exact⟨vs,h2,nY (jS.2 h4) (fun b hb=>⟨fun hm=>h5 b hb (hM b hm),fun e=>by cases e⟩)⟩
   | false=>
     rw[hg]at hx;obtain⟨fp,h4,h5⟩:=xK h hp h1 (show Oks E st.owns w xs [v] from hx);exact nY (jS.2 h4) (fun b hb=>⟨fun hm=>h5 b hb (hM b hm),fun e=>by cases e⟩)
 |any=>exact hd.elim
 |ptr _=>exact hd.elim
 |bptr _ _=>exact hd.elim
 |eptr _ _ _ _=>exact hd.elim
 |tup _=>exact hd.elim
theorem Ij{st:St}(h:Rel B Xs G w0 st E a w){kc:Nat}{p:Nat×TypeId}(hp:E.bm[kc]? =some p){H:Nat}{X:List Nat}:∀{xs:List AV} {ds:List D} {vs:List Value},aO st.owns xs ds→nP E st.owns w xs vs→
 nP ⟨H,[],[p],X⟩ [] w (ds.map D.av) vs
 | [],[],[],_,_=>trivial
 |x::xs,d::ds,v::vs,hd,hv=>⟨SE h hp hd.1 hv.1,Ij h hp hd.2 hv.2⟩
 | [],_::_,_,hd,_=>hd.elim
 |_::_,[],_,hd,_=>hd.elim
 | [],[],_::_,_,hv=>hv.elim
 |_::_,_::_,[],_,hv=>hv.elim
theorem AC.ok.Gq{H:Nat}{om:List (Value×List Nat)}{bm:List (Nat×TypeId)}{X X':List Nat}(hX:∀x∈X,x∈X'){os:List Own}{x:AC}{v:Value}(h:x.ok ⟨H,om,bm,X⟩ os w v):x.ok ⟨H,om,bm,X'⟩ os w v:=by
 cases x with
 | sl n l=>
   obtain⟨fp,h1,h2⟩:=h;exact⟨fp,h1,fun b hb=>⟨(h2 b hb).1,fun e=>((h2 b hb).2 e).imp_right (hX b)⟩⟩
 |_=>exact h
theorem Oks.Gq{H:Nat}{om:List (Value×List Nat)}{bm:List (Nat×TypeId)}{X X':List Nat}(hX:∀x∈X,x∈X'){os:List Own}:∀{xs:List AC} {vs:List Value},Oks ⟨H,om,bm,X⟩ os w xs vs→Oks ⟨H,om,bm,X'⟩ os w xs vs
 | [],[],_=>trivial
 |x::xs,v::vs,h=>⟨AC.ok.Gq hX h.1,Oks.Gq hX h.2⟩
 | [],_::_,h=>h.elim
 |_::_,[],h=>h.elim
theorem Jz(t:Bool){H:Nat}{p:Nat×TypeId}(hp:p.1∈E.M):∀{c:List AC} {us:List Value},c.all (AC.cin t)=true→Oks E os w c us→
 ∃X,(∀x∈X,x∉E.M∧x<w.heap.size∧(t=true→E.nw x))∧Oks ⟨H,[],[p],X⟩ [] w (c.map (AC.fl true)) us
 | [],[],_,_=>⟨[],fun x hx=>by simp at hx,trivial⟩
 | x ::c,u::us,hc,h=>by
   simp only[y_,c_]at hc;obtain⟨X,h1,h2⟩:=Jz t hp hc.2 h.2;cases x with
   |any=>exact⟨X,h1,trivial,h2⟩
   |raw z=>exact⟨X,h1,h.1,h2⟩
   | sl n l=>
     obtain⟨fp,g1,g2⟩:=h.1;refine⟨fp++X,fun x hx=> ?_,⟨fp,g1,fun b hb=>⟨fun hm=> ?_,fun _=>b_ (List.mem_append_left _ hb)⟩⟩,Oks.Gq (fun x hx=>z_ _ hx) h2⟩
     ·rcases C_.1 hx with hx|hx
      ·refine⟨(g2 x hx).1,R.lt g1 x hx,fun e=>(g2 x hx).2 ?_⟩;have:=hc.1;simpa[AC.cin,e]using this
      ·exact h1 x hx
     ·have:b=p.1:=by simpa[Env.M]using hm
      exact(g2 b hb).1 (this▸hp)
   |own k i=>simp[AC.cin]at hc
   |osub k i p q=>simp[AC.cin]at hc
   |cl f caps=>simp[AC.cin]at hc
 | [],_::_,_,h=>h.elim
 |_::_,[],_,h=>h.elim
theorem RZ{H:Nat}{X:List Nat}{b:Nat}{ty:TypeId}{om:List (Value×List Nat)}{os':List Own}{w1:World}{E':Env}{t:Bool}(hbb:b∈E.M)
 (hX:∀x∈X,x∉E.M∧(t=true→E.nw x)) (hH:∀x∈E.M,x<H) (hn:∀x,H≤x→E.nw x) (hM:∀b,b∈E'.M↔b∈E.M∨b∈om.flatMap fun q=>q.1.ownBlock.toList) (hnw:E'.nw=E.nw) (ho:E'.om=E.om++om) (hol:E.om.length=os.length)
 (hs:∀x,x≠b→w1.heap[x]? =w'.heap[x]?) (hz:w'.heap.size≤w1.heap.size) {x:AC} {v:Value} (hx:x.sD=true) (hv:x.ok ⟨H,om,[(b,ty)],X⟩ os' w' v):((x.fl t).shift os.length).ok E' (os++os') w1 v:=by
 cases x with
 |any=>trivial
 |raw u=>exact hv
 | sl n l=>
   obtain rfl:n=true:=hx;obtain⟨fp,h1,h2⟩:=hv;have hne:∀x∈fp,x≠b:=fun x hx e=>(h2 x hx).1 (by simp[Env.M,e])
   refine⟨fp,R.same h1 (fun x hx=>hs x (hne x hx)) hz,fun x hx=>⟨fun hm=> ?_,fun e=> ?_⟩⟩
   ·rcases(hM x).1 hm with h'|h'
    ·rcases(h2 x hx).2 rfl with h3|h3
     ·have:H≤x:=h3;have:=hH x h';omega
     ·exact(hX x h3).1 h'
    ·exact(h2 x hx).1 (by simp[Env.M];right;simpa using h')
   ·rw[hnw];rcases(h2 x hx).2 rfl with h3|h3
    ·exact hn x h3
    ·exact(hX x h3).2 e
 | own k i=>
   obtain⟨hf,o,p,h1,h2,h3,h4⟩:=hv;refine⟨hf,o,p, ?_, ?_,h3,h4⟩
   ·rw[H_ (by omega),L_];exact h1
   ·rw[ho,H_ (by omega),hol,L_];exact h2
 |osub _ _ _ _=>cases hx
 |cl _ _=>cases hx
theorem qU{H:Nat}{X:List Nat}{b:Nat}{ty:TypeId}{om:List (Value×List Nat)}{os':List Own}{w1:World}{E':Env}{t:Bool}(hbb:b∈E.M)
 (hX:∀x∈X,x∉E.M∧(t=true→E.nw x)) (hH:∀x∈E.M,x<H) (hn:∀x,H≤x→E.nw x) (hM:∀b,b∈E'.M↔b∈E.M∨b∈om.flatMap fun q=>q.1.ownBlock.toList) (hnw:E'.nw=E.nw) (ho:E'.om=E.om++om) (hol:E.om.length=os.length)
 (hs:∀x,x≠b→w1.heap[x]? =w'.heap[x]?) (hz:w'.heap.size≤w1.heap.size):∀{xs:List AC} {vs:List Value},xs.all AC.sD=true→Oks ⟨H,om,[(b,ty)],X⟩ os' w' xs vs→Oks E' (os++os') w1 ((xs.map (AC.fl t)).map (AC.shift os.length)) vs
 | [],[],_,_=>trivial
 | x::xs,v::vs,hx,hv=>by
   simp only[y_,c_]at hx;exact⟨RZ hbb hX hH hn hM hnw ho hol hs hz hx.1 hv.1,qU hbb hX hH hn hM hnw ho hol hs hz hx.2 hv.2⟩
 | [],_::_,_,h=>h.elim
 |_::_,[],_,h=>h.elim
theorem H8{H:Nat}{X:List Nat}{b:Nat}{ty:TypeId}{om:List (Value×List Nat)}{os':List Own}{w1:World}{E':Env}{t:Bool}(hbb:b∈E.M)
 (hX:∀x∈X,x∉E.M∧(t=true→E.nw x)) (hH:∀x∈E.M,x<H) (hn:∀x,H≤x→E.nw x) (hM:∀b,b∈E'.M↔b∈E.M∨b∈om.flatMap fun q=>q.1.ownBlock.toList) (hnw:E'.nw=E.nw) (ho:E'.om=E.om++om) (hol:E.om.length=os.length)
 (hs:∀x,x≠b→w1.heap[x]? =w'.heap[x]?) (hz:w'.heap.size≤w1.heap.size) {r:AV} {v:Value} (hr:r.sD=true) (hv:r.ok ⟨H,om,[(b,ty)],X⟩ os' w' v):((r.fl t).shift os.length).ok E' (os++os') w1 v:=by
 have key:∀{g:Bool} {xs:List AC} {v:Value},xs.all AC.sD=true→Gok ⟨H,om,[(b,ty)],X⟩ os' w' g xs v→Gok E' (os++os') w1 g ((xs.map (AC.fl t)).map (AC.shift os.length)) v:=by
  intro g xs v hx hv;cases g with
  |true=>obtain⟨vs,h1,h2⟩:=hv;exact⟨vs,h1,qU hbb hX hH hn hM hnw ho hol hs hz hx h2⟩
  |false=>exact qU hbb hX hH hn hM hnw ho hol hs hz hx (show Oks _ _ _ xs [v] from hv)
 cases r with
 |any=>trivial
 |c g xs=>exact key hr hv
 | tup ys=>
   obtain⟨vs,h1,h2⟩:=hv;refine⟨vs,h1, ?_⟩;clear h1;have hr':(ys.all fun y=>y.2.all AC.sD)=true:=hr;clear hr
   induction ys generalizing vs with
   | nil=>cases vs with
     |nil=>trivial
     |cons v vs=>exact h2.elim
   | cons y ys ih=>cases vs with
     |nil=>exact h2.elim
     | cons v vs=>
       simp only[y_,c_]at hr';exact⟨key hr'.1 h2.1,ih vs h2.2 hr'.2⟩
 |ptr _=>cases hr
 |bptr _ _=>cases hr
 |eptr _ _ _ _=>cases hr
theorem QC{x:AC}(h:x.cur=true):x.sD=true:=by cases x<;>simp_all [AC.cur,AC.sD]
theorem xB :∀{xs:List AC},xs.all AC.cur=true→xs.all AC.sD=true
 | [],_=>rfl
 | x::xs,h=>by
   simp only[y_,c_]at h⊢;exact⟨QC h.1,xB h.2⟩
theorem H7{t:Bool}{n:Nat}{x:AC}(h:x.cur=true):(x.fl t).shift n=x.fl t:=by cases x<;>simp_all [AC.cur,AC.fl,AC.shift]
theorem pX{t:Bool}{n:Nat}:∀{xs:List AC},xs.all AC.cur=true→(xs.map (AC.fl t)).map (AC.shift n)=xs.map (AC.fl t)
 | [],_=>rfl
 | x::xs,h=>by
   simp only[y_,c_]at h;simp only[E_];rw[H7 h.1,pX h.2]
theorem yg{H:Nat}{w' w1:World}{om:List (Value×List Nat)}{os':List Own}(h:oL H w' om os')(hs:∀x,H≤x→w1.heap[x]? =w'.heap[x]?)(hz:w'.heap.size≤w1.heap.size):oL H w1 om os':=by
 obtain⟨h1,h2,h3,h4,h5⟩:=h;refine⟨h1,fun k o p g1 g2=> ?_,h3,h4,fun k o p g1 g2 g3 b hb z=> ?_⟩
 ·obtain⟨cs,q1,q2,q3,q4⟩:=h2 k o p g1 g2;exact⟨cs,q1.same fun g hg=>hs g (q1.lt g hg).1,q2.same (fun b hb=>hs b (q4 b hb).1) hz,q3,q4⟩
 ·obtain⟨cs,q1,q2,q3,q4⟩:=h2 k o p g1 g2;rw[World.frozen?_of_block (w:=w') (hs b (q4 b hb).1)];exact h5 k o p g1 g2 g3 b hb z
theorem qp.toE(t:Bool){f:Nat}{ds:List D}{ys:List AV}{c c0:List AC}{kc:Nat}{post:AV→List Own→List AC→Prop}(h:qp P f ds c post)(hk:bs[kc]? =some c0)(hc0:c0.all (AC.cin t)=true)(hc:c0.map (AC.fl true)=c)(ha:aO os ys ds):
 kK P f (.bptr kc 0::ys) os bs (fun r2 os2 bs2=>∃r os' c',post r os' c'∧r2=(r.fl t).shift os.length∧os2=os++os'∧bs2=bs.set kc (c'.map (AC.fl t))):=by
 subst hc;intro B Xs G w0 fr E a w vs hR hv;cases vs with
 |nil=>exact hv.elim
 |cons pv vs=>
 obtain⟨⟨p,hp,rfl⟩,hv⟩:=hv;obtain⟨b,ty⟩:=p;have hpM:b∈E.M:=gV.2 (a_ ⟨kc,_,hp,rfl⟩);obtain⟨hBb,us,hrow,hok⟩:=hR.box kc c0 (b,ty) hk hp;simp only at hBb hrow;have hbH:b<w.heap.size:=hrow.lt;obtain⟨X,hX,hcu⟩:=Jz (H:=w.heap.size) (p:=(b,ty)) t hpM hc0 hok;have hT:BelowT b w w:=⟨Below.refl _ _,fun w' hb'=>hR.below.tab w' (hb'.mono hBb)⟩
 refine(h w b ty us vs X hT (fun x hx=>⟨fun e=>(hX x hx).1 (e▸hpM),(hX x hx).2.1⟩) hrow hcu (Ij hR hp ha hv)).mono ?_;rintro e w' ⟨v,om,r,os',c',us',hpost,hr,hc',rfl,ho,hrok,hrow',hcok,hbel,hsame⟩
 
 obtain⟨w1,e1,e2⟩:∃w1:World,w1={w' with heap:=w'.heap.setIfInBounds b (.cells us.toArray ty (0,0))}∧True:=⟨_,rfl,trivial⟩
 have hsz:w1.heap.size=w'.heap.size:=by rw[e1];simp
 have hother:∀x,x≠b→w1.heap[x]? =w'.heap[x]? :=fun x hx=>by rw[e1];simp only;rw[Array.getElem?_setIfInBounds_ne (Ne.symm hx)]
 have hself:w1.heap[b]? =some (.cells us.toArray ty (0,0)):=by
  rw[e1];exact Array.getElem?_setIfInBounds_self_of_lt (hrow'.lt)
 have hB1:Below w.heap.size w w1:=by
  refine⟨by rw[e1];exact hbel.os,by rw[e1];exact hbel.tape,by rw[e1];exact hbel.output,by rw[hsz];exact hbel.size,fun x hx=> ?_⟩;by_cases e:x=b
  ·subst e;exact hself.trans hrow.symm
  ·rw[hother x e];exact hsame x hx e
 have ho1:oL w.heap.size w1 om os':=yg ho (fun x hx=>hother x (by omega)) (a_j hsz.symm);have hA:=hR.here;have hH:∀x∈E.M,x<w.heap.size:=fun x hx=>(uh hR hx).2
 have hn:∀x,w.heap.size≤x→E.nw x:=fun x hx=>hR.qx (Nat.le_trans hR.base hx)
 have hol:E.om.length=os.length:=hR.olen;have hB:=hA.vU (x:= .any) (u:=undef) hB1 ho1 none (fun _ _ _ _=>trivial);have hM2:∀x,x∈({E with om:=E.om++om}:Env).M↔x∈E.M∨x∈om.flatMap fun q=>q.1.ownBlock.toList:=fun x=>lM E om
 have hsz':w'.heap.size=w1.heap.size:=hsz.symm;have hC:=hB.IZ (k:=kc) (p:=(b,ty)) (w':=w') (ys:=c'.map (AC.fl t)) (us:=us') hk hp
  (by have:=qU (os:=os) (w1:=w1) (E':={E with om:=E.om++om}) (t:=t) hpM (fun x hx=>⟨(hX x hx).1,(hX x hx).2.2⟩) hH hn hM2 rfl rfl hol hother (a_j hsz') (xB hc') hcok
      rwa[pX hc']at this) hsz' (by rw[e1];exact⟨rfl,rfl,rfl⟩) (fun x hx=>(hother x hx).symm) hrow' none (x:= .any) (v:=undef) trivial
 refine⟨v,_,_,_,_,⟨r,os',c',hpost,rfl,rfl,rfl⟩,rfl,hC, ?_⟩;exact H8 (w1:=w') hpM (fun x hx=>⟨(hX x hx).1,(hX x hx).2.2⟩) hH hn hM2 rfl rfl hol (fun _ _=>rfl) (j_ _) hr hrok
end
def qH(kc:Nat)(oc:Option (List AC))(bs:List (List AC)):List (List AC):=match oc with|some c=>bs.set kc c|none=>bs
def St.nput(st:St)(d:Option Nat)(kc:Nat)(r:AV)(os':List Own)(oc:Option (List AC)):St:=St.put ⟨st.fr,st.owns++os',qH kc oc st.boxes⟩ d r
def AV.noB :AV→Bool
 | .bptr _ _=>false
 |_=>true
theorem zL{kc:Nat}{oc:Option (List AC)}{bs:List (List AC)}:(qH kc oc bs).length=bs.length:=by cases oc<;>simp[qH]
theorem Fz{kc:Nat}{oc:Option (List AC)}{bs:List (List AC)}{k:Nat}(h:k≠kc):(qH kc oc bs)[k]? =bs[k]? :=by
 cases oc with
 |none=>rfl
 |some c=>simp only[qH];rw[k_ (Ne.symm h)]
theorem NZ{kc:Nat}{oc:Option (List AC)}{bs t:List (List AC)}(h:kc<bs.length∨oc=none):qH kc oc (bs++t)=qH kc oc bs++t:=by
 cases oc with
 |none=>rfl
 | some c=>
   simp only[qH];rcases h with h|h
   ·rw[List.set_append_left _ _ h]
   ·cases h
inductive NC (P:Program) (kc:Nat) (f:Nat) (avs:List AV) (os:List Own) (bs:List (List AC)):(AV→List Own→Option (List AC)→Prop)→Prop
 |cur (t:Bool) {ds:List D} {ys:List AV} {c c0:List AC} {pst:AV→List Own→List AC→Prop}:qp P f ds c pst→avs= .bptr kc 0::ys→bs[kc]? =some c0→c0.all (AC.cin t)=true→c0.map (AC.fl true)=c→aO os ys ds→
  NC P kc f avs os bs (fun r os' oc=>∃r0 c',pst r0 os' c'∧r0.sD=true∧r=(r0.fl t).shift os.length∧oc=some (c'.map (AC.fl t)))
 |pure {ds:List D} {pst:AV→List Own→Prop}:jO P f ds pst→aO os avs ds→NC P kc f avs os bs (fun r os' oc=>∃r0,pst r0 os'∧r0.out=true∧r=r0.shift os.length∧oc=none)
 |gen {pst:AV→Prop}:(∀bs':List (List AC),kK P f avs os bs' (fun r os2 bs2=>pst r∧os2=os∧bs2=bs'))→(∀r,pst r→r.noB=true)→NC P kc f avs os bs (fun r os' oc=>pst r∧os'= []∧oc=none)
theorem MP{r:AV}{t:Bool}{n:Nat}(h:r.sD=true):((r.fl t).shift n).noB=true:=by cases r<;>simp_all [AV.sD,AV.fl,AV.shift,AV.noB]
theorem RJ{r:AV}{n:Nat}(h:r.out=true):(r.shift n).noB=true:=by cases r<;>simp_all [AV.out,AV.shift,AV.noB]
theorem qp.Uf{P:Program}{f:Nat}{ds:List D}{c:List AC}{p:AV→List Own→List AC→Prop}(h:qp P f ds c p):qp P f ds c (fun r os' c'=>p r os' c'∧r.sD=true):=by
 intro w b ty us vs X h1 h2 h3 h4 h5;refine(h w b ty us vs X h1 h2 h3 h4 h5).mono ?_;rintro e w' ⟨v,om,r,os',c',us',k1,k2,k3⟩;exact⟨v,om,r,os',c',us',⟨k1,k2⟩,k2,k3⟩
theorem jO.Uf{P:Program}{f:Nat}{ds:List D}{p:AV→List Own→Prop}(h:jO P f ds p):jO P f ds (fun r os'=>p r os'∧r.out=true):=by
 intro w vs h1 h2;refine(h w vs h1 h2).mono ?_;rintro e w' ⟨r,os',k1,k2,k3⟩;exact⟨r,os',⟨k1,k2⟩,k2,k3⟩
theorem NC.toE{P:Program}{kc f:Nat}{avs:List AV}{os:List Own}{bs:List (List AC)}{post:AV→List Own→Option (List AC)→Prop}(h:NC P kc f avs os bs post):
 kK P f avs os bs (fun r os2 bs2=>∃os' oc,post r os' oc∧os2=os++os'∧bs2=qH kc oc bs):=by
 cases h with
 | cur t hD he hk hc0 hc ha=>
   subst he;refine(hD.Uf.toE t hk hc0 hc ha).mono ?_;rintro r os2 bs2 ⟨r0,os',c',⟨h1,h1'⟩,h2,h3,h4⟩;exact⟨os',some (c'.map (AC.fl t)),⟨r0,c',h1,h1',h2,rfl⟩,h3,h4⟩
 | pure hD ha=>
   refine(hD.Uf.toE ha).mono ?_;rintro r os2 bs2 ⟨r0,os',⟨h1,h1'⟩,h2,h3,h4⟩;exact⟨os',none,⟨r0,h1,h1',h2,rfl⟩,h3,h4⟩
 | gen hD hn=>
   refine(hD bs).mono ?_;rintro r os2 bs2 ⟨h1,rfl,rfl⟩;exact⟨[],none,⟨h1,rfl,rfl⟩,by simp,rfl⟩
theorem NC.noB{P:Program}{kc f:Nat}{avs:List AV}{os:List Own}{bs:List (List AC)}{post:AV→List Own→Option (List AC)→Prop}(h:NC P kc f avs os bs post){r:AV}{os':List Own}{oc:Option (List AC)}(hp:post r os' oc):r.noB=true:=by
 cases h with
 | cur t hD he hk hc0 hc ha=>
   obtain⟨r0,c',h1,h2,rfl,_⟩:=hp;exact MP h2
 | pure hD ha=>
   obtain⟨r0,h1,h2,rfl,_⟩:=hp;exact RJ h2
 |gen hD hn=>exact hn r hp.1
theorem NC.back{P:Program}{kc f:Nat}{avs:List AV}{os:List Own}{bs t:List (List AC)}{post:AV→List Own→Option (List AC)→Prop}(h:NC P kc f avs os (bs++t) post)(hw:∀ys,avs= .bptr kc 0::ys→kc<bs.length):
 NC P kc f avs os bs post∧∀r os' oc,post r os' oc→kc<bs.length∨oc=none:=by
 cases h with
 | cur t hD he hk hc0 hc ha=>
   have hlt:=hw _ he;rw[u_ hlt]at hk;exact⟨.cur t hD he hk hc0 hc ha,fun r os' oc _=>a_ hlt⟩
 |pure hD ha=>exact⟨.pure hD ha,fun r os' oc hp=>b_ (by obtain⟨_,_,_,_,h⟩:=hp;exact h)⟩
 |gen hD hn=>exact⟨.gen hD hn,fun r os' oc hp=>b_ hp.2.2⟩
def DR(P:Program)(kc:Nat)(m:Bool)(o:IOp)(st:St)(post:AV→List Own→Option (List AC)→Prop):Prop:=
 gdA st o.gd=some true∧∃f xs,o.i= .call f xs∧(∀r os' oc,post r os' oc→m=false→os'= [])∧(∃r os' oc,post r os' oc)∧NC P kc f (xs.map st.ev) st.owns st.boxes post
def o8(kc:Nat)(o:IOp)(ρ:Opd→AV):Prop:=∀n g x,o.i= .load n g x→∀off,ρ x≠ .bptr kc off
def I.isC :I→Bool
 | .call .. =>true
 |_=>false
def mQ :I→Option Nat
 | .load _ _ (.t x)=>some x
 | .store _ (.t x) _=>some x
 |_=>none
def zO(Ts:List Nat):Bool:=Ts.contains 1000001
def kV(Ts:List Nat)(i:I):Bool:=match i with
 | .app .. =>true
 | .apps .. =>true
 | .callv .. =>true
 | .brow own .. =>own || zO Ts
 | .mk .. =>true
 | .store _ (.t x) _=> !Ts.contains x
 | .store .. =>true
 |_=>false
def exm(Ts:List Nat)(a b:I):Bool:=match mQ a,mQ b with|some x,some y=>x !=y && Ts.contains x && Ts.contains y|_,_=>false
def kQ(a b:IOp):Bool:=
 (match a.d with|some t=> !(b.reads.contains t)|none=>true) && (match b.d with|some t=> !(a.reads.contains t)|none=>true) && (match a.d,b.d with|some t,some u=>t !=u|_,_=>true)
def IU(Ts:List Nat):Bool:=Ts.contains 1000000
def exl(Ts:List Nat)(a b:I):Bool:=match a,b with| .load _ _ (.t _),.store _ (.t y) _=>Ts.contains y| .store _ (.t y) _,.load _ _ (.t _)=>Ts.contains y|_,_=>false
def Ez(Ts:List Nat)(a b:IOp):Bool:=
 kQ a b && !kV Ts a.i && !kV Ts b.i && !(a.i.isC && b.i.isC) && !(a.i.isC && b.i.cls==5) && !(b.i.isC && a.i.cls==5) && (!yF a.i.cls b.i.cls ||(exm Ts a.i b.i && (a.i.cls !=4 && b.i.cls !=4))||(IU Ts && exl Ts a.i b.i))
def Gv(Ts:List Nat):I→Bool
 | .brow own .. =>own || zO Ts
 |_=>false
def brx(Ts:List Nat)(a b:I):Bool:=Gv Ts a && (b.cls==0 ||(zO Ts && !eff b)) && !kV Ts b && !b.isC
def Ap(Ts:List Nat)(a b:IOp):Bool:=Ez Ts a b ||(kQ a b && (brx Ts a.i b.i || brx Ts b.i a.i))
def qE(Ts:List Nat)(st:St):Prop:=∀x∈Ts,∀y∈Ts,x≠y→∀k off k' off',st.ev (.t x)= .bptr k off→st.ev (.t y)= .bptr k' off'→k≠k'
def wG(kc:Nat)(Ts:List Nat)(st:St):Prop:=qE Ts st∧(IU Ts=true→∀y∈Ts,∀k off,st.ev (.t y)= .bptr k off→k=kc)
inductive NRun (P:Program) (kc:Nat) (m:Bool) (Ts:List Nat) (is:List IOp) (K:St→Prop):List Nat→St→Prop
 |nil {st}:K st→NRun P kc m Ts is K [] st
 |det {i io l st st1}:is[i]? =some io→kV Ts io.i=false→DStep P m io st st1→o8 kc io st.ev→NRun P kc m Ts is K l st1→NRun P kc m Ts is K (i::l) st
 |call {i io l st post}:is[i]? =some io→DR P kc m io st post→(∀r os' oc,post r os' oc→NRun P kc m Ts is K l (st.nput io.d kc r os' oc))→NRun P kc m Ts is K (i::l) st
 |step {i io l st st1}:is[i]? =some io→kV Ts io.i=true→Step P io st st1→NRun P kc m Ts is K l st1→NRun P kc m Ts is K (i::l) st
section
variable{P:Program}{kc:Nat}{m:Bool}{Ts:List Nat}{is:List IOp}{K:St→Prop}
theorem EF{i:I}(h:kV Ts i=false):i.cls≠3:=by
 cases i with
 |brow own e s n g xs=>cases own<;>simp_all [kV,I.cls]
 |_=>simp_all [kV,I.cls]
theorem tN{i:I}(h:kV Ts i=false):i.isV=false:=by
 cases i<;>simp_all [kV,I.isV]
theorem iP{a b:IOp}(h:kQ a b=true):(∀t,a.d=some t→t∉b.reads)∧(∀t,b.d=some t→t∉a.reads)∧(∀t u,a.d=some t→b.d=some u→t≠u):=by
 unfold kQ at h;simp only[c_]at h;obtain⟨⟨h1,h2⟩,h3⟩:=h;refine⟨fun t ht=> ?_,fun t ht=> ?_,fun t u ht hu=> ?_⟩
 ·rw[ht]at h1;simpa using h1
 ·rw[ht]at h2;simpa using h2
 ·rw[ht,hu]at h3;simpa using h3
theorem Uz{ρ:Opd→AV}{os os2:List Own}{bs bs2 bs':List (List AC)}{i:I}{r:AV}(h:Res P ρ os bs i r os2 bs2)(hc:i.cls=2)(hb:∀k,k≠kc→bs'[k]? =bs[k]?)(hn:∀n g x,i= .load n g x→∀off,ρ x≠ .bptr kc off):Res P ρ os bs' i r os bs':=by
 cases h<;>first
  |(simp[I.cls]at hc;done)
  |exact .loadP ‹_› ‹_›
  |exact .loadE ‹_› ‹_› ‹_› ‹_› ‹_›
  |skip
 next n g x xs k off hx hk hle=>
  have hne:k≠kc:=fun e=>hn n g x rfl off (e▸hx)
  exact .loadB hx (by rw[hb k hne];exact hk) hle
theorem PD{a b:Option Int}:a.map some=b.map some↔a=b:=by cases a<;>cases b<;>simp
theorem EM{a:IOp}{act:Bool}{ρ:Opd→AV}{os os2 os':List Own}{bs bs2 bs':List (List AC)}{r:AV}(h:Eff P m a act ρ os bs r os2 bs2)(h3:a.i.cls≠3)(h5:a.i.cls≠5)(ho:m=false→os'=os)(hl:bs'.length=bs.length)(hb:∀k,k≠kc→bs'[k]? =bs[k]?)(hn:o8 kc a ρ):
 os2=os∧∃t,bs2=bs++t∧Eff P m a act ρ os' bs' r os' (bs'++t):=by
 rcases h with⟨rfl,ea,hr⟩|⟨rfl,ea,rfl,rfl,hr⟩|⟨rfl,rfl,rfl,rfl⟩
 ·rcases rU ea with c|c|c
  ·exact absurd c h3
  ·revert hr
   generalize hi:a.i=i at*;intro hr;cases hr<;>first
    |(simp[I.cls]at c;done)
    |skip
   ·refine⟨rfl,_,rfl,a_ ⟨rfl,by rw[hi];exact ea, ?_⟩⟩;rw[hi,← hl];exact .alloc
   ·refine⟨rfl,_,rfl,a_ ⟨rfl,by rw[hi];exact ea, ?_⟩⟩;rw[hi,← hl];exact .box ‹_› ‹_›
  ·exact absurd c h5
 ·refine⟨rfl,[],by simp,b_ (a_ ⟨rfl,ea,rfl,by simp, ?_⟩)⟩;have hmo:(if m=true then([]:List Own)else os')=if m=true then []else os2:=by
   cases m with
   |true=>rfl
   |false=>simp[ho rfl]
  rw[hmo];rcases oU ea with c|c|c
  ·exact(ER hr c).2.2 _ _
  ·exact(ND hr c rfl).2 _
  ·exact Uz hr c hb (fun n g x hi off=>hn n g x hi off)
 ·exact⟨rfl,[],by simp,b_ (b_ ⟨rfl,rfl,rfl,by simp⟩)⟩
theorem J6{ρ:Opd→AV}{os o1 o2:List Own}{bs b1 b2:List (List AC)}{i:I}{r r2:AV}(h:Res P ρ os bs i r o1 b1)(h2:Res P ρ os bs i r2 o2 b2)(hc:i.isC=false)(h3:i.cls≠3)(h5:i.cls≠5):r2=r∧b2=b1:=by
 cases h<;>first
  |(simp[I.cls]at h3;done)
  |(simp[I.cls]at h5;done)
  |(simp[I.isC]at hc;done)
  |(cases h2<;>simp_all [PD]<;>simp_all;done)
  |(cases h2<;>simp_all [PD];done)
theorem RX{a:IOp}{act:Bool}{ρ:Opd→AV}{os o1 o2:List Own}{bs b1 b2:List (List AC)}{r r2:AV}(h:Eff P m a act ρ os bs r o1 b1)(h2:Eff P m a act ρ os bs r2 o2 b2)(hc:a.i.isC=false)(h3:a.i.cls≠3)(h5:a.i.cls≠5):r2=r∧b2=b1:=by
 rcases h with⟨rfl,ea,hr⟩|⟨rfl,ea,rfl,rfl,hr⟩|⟨rfl,rfl,rfl,rfl⟩
 ·rcases h2 with⟨_,ea2,hr2⟩|⟨_,ea2,_⟩|⟨h,_⟩
  ·exact J6 hr hr2 hc h3 h5
  ·rw[ea]at ea2;cases ea2
  ·cases h
 ·rcases h2 with⟨_,ea2,hr2⟩|⟨_,ea2,rfl,rfl,hr2⟩|⟨h,_⟩
  ·rw[ea]at ea2;cases ea2
  ·exact⟨(J6 hr hr2 hc h3 h5).1,rfl⟩
  ·cases h
 ·rcases h2 with⟨h,_⟩|⟨h,_⟩|⟨_,rfl,_,rfl⟩
  ·cases h
  ·cases h
  ·exact⟨rfl,rfl⟩
end
section
variable{P:Program}{kc:Nat}{m:Bool}{Ts:List Nat}{is:List IOp}{K:St→Prop}
theorem Un{ρ:Opd→AV}{os os':List Own}{bs bs':List (List AC)}{i:I}{r:AV}{x:Nat}(h:Res P ρ os bs i r os' bs')(ha:mQ i=some x):os'=os∧
 ((bs'=bs∧∀bs2,(∀k off,ρ (.t x)= .bptr k off→bs2[k]? =bs[k]?)→Res P ρ os bs2 i r os bs2)∨∃k off v,ρ (.t x)= .bptr k off∧bs'=bs.set k v∧∀bs2,bs2[k]? =bs[k]? →Res P ρ os bs2 i r os (bs2.set k v)):=by
 cases h<;>first
  |(simp[mQ]at ha;done)
  |skip
 ·next n g y xs hx hl=>
  cases y with
  |k v=>simp[mQ]at ha
  |t y=>simp only[mQ,x_]at ha;subst ha;exact⟨rfl,a_ ⟨rfl,fun bs2 _=> .loadP hx hl⟩⟩
 ·next n g y xs k off hx hk hl=>
  cases y with
  |k v=>simp[mQ]at ha
  |t y=>simp only[mQ,x_]at ha;subst ha;exact⟨rfl,a_ ⟨rfl,fun bs2 hb=> .loadB hx (by rw[hb k off hx];exact hk) hl⟩⟩
 ·next n g y xs k i j off o hx h1 h2 h3 h4=>
  cases y with
  |k v=>simp[mQ]at ha
  |t y=>simp only[mQ,x_]at ha;subst ha;exact⟨rfl,a_ ⟨rfl,fun bs2 _=> .loadE hx h1 h2 h3 h4⟩⟩
 ·next n y z k off g ys xs hx hy h1 h2 hk h3=>
  cases y with
  |k v=>simp[mQ]at ha
  |t y=>simp only[mQ,x_]at ha;subst ha;exact⟨rfl,b_ ⟨k,off,_,hx,rfl,fun bs2 hb=> .store hx hy h1 h2 (by rw[hb];exact hk) h3⟩⟩
theorem Uu{a:IOp}{act:Bool}{ρ:Opd→AV}{os os':List Own}{bs bs':List (List AC)}{r:AV}{x:Nat}(h:Eff P m a act ρ os bs r os' bs')(ha:mQ a.i=some x):os'=os∧
 ((bs'=bs∧∀bs2,(∀k off,ρ (.t x)= .bptr k off→bs2[k]? =bs[k]?)→Eff P m a act ρ os bs2 r os bs2)∨∃k off v,ρ (.t x)= .bptr k off∧bs'=bs.set k v∧∀bs2,bs2[k]? =bs[k]? →Eff P m a act ρ os bs2 r os (bs2.set k v)):=by
 rcases h with⟨rfl,ea,hr⟩|⟨rfl,ea,rfl,rfl,hr⟩|⟨rfl,rfl,rfl,rfl⟩
 ·obtain⟨rfl,h|⟨k,off,v,h1,rfl,h3⟩⟩:=Un hr ha
  ·exact⟨rfl,a_ ⟨h.1,fun bs2 hb=>a_ ⟨rfl,ea,h.2 bs2 hb⟩⟩⟩
  ·exact⟨rfl,b_ ⟨k,off,v,h1,rfl,fun bs2 hb=>a_ ⟨rfl,ea,h3 bs2 hb⟩⟩⟩
 ·obtain⟨_,h|⟨k,off,v,h1,h2,h3⟩⟩:=Un hr ha
  ·exact⟨rfl,a_ ⟨rfl,fun bs2 hb=>b_ (a_ ⟨rfl,ea,rfl,rfl,h.2 bs2 hb⟩)⟩⟩
  ·exact⟨rfl,a_ ⟨rfl,fun bs2 hb=>b_ (a_ ⟨rfl,ea,rfl,rfl,by
    have h4:=h3 bs2 (hb k off h1);have h5:=Kv h4 ea;rw[h5]at h4;exact h4⟩)⟩⟩
 ·exact⟨rfl,a_ ⟨rfl,fun bs2 _=>b_ (b_ ⟨rfl,rfl,rfl,rfl⟩)⟩⟩
theorem xw{a b:IOp}{xa xb:Bool}{ρa ρb:Opd→AV}{os os1 os2:List Own}{bs bs1 bs2:List (List AC)}{ra rb:AV}{x y:Nat}
 (ha:Eff P m a xa ρa os bs ra os1 bs1) (hb:Eff P m b xb ρb os1 bs1 rb os2 bs2) (hx:mQ a.i=some x) (hy:mQ b.i=some y) (hd:∀k off k' off',ρa (.t x)= .bptr k off→ρb (.t y)= .bptr k' off'→k≠k'):
 ∃os1' bs1',Eff P m b xb ρb os bs rb os1' bs1'∧Eff P m a xa ρa os1' bs1' ra os2 bs2:=by
 obtain⟨rfl,h1⟩:=Uu ha hx;obtain⟨rfl,h2⟩:=Uu hb hy;rcases h1 with⟨rfl,h1⟩|⟨k,off,v,e1,rfl,h1⟩
 ·rcases h2 with⟨rfl,h2⟩|⟨k',off',v',e2,rfl,h2⟩
  ·exact⟨_,_,hb,ha⟩
  ·exact⟨_,_,hb,h1 _ (fun k off hk=>by rw[k_ (Ne.symm (hd k off k' off' hk e2))])⟩
 ·rcases h2 with⟨rfl,h2⟩|⟨k',off',v',e2,rfl,h2⟩
  ·exact⟨_,_,h2 bs (fun k' off' hk=>by rw[k_ (hd k off k' off' e1 hk)]),h1 _ rfl⟩
  ·have hne:=hd k off k' off' e1 e2;refine⟨_,_,h2 bs (by rw[k_ hne]), ?_⟩;rw[P_ _ _ hne];exact h1 _ (by rw[k_ (Ne.symm hne)])
theorem TY{a b:IOp}{st st1 st2:St}(ha:DStep P m a st st1)(hb:DStep P m b st1 st2)(ht:kQ a b=true)(va:a.i.isV=false)(vb:b.i.isV=false)
 (hs:∀{xa xb:Bool} {ra rb:AV} {os1 os2:List Own} {bs1 bs2:List (List AC)},Eff P m a xa st.ev st.owns st.boxes ra os1 bs1→Eff P m b xb st.ev os1 bs1 rb os2 bs2→∃os1' bs1',Eff P m b xb st.ev st.owns st.boxes rb os1' bs1'∧Eff P m a xa st.ev os1' bs1' ra os2 bs2):
 ∃st1',DStep P m b st st1'∧DStep P m a st1' st2:=by
 obtain⟨i1,i2,i3⟩:=iP ht;obtain⟨xa,ra,os1,bs1,ga,ea,rfl⟩:=je ha va;obtain⟨xb,rb,os2,bs2,gb,eb,rfl⟩:=je hb vb;rw[mO i1]at gb;have hag:jh b.i.reads (St.put ⟨st.fr,os1,bs1⟩ a.d ra).ev st.ev:=by
  have:=dV (st:=st) (os:=os1) (bs:=bs1) (d:=a.d) (x:=ra) (iL i1);exact⟨fun v=>rfl,fun n hn=>(this.2 n hn).symm⟩
 have e1:(St.put ⟨st.fr,os1,bs1⟩ a.d ra).owns=os1:=aA _ _ _;have e2:(St.put ⟨st.fr,os1,bs1⟩ a.d ra).boxes=bs1:=aU _ _ _;rw[e1,e2]at eb;obtain⟨os1',bs1',h1,h2⟩:=hs ea (eb.congr hag);refine⟨_,kP gb h1, ?_⟩;have h3:=h2.congr (dV (st:=st) (os:=os1') (bs:=bs1') (d:=b.d) (x:=rb) (iL i2));have e3:(St.put ⟨st.fr,os1',bs1'⟩ b.d rb).owns=os1':=aA _ _ _;have e4:(St.put ⟨st.fr,os1',bs1'⟩ b.d rb).boxes=bs1':=aU _ _ _;have h4:=kP (st:=St.put ⟨st.fr,os1',bs1'⟩ b.d rb) (P:=P) (m:=m) (o:=a) (act:=xa) (r:=ra) (os':=os2) (bs':=bs2) (by rw[mO i2];exact ga) (by rw[e3,e4];exact h3);rw[Em (fun t u ht hu=>(i3 u t hu ht).symm)]at h4;have e5:St.put ⟨(St.put ⟨st.fr,os1',bs1'⟩ a.d ra).fr,os2,bs2⟩ b.d rb=St.put ⟨(St.put ⟨st.fr,os1,bs1⟩ a.d ra).fr,os2,bs2⟩ b.d rb:=by
  cases a.d<;>rfl
 rwa[e5]at h4
theorem jI{l:List Nat}{ρ ρ':Opd→AV}(h:jh l ρ ρ'):jh l ρ' ρ:=⟨fun v=>(h.1 v).symm,fun n hn=>(h.2 n hn).symm⟩
theorem FZ{fr:List AV}{os0 os1 os2:List Own}{bs0 bs1 bs2:List (List AC)}{d e:Option Nat}{x y:AV}(h:∀t u,d=some t→e=some u→t≠u):
 St.put ⟨(St.put ⟨fr,os0,bs0⟩ d x).fr,os2,bs2⟩ e y=St.put ⟨(St.put ⟨fr,os1,bs1⟩ e y).fr,os2,bs2⟩ d x:=by
 cases d with
 |none=>cases e<;>rfl
 | some t=>cases e with
   |none=>rfl
   | some u=>
     simp only[St.put];rw[P_ _ _ (h t u rfl rfl)]
theorem Ak{i:I}(h:Gv Ts i=true):kV Ts i=true:=by
 cases i with
 |brow own e s n g xs=>exact h
 |_=>cases h
def Q5(P:Program)(o:IOp)(act:Bool)(ρ:Opd→AV)(os:List Own)(bs:List (List AC))(r:AV)(os':List Own):Prop:=
 (act=true∧Res P ρ os bs o.i r os' bs)∨(act=false∧r= .c false [.raw undef]∧os'=os)∨
  ∃own e s n g xs ds,act=true∧o.i= .brow own e s n g xs∧gG os (xs.map ρ)=some ds∧(∀d∈ds,d.sz=s)∧ds.length=n∧((xs.map ρ).flatMap lvK).Nodup∧(∀k∈(xs.map ρ).flatMap lvK,aW os k)∧
   r= .c false [.own os.length 0]∧os'=aV ((xs.map ρ).flatMap lvK) os++ [⟨ds,e,s,0,⟨true,true⟩⟩]
theorem oN{b:IOp}{st st1:St}(h:Step P b st st1)(hb:Gv Ts b.i=true):∃act r os',gdA st b.gd=some act∧Q5 P b act st.ev st.owns st.boxes r os'∧st1=St.put ⟨st.fr,os',st.boxes⟩ b.d r∧r.noB=true:=by
 cases h with
 | @run r os' bs' hg hr=>
   have:bs'=st.boxes∧r.noB=true:=by
    generalize b.i=i at hb hr;cases hr<;>first
     |(cases hb;done)
     |exact⟨rfl,rfl⟩
   obtain⟨rfl,hn⟩:=this;exact⟨true,r,os',hg,a_ ⟨rfl,hr⟩,rfl,hn⟩
 |skip hg=>exact⟨false,_,_,hg,b_ (a_ ⟨rfl,rfl,rfl⟩),rfl,rfl⟩
 |brl hg hi h1 h2 h3 h4 h5=>exact⟨true,_,_,hg,b_ (b_ ⟨_,_,_,_,_,_,_,rfl,hi,h1,h2,h3,h4,h5,rfl,rfl⟩),rfl,rfl⟩
 |storeE _ hi=>rw[hi]at hb;cases hb
 |storeF _ hi=>rw[hi]at hb;cases hb
 |storeL _ hi=>rw[hi]at hb;cases hb
 |callS _ hi=>rw[hi]at hb;cases hb
 |lslR _ hi=>rw[hi]at hb;cases hb
 |appL _ hi=>rw[hi]at hb;cases hb
 |appLN _ hi=>rw[hi]at hb;cases hb
 |callV _ hi=>rw[hi]at hb;cases hb
theorem DI{b:IOp}{st:St}{act:Bool}{r:AV}{os':List Own}(hg:gdA st b.gd=some act)(h:Q5 P b act st.ev st.owns st.boxes r os'):Step P b st (St.put ⟨st.fr,os',st.boxes⟩ b.d r):=by
 rcases h with⟨rfl,hr⟩|⟨rfl,rfl,rfl⟩|⟨own,e,s,n,g,xs,ds,rfl,hi,h1,h2,h3,h4,h5,rfl,rfl⟩
 ·exact .run hg hr
 ·exact .skip hg
 ·exact .brl hg hi h1 h2 h3 h4 h5
theorem Q5.congr{b:IOp}{act:Bool}{ρ ρ':Opd→AV}{os os':List Own}{bs:List (List AC)}{r:AV}(h:Q5 P b act ρ os bs r os')(ha:jh b.i.reads ρ ρ'):Q5 P b act ρ' os bs r os':=by
 rcases h with⟨h1,hr⟩|h|⟨own,e,s,n,g,xs,ds,h0,hi,h1,h2,h3,h4,h5,h6,h7⟩
 ·exact a_ ⟨h1,hr.congr ha⟩
 ·exact b_ (a_ h)
 ·have hm:xs.map ρ=xs.map ρ':=ha.map (fun n hn=>by rw[hi];exact hn);rw[hm]at h1 h4 h5 h7;exact b_ (b_ ⟨own,e,s,n,g,xs,ds,h0,hi,h1,h2,h3,h4,h5,h6,h7⟩)
theorem UW{a:IOp}{act:Bool}{ρ:Opd→AV}{os os2:List Own}{bs bs2:List (List AC)}{r:AV}(h:Eff P m a act ρ os bs r os2 bs2)(hc:a.i.cls=0):os2=os∧bs2=bs∧∀os' bs',Eff P m a act ρ os' bs' r os' bs':=by
 rcases h with⟨rfl,ea,hr⟩|⟨rfl,ea,rfl,rfl,hr⟩|⟨rfl,rfl,rfl,rfl⟩
 ·rcases rU ea with c|c|c<;>(rw[hc]at c;cases c)
 ·exact⟨rfl,rfl,fun os' bs'=>b_ (a_ ⟨rfl,ea,rfl,rfl,(ER hr hc).2.2 _ _⟩)⟩
 ·exact⟨rfl,rfl,fun os' bs'=>b_ (b_ ⟨rfl,rfl,rfl,rfl⟩)⟩
theorem Uw{a:IOp}{act:Bool}{ρ:Opd→AV}{os os2:List Own}{bs bs2:List (List AC)}{r:AV}(h:Eff P m a act ρ os bs r os2 bs2)(hc:a.i.cls=0∨(m=true∧eff a.i=false)):os2=os∧bs2=bs∧∀os',Eff P m a act ρ os' bs r os' bs:=by
 rcases hc with hc|⟨rfl,hc⟩
 ·obtain⟨h1,h2,h3⟩:=UW h hc;exact⟨h1,h2,fun os'=>h3 os' bs⟩
 ·rcases h with⟨rfl,ea,hr⟩|⟨rfl,ea,rfl,rfl,hr⟩|⟨rfl,rfl,rfl,rfl⟩
  ·rw[hc]at ea;cases ea
  ·exact⟨rfl,rfl,fun os'=>b_ (a_ ⟨rfl,ea,rfl,rfl,hr⟩)⟩
  ·exact⟨rfl,rfl,fun os'=>b_ (b_ ⟨rfl,rfl,rfl,rfl⟩)⟩
theorem kT{st:St}{os':List Own}{bs':List (List AC)}{d:Option Nat}{x:AV}:(St.put ⟨st.fr,os',bs'⟩ d x).owns=os'∧(St.put ⟨st.fr,os',bs'⟩ d x).boxes=bs':=⟨aA _ _ _,aU _ _ _⟩
theorem Uc{a b:IOp}{st st1 st2:St}(hb:Step P b st st1)(ha:DStep P m a st1 st2)(hbr:Gv Ts b.i=true)(hc:a.i.cls=0∨(m=true∧eff a.i=false))(hv:a.i.isV=false)(ht:kQ a b=true):∃st1',DStep P m a st st1'∧Step P b st1' st2:=by
 obtain⟨i1,i2,i3⟩:=iP ht;obtain⟨act,r,os1,hg,hB,rfl,_⟩:=oN hb hbr;obtain⟨act2,r2,os2,bs2,hg2,hE,rfl⟩:=je ha hv;rw[kT.1,kT.2]at hE;obtain⟨rfl,rfl,hF⟩:=Uw hE hc;rw[mO i2]at hg2;have hag:jh a.i.reads (St.put ⟨st.fr,os2,st.boxes⟩ b.d r).ev st.ev:=jI (dV (iL i2));refine⟨_,kP hg2 ((hF st.owns).congr hag), ?_⟩;have h4:=DI (P:=P) (b:=b) (st:=St.put ⟨st.fr,st.owns,st.boxes⟩ a.d r2) (act:=act) (r:=r) (os':=os2) (by rw[mO i1];exact hg) (by rw[kT.1,kT.2];exact hB.congr (dV (iL i1)));rw[kT.2]at h4;rw[FZ (fr:=st.fr) (os2:=os2) (bs1:=st.boxes) (fun t u h1 h2=>i3 t u h1 h2)]at h4;exact h4
theorem Ub{a b:IOp}{st st1 st2:St}(ha:DStep P m a st st1)(hb:Step P b st1 st2)(hbr:Gv Ts b.i=true)(hc:a.i.cls=0∨(m=true∧eff a.i=false))(hv:a.i.isV=false)(ht:kQ a b=true):∃st1',Step P b st st1'∧DStep P m a st1' st2:=by
 obtain⟨i1,i2,i3⟩:=iP ht;obtain⟨act2,r2,os2,bs2,hg2,hE,rfl⟩:=je ha hv;obtain⟨rfl,rfl,hF⟩:=Uw hE hc;obtain⟨act,r,os1,hg,hB,rfl,_⟩:=oN hb hbr;rw[mO i1]at hg;have hag:jh b.i.reads (St.put ⟨st.fr,st.owns,st.boxes⟩ a.d r2).ev st.ev:=jI (dV (iL i1));rw[kT.1,kT.2]at hB;refine⟨_,DI hg (hB.congr hag), ?_⟩;have h4:=kP (P:=P) (m:=m) (o:=a) (st:=St.put ⟨st.fr,os1,st.boxes⟩ b.d r) (act:=act2) (r:=r2) (os':=os1) (bs':=st.boxes) (by rw[mO i2];exact hg2) (by rw[kT.1,kT.2];exact(hF os1).congr (dV (iL i2)));rw[kT.2];rw[FZ (fr:=st.fr) (os1:=st.owns) (bs1:=st.boxes) (fun t u h1 h2=>(i3 u t h2 h1).symm)]at h4;exact h4
theorem FC{a b:IOp}(h:kQ a b=true):kQ b a=true:=by
 obtain⟨i1,i2,i3⟩:=iP h;unfold kQ;simp only[c_];refine⟨⟨?_, ?_⟩, ?_⟩
 ·cases hd:b.d with
  |none=>rfl
  |some t=>simpa using i2 t hd
 ·cases hd:a.d with
  |none=>rfl
  |some t=>simpa using i1 t hd
 ·cases hd:a.d<;>cases he:b.d<;>first|rfl|(simp;exact fun e=>i3 _ _ hd he e.symm)
theorem TF{b:IOp}{st st1:St}(h:Step P b st st1)(hb:Gv Ts b.i=true)(hw:WfB st):WfB st1:=by
 obtain⟨act,r,os',_,_,rfl,hn⟩:=oN h hb;intro n k off e;rw[kT.2];cases hd:b.d with
 |none=>rw[hd]at e;exact hw n k off e
 | some t=>
   rw[hd]at e;simp only[St.ev,St.put]at e;rw[d_,I_]at e;split at e
   ·split at e
    ·simp only[h_]at e;rw[e]at hn;cases hn
    ·cases e
   ·exact hw n k off (by simp only[St.ev];rw[d_];exact e)
theorem NC.lt{f:Nat}{avs:List AV}{os:List Own}{bs:List (List AC)}{post:AV→List Own→Option (List AC)→Prop}(h:NC P kc f avs os bs post):∀r os' oc,post r os' oc→kc<bs.length∨oc=none:=by
 cases h with
 |cur t hD he hk hc0 hc ha=>exact fun r os' oc _=>a_ (v_.1 hk).1
 |pure hD ha=>exact fun r os' oc hp=>b_ (by obtain⟨_,_,_,_,h⟩:=hp;exact h)
 |gen hD hn=>exact fun r os' oc hp=>b_ hp.2.2
theorem NC.fwd{f:Nat}{avs:List AV}{os:List Own}{bs:List (List AC)}{post:AV→List Own→Option (List AC)→Prop}(h:NC P kc f avs os bs post)(t:List (List AC)):NC P kc f avs os (bs++t) post:=by
 cases h with
 |cur t' hD he hk hc0 hc ha=>exact .cur t' hD he (by rw[u_ (v_.1 hk).1];exact hk) hc0 hc ha
 |pure hD ha=>exact .pure hD ha
 |gen hD hn=>exact .gen hD hn
theorem Q8{st:St}(hw:WfB st):∀x k off,st.ev x= .bptr k off→k<st.boxes.length:=fun x k off e=>by
 cases x with
 |t n=>exact hw n k off e
 | k v=>
   simp only[St.ev]at e;unfold kav at e;split at e<;>cases e
theorem jF{a:IOp}{ρ ρ':Opd→AV}(h:o8 kc a ρ)(hag:jh a.i.reads ρ ρ'):o8 kc a ρ':=fun n g x hi off he=>h n g x hi off (by
 rw[hag.opd (x:=x) (fun t ht=>by rw[hi];exact ht)];exact he)
theorem zG{st:St}{d:Option Nat}{r:AV}{os':List Own}{oc:Option (List AC)}{l:List Nat}(h:∀t,d=some t→t∉l):jh l st.ev (st.nput d kc r os' oc).ev:=dV h
theorem Gn{st:St}{d e:Option Nat}{r x:AV}{os':List Own}{oc:Option (List AC)}{t:List (List AC)}(h:∀u v,d=some u→e=some v→u≠v)(hk:kc<st.boxes.length∨oc=none):
 St.put ⟨(st.nput d kc r os' oc).fr,st.owns++os',qH kc oc st.boxes++t⟩ e x=(St.put ⟨st.fr,st.owns,st.boxes++t⟩ e x).nput d kc r os' oc:=by
 unfold St.nput;rw[aA,aU];simp only;rw[NZ hk,Em h (st.owns++os') (qH kc oc st.boxes++t)];cases e<;>rfl
theorem HY{a:IOp}{st st2:St}{d:Option Nat}{r:AV}{os':List Own}{oc:Option (List AC)}(h:DStep P m a (st.nput d kc r os' oc) st2)(hv:a.i.isV=false)(h3:a.i.cls≠3)(h5:a.i.cls≠5)(hn:o8 kc a (st.nput d kc r os' oc).ev)
 (i1:∀t,d=some t→t∉a.reads) (hm:m=false→os'= []):∃act r2 t,gdA st a.gd=some act∧Eff P m a act st.ev st.owns st.boxes r2 st.owns (st.boxes++t)∧st2=St.put ⟨(st.nput d kc r os' oc).fr,st.owns++os',qH kc oc st.boxes++t⟩ a.d r2:=by
 obtain⟨act,r2,os2,bs2,g,e,rfl⟩:=je h hv;have g':gdA st a.gd=some act:=by rw[← g];exact(mO i1).symm
 have hag:=zG (st:=st) (kc:=kc) (r:=r) (os':=os') (oc:=oc) (iL i1);have e1:=e.congr (jI hag);have o1:(st.nput d kc r os' oc).owns=st.owns++os':=aA _ _ _;have b1:(st.nput d kc r os' oc).boxes=qH kc oc st.boxes:=aU _ _ _;rw[o1,b1]at e1;obtain⟨rfl,t,rfl,e2⟩:=EM (os':=st.owns) (bs':=st.boxes) e1 h3 h5 (fun hm'=>by rw[hm hm',a_e]) (by rw[zL]) (fun k hk=>(Fz hk).symm) (jF hn (jI hag));exact⟨act,r2,t,g',e2,rfl⟩
theorem RY{a:IOp}{st:St}{act:Bool}{r2:AV}{t:List (List AC)}(g:gdA st a.gd=some act)(h:Eff P m a act st.ev st.owns st.boxes r2 st.owns (st.boxes++t))(h3:a.i.cls≠3)(h5:a.i.cls≠5)(hn:o8 kc a st.ev){d:Option Nat}{r:AV}{os':List Own}{oc:Option (List AC)}
 (i1:∀t,d=some t→t∉a.reads) (hm:m=false→os'= []):DStep P m a (st.nput d kc r os' oc) (St.put ⟨(st.nput d kc r os' oc).fr,st.owns++os',qH kc oc st.boxes++t⟩ a.d r2):=by
 obtain⟨_,t',ht,e2⟩:=EM (os':=st.owns++os') (bs':=qH kc oc st.boxes) h h3 h5 (fun hm'=>by rw[hm hm',a_e]) (by rw[zL]) (fun k hk=>Fz hk) hn;obtain rfl:=M_ ht;have hag:=zG (st:=st) (kc:=kc) (r:=r) (os':=os') (oc:=oc) (iL i1);have o1:(st.nput d kc r os' oc).owns=st.owns++os':=aA _ _ _;have b1:(st.nput d kc r os' oc).boxes=qH kc oc st.boxes:=aU _ _ _;refine kP (act:=act) (by rw[← g];exact mO i1) ?_;rw[o1,b1];exact e2.congr hag
theorem PU{st st':St}{xs:List Opd}(h:jh (xs.flatMap Opd.tmps) st.ev st'.ev):xs.map st.ev=xs.map st'.ev:=h.map (fun n hn=>hn)
theorem TR{a b:IOp}{st st1:St}{post:AV→List Own→Option (List AC)→Prop}(ha:DStep P m a st st1)(hn:o8 kc a st.ev)(hb:DR P kc m b st1 post)(ht:kQ a b=true)(hv:a.i.isV=false)(h3:a.i.cls≠3)(h5:a.i.cls≠5)(hw:WfB st):
 DR P kc m b st post∧∀r os' oc,post r os' oc→DStep P m a (st.nput b.d kc r os' oc) (st1.nput b.d kc r os' oc)∧o8 kc a (st.nput b.d kc r os' oc).ev:=by
 obtain⟨i1,i2,i3⟩:=iP ht;obtain⟨act,r2,os2,bs2,g,e,rfl⟩:=je ha hv;obtain⟨rfl,t,rfl,_⟩:=EM (os':=st.owns) (bs':=st.boxes) e h3 h5 (fun _=>rfl) rfl (fun k _=>rfl) hn;obtain⟨gb,f,xs,hi,hm,hne,hnc⟩:=hb;have hag:jh b.i.reads (St.put ⟨st.fr,st.owns,st.boxes++t⟩ a.d r2).ev st.ev:=jI (dV (iL i1));have hxs:xs.map (St.put ⟨st.fr,st.owns,st.boxes++t⟩ a.d r2).ev=xs.map st.ev:=PU (by rw[hi]at hag;exact hag);rw[hxs,aA,aU]at hnc;simp only at hnc;have hlt:∀ys,xs.map st.ev= .bptr kc 0::ys→kc<st.boxes.length:=fun ys hy=>by
  cases xs with
  |nil=>simp at hy
  | cons x xs=>
    simp only[E_,List.cons.injEq]at hy;exact Q8 hw x kc 0 hy.1
 obtain⟨hnc',hk⟩:=hnc.back hlt;refine⟨⟨by rw[← gb];exact(mO i1).symm,f,xs,hi,hm,hne,hnc'⟩,fun r os' oc hp=>⟨?_, ?_⟩⟩
 ·rw[← Gn (fun u v hu hv=>(i3 v u hv hu).symm) (hk r os' oc hp)];exact RY g e h3 h5 hn (fun t ht=>i2 t ht) (hm r os' oc hp)
 ·exact jF hn (zG (iL i2))
theorem TQ{a j:IOp}{st:St}{post:AV→List Own→Option (List AC)→Prop}{R:St→Prop}(hj:DR P kc m j st post)(hall:∀r os' oc,post r os' oc→∃st2,DStep P m a (st.nput j.d kc r os' oc) st2∧o8 kc a (st.nput j.d kc r os' oc).ev∧R st2)
 (ht:kQ j a=true) (hv:a.i.isV=false) (hcl:a.i.isC=false) (h3:a.i.cls≠3) (h5:a.i.cls≠5):
 ∃st1,DStep P m a st st1∧o8 kc a st.ev∧DR P kc m j st1 post∧∀r os' oc,post r os' oc→R (st1.nput j.d kc r os' oc):=by
 obtain⟨i1,i2,i3⟩:=iP ht;obtain⟨gj,f,xs,hi,hm,⟨r0,os0,oc0,hp0⟩,hnc⟩:=hj;obtain⟨st2,d0,n0,R0⟩:=hall r0 os0 oc0 hp0;obtain⟨act,r2,t,g,e,rfl⟩:=HY d0 hv h3 h5 n0 i1 (hm _ _ _ hp0);have hn:o8 kc a st.ev:=jF n0 (jI (zG (iL i1)));have hag:jh j.i.reads st.ev (St.put ⟨st.fr,st.owns,st.boxes++t⟩ a.d r2).ev:=dV (iL i2);have hxs:xs.map st.ev=xs.map (St.put ⟨st.fr,st.owns,st.boxes++t⟩ a.d r2).ev:=PU (by rw[hi]at hag;exact hag);refine⟨_,kP g e,hn,⟨by rw[← gj];exact mO i2,f,xs,hi,hm,⟨r0,os0,oc0,hp0⟩, ?_⟩,fun r os' oc hp=> ?_⟩
 ·rw[← hxs,aA,aU];exact hnc.fwd t
 ·obtain⟨st3,d1,n1,R1⟩:=hall r os' oc hp;obtain⟨act',r3,t',g',e',rfl⟩:=HY d1 hv h3 h5 n1 i1 (hm _ _ _ hp);rw[g]at g';injection g' with g'
  subst g';obtain⟨rfl,hb⟩:=RX e e' hcl h3 h5;obtain rfl:=M_ hb;rw[Gn i3 (hnc.lt r os' oc hp)]at R1;exact R1
theorem NW{st:St}{d:Option Nat}{r:AV}{os':List Own}{oc:Option (List AC)}(hw:WfB st)(hr:r.noB=true):WfB (st.nput d kc r os' oc):=by
 intro n k off e;have hb:(st.nput d kc r os' oc).boxes=qH kc oc st.boxes:=aU _ _ _;rw[hb,zL];cases d with
 |none=>exact hw n k off e
 | some t=>
   simp only[St.nput,St.ev,St.put]at e;rw[d_,I_]at e;split at e
   ·split at e
    ·simp only[h_]at e;rw[e]at hr;cases hr
    ·cases e
   ·exact hw n k off (by simp only[St.ev];rw[d_];exact e)
def TG(Ts:List Nat)(is:List IOp):Bool:=is.all fun o=>match o.d with|some t=> !Ts.contains t|none=>true
theorem ny(h:TG Ts is=true){i:Nat}{o:IOp}(ho:is[i]? =some o):∀t,o.d=some t→t∉Ts:=fun t ht hm=>by
 have:=K_.1 h o (s_ ho);rw[ht]at this;simp[hm]at this
theorem Nr{st:St}{os:List Own}{bs:List (List AC)}{d:Option Nat}{x:AV}(h:qE Ts st)(hd:∀t,d=some t→t∉Ts):qE Ts (St.put ⟨st.fr,os,bs⟩ d x):=by
 intro x hx y hy hne k off k' off' h1 h2;have hag:=dV (st:=st) (os:=os) (bs:=bs) (x:= ‹AV›) (l:=Ts) hd;exact h x hx y hy hne k off k' off' (by rw[hag.2 x hx];exact h1) (by rw[hag.2 y hy];exact h2)
theorem rV{st:St}{os:List Own}{bs:List (List AC)}{d:Option Nat}{x:AV}(h:wG kc Ts st)(hd:∀t,d=some t→t∉Ts):wG kc Ts (St.put ⟨st.fr,os,bs⟩ d x):=by
 refine⟨Nr h.1 hd,fun hs y hy k off e=>h.2 hs y hy k off ?_⟩;have hag:=dV (st:=st) (os:=os) (bs:=bs) (x:=x) (l:=Ts) hd;rw[hag.2 y hy];exact e
theorem tX{o:IOp}{st st1:St}(h:wG kc Ts st)(hd:∀t,o.d=some t→t∉Ts)(hs:DStep P m o st st1)(hv:o.i.isV=false):wG kc Ts st1:=by
 obtain⟨act,r,os',bs',_,_,rfl⟩:=je hs hv;exact rV h hd
theorem Du{o:IOp}{st st1:St}(h:wG kc Ts st)(hd:∀t,o.d=some t→t∉Ts)(hs:Step P o st st1):wG kc Ts st1:=by
 cases hs<;>exact rV h hd
theorem qN{i:I}{f:Nat}{xs:List Opd}(h:i= .call f xs):i.isC=true:=by rw[h];rfl
theorem Ac{i:Nat}{io:IOp}(hio:is[i]? =some io)(hts:TG Ts is=true)(hsm:zO Ts=true→m=true):∀(pre post:List Nat) (st:St),NRun P kc m Ts is K (pre++i::post) st→(∀j∈pre,∀(jo:IOp),is[j]? =some jo→Ap Ts jo io=true)→WfB st→wG kc Ts st→
 NRun P kc m Ts is K (i::(pre++post)) st
 | [],post,st,h,_,_,_=>h
 | j :: pre,post,st,h,hi,hw,hD=>by
   rw[a_a]at h;have hspec:∀jo,is[j]? =some jo→Ez Ts jo io=true→kQ jo io=true∧kV Ts jo.i=false∧kV Ts io.i=false∧(jo.i.isC && io.i.isC)=false∧(jo.i.isC && io.i.cls==5)=false∧(io.i.isC && jo.i.cls==5)=false∧
    (yF jo.i.cls io.i.cls=false∨exm Ts jo.i io.i=true∨(IU Ts=true∧exl Ts jo.i io.i=true)):=by
    intro jo hjo this;unfold Ez at this;simp only[c_,m_,B_]at this;obtain⟨⟨⟨⟨⟨⟨h1,h2⟩,h3⟩,h4⟩,h5⟩,h6⟩,h7⟩:=this;exact⟨h1,h2,h3,h4,h5,h6,h7.elim (fun h=>h.elim a_ (fun h=>b_ (a_ h.1))) (fun h=>b_ (b_ h))⟩
   have hnew:∀jo,is[j]? =some jo→Ez Ts jo io=true∨(kQ jo io=true∧((Gv Ts jo.i=true∧(io.i.cls=0∨(m=true∧eff io.i=false))∧kV Ts io.i=false∧io.i.isC=false)∨(Gv Ts io.i=true∧(jo.i.cls=0∨(m=true∧eff jo.i=false))∧kV Ts jo.i=false∧jo.i.isC=false))):=by
    intro jo hjo;have:=hi j (by simp) jo hjo;unfold Ap brx at this;simp only[B_,c_,m_,beq_iff_eq]at this;rcases this with h|⟨h1,⟨⟨⟨h2,h3⟩,h4⟩,h5⟩|⟨⟨⟨h2,h3⟩,h4⟩,h5⟩⟩
    ·exact a_ h
    ·exact b_ ⟨h1,a_ ⟨h2,h3.elim a_ (fun h=>b_ ⟨hsm h.1,h.2⟩),h4,h5⟩⟩
    ·exact b_ ⟨h1,b_ ⟨h2,h3.elim a_ (fun h=>b_ ⟨hsm h.1,h.2⟩),h4,h5⟩⟩
   cases h with
   | @det _ jo _ _ st1 h1 h2 h3 h4 h5=>
     rcases hnew jo h1 with hO|⟨ht,⟨hb,_⟩|⟨hb,hc,hh,hC⟩⟩
     case inr.inl=>rw[Ak hb]at h2;cases h2
     case inr.inr=>
      have vj:=tN h2;have hr:=Ac hio hts hsm pre post st1 h5 (fun j hj=>hi j (by simp[hj])) (zK h3 vj hw) (tX hD (ny hts h1) h3 vj);cases hr with
      | @det _ io' _ _ st2 g1 g2 g3 g4 g5=>
        rw[hio]at g1;injection g1 with g1
        subst g1;rw[Ak hb]at g2;cases g2
      | @call _ io' _ _ post0 g1 g2 g3=>
        rw[hio]at g1;injection g1 with g1
        subst g1;obtain⟨_,f,xs,hi2,_⟩:=g2;rw[hi2]at hb;cases hb
      | @step _ io' _ _ st2 g1 g2 g3 g4=>
        rw[hio]at g1;injection g1 with g1
        subst g1;obtain⟨st1',k1,k2⟩:=Ub h3 g3 hb hc vj ht;refine .step hio g2 k1 (.det h1 h2 k2 ?_ g4);obtain⟨act2,r2,os2,_,_,rfl,_⟩:=oN k1 hb;exact jF h4 (dV (iL (iP ht).2.1))
     obtain⟨q1,q2,q3,q4,q5,q6,q7⟩:=hspec jo h1 hO;have vj:=tN q2;have hr:=Ac hio hts hsm pre post st1 h5 (fun j hj=>hi j (by simp[hj])) (zK h3 vj hw) (tX hD (ny hts h1) h3 vj);obtain⟨i1,i2,i3⟩:=iP q1;cases hr with
     | @det _ io' _ _ st2 g1 g2 g3 g4 g5=>
       rw[hio]at g1;injection g1 with g1
       subst g1;obtain⟨act,r,os',bs',_,_,rfl⟩:=je h3 vj;have hag:jh io.i.reads st.ev (St.put ⟨st.fr,os',bs'⟩ jo.d r).ev:=dV (iL i1);have hnio:o8 kc io st.ev:=jF g4 (jI hag);have hsw:∃st1',DStep P m io st st1'∧DStep P m jo st1' st2:=by
        refine TY h3 g3 q1 vj (tN q3) (fun ea eb=> ?_);rcases q7 with q7|q7|⟨q7,q8⟩
        ·exact Hw ea eb q7 (fun h=>(h.elim (EF q2) (EF q3)).elim) (fun v=>rfl) (fun n _ k off hk=>hw n k off hk)
        ·unfold exm at q7;split at q7
         ·next x y hx hy=>
          simp only[c_,bne_iff_ne,ne_eq,A_]at q7;exact xw ea eb hx hy (hD.1 x q7.1.2 y q7.2 q7.1.1)
         ·cases q7
        ·unfold exl at q8;split at q8
         ·next n g x n' y v e1 e2=>
          refine xw (x:=x) (y:=y) ea eb (by rw[e1];rfl) (by rw[e2];rfl) (fun k off k' off' g1 g2 e=> ?_);obtain rfl:=hD.2 q7 y (by simpa using q8) k' off' g2;exact h4 n g (.t x) e1 off (e▸g1)
         ·next n y v n' g x e1 e2=>
          refine xw (x:=y) (y:=x) ea eb (by rw[e1];rfl) (by rw[e2];rfl) (fun k off k' off' g1 g2 e=> ?_);obtain rfl:=hD.2 q7 y (by simpa using q8) k off g1;exact hnio n' g (.t x) e2 off' (e▸g2)
         ·cases q8
       obtain⟨st3,k1,k2⟩:=hsw;refine .det hio q3 k1 hnio (.det h1 q2 k2 ?_ g5);obtain⟨act2,r2,os2,bs2,_,_,rfl⟩:=je k1 (tN q3);exact jF h4 (dV (iL i2))
     | @call _ io' _ _ post0 g1 g2 g3=>
       rw[hio]at g1;injection g1 with g1
       subst g1;have hC:io.i.isC=true:=by obtain⟨_,f,xs,hi,_⟩:=g2;exact qN hi
       have c5:jo.i.cls≠5:=fun e=>by rw[hC,e]at q6;simp at q6
       obtain⟨k1,k2⟩:=TR h3 h4 g2 q1 vj (EF q2) c5 hw;exact .call hio k1 (fun r os' oc hp=> .det h1 q2 (k2 r os' oc hp).1 (k2 r os' oc hp).2 (g3 r os' oc hp))
     | @step _ io' _ _ st2 g1 g2 g3 g4=>
       rw[hio]at g1;injection g1 with g1
       subst g1;rw[q3]at g2;cases g2
   | @call _ jo _ _ post0 h1 h2 h3=>
     rcases hnew jo h1 with hO|⟨ht,⟨hb,_⟩|⟨hb,hc,hh,hC⟩⟩
     case inr.inl=>obtain⟨_,f,xs,hi2,_⟩:=h2;rw[hi2]at hb;cases hb
     case inr.inr=>obtain⟨_,f,xs,hi2,_⟩:=h2;rw[qN hi2]at hC;cases hC
     obtain⟨q1,q2,q3,q4,q5,q6,q7⟩:=hspec jo h1 hO;have hC:jo.i.isC=true:=by obtain⟨_,f,xs,hi,_⟩:=h2;exact qN hi
     have c5:io.i.cls≠5:=fun e=>by rw[hC,e]at q5;simp at q5
     have cC:io.i.isC=false:=by rw[hC]at q4;simpa using q4
     have hnB:∀r os' oc,post0 r os' oc→r.noB=true:=fun r os' oc hp=>by
      obtain⟨_,f,xs,_,_,_,hnc⟩:=h2;exact hnc.noB hp
     obtain⟨st1,k1,k2,k3,k4⟩:=TQ (R:=fun st2=>NRun P kc m Ts is K (pre++post) st2) h2 (fun r os' oc hp=>by
      have hr:=Ac hio hts hsm pre post _ (h3 r os' oc hp) (fun j hj=>hi j (by simp[hj])) (NW hw (hnB r os' oc hp)) (rV hD (ny hts h1));cases hr with
      | @det _ io' _ _ st2 g1 g2 g3 g4 g5=>
        rw[hio]at g1;injection g1 with g1
        subst g1;exact⟨st2,g3,g4,g5⟩
      | @call _ io' _ _ post1 g1 g2 g3=>
        rw[hio]at g1;injection g1 with g1
        subst g1;obtain⟨_,f,xs,hi,_⟩:=g2;rw[qN hi]at cC;cases cC
      | @step _ io' _ _ st2 g1 g2 g3 g4=>
        rw[hio]at g1;injection g1 with g1
        subst g1;rw[q3]at g2;cases g2) q1 (tN q3) cC (EF q3) c5
     exact .det hio q3 k1 k2 (.call h1 k3 k4)
   | @step _ jo _ _ st1 h1 h2 h3 h4=>
     rcases hnew jo h1 with hO|⟨ht,⟨hb,hc,hh,hC⟩|⟨_,_,hh,_⟩⟩
     case inl=>
      obtain⟨q1,q2,_⟩:=hspec jo h1 hO;rw[q2]at h2;cases h2
     case inr.inr=>rw[hh]at h2;cases h2
     have hr:=Ac hio hts hsm pre post st1 h4 (fun j hj=>hi j (by simp[hj])) (TF h3 hb hw) (Du hD (ny hts h1) h3);cases hr with
     | @det _ io' _ _ st2 g1 g2 g3 g4 g5=>
       rw[hio]at g1;injection g1 with g1
       subst g1;obtain⟨st1',k1,k2⟩:=Uc h3 g3 hb hc (tN g2) (FC ht);refine .det hio g2 k1 ?_ (.step h1 h2 k2 g5);obtain⟨act2,r2,os2,_,_,rfl,_⟩:=oN h3 hb;exact jF g4 (jI (dV (iL (iP ht).1)))
     | @call _ io' _ _ post0 g1 g2 g3=>
       rw[hio]at g1;injection g1 with g1
       subst g1;obtain⟨_,f,xs,hi2,_⟩:=g2;rw[qN hi2]at hC;cases hC
     | @step _ io' _ _ st2 g1 g2 g3 g4=>
       rw[hio]at g1;injection g1 with g1
       subst g1;rw[hh]at g2;cases g2
end
def oW(Ts:List Nat)(ops:List Oper)(is:List IOp):Bool:=
 let an:=Cm ops []
 (ops.zipIdx.all fun p=>p.1.after.toList.all fun e=> !i_ .any e || decide (e.on<p.2)) &&
 (is.zipIdx.all fun p=>is.zipIdx.all fun q=> !decide (q.2<p.2)|| Ap Ts q.1 p.1 ||(an.getD p.2 []).contains q.2) && TG Ts is
theorem SH {P:Program}{B:Nat}{Xs:List Nat}{G:Org}{w0:World}{ops:Array Oper}{is:List IOp}{kc:Nat}{m:Bool}{Ts:List Nat}{K:St→Prop}{Q:Exit→Act→World→Prop}(hcomp:jZ P ops ops.toList=some is)(hd:oW Ts ops.toList is=true)(hsm:zO Ts=true→m=true)
 (hQ:∀st' E' a' w',Rel B Xs G w0 st' E' a' w'→K st'→Q .normal a' w'):
 ∀(fuel:Nat) (listed:Array Bool) (st:St) (E:Env) (a:Act) (w:World),listed.size=ops.size→(jA ops.size listed).length=fuel→wH ops listed→NRun P kc m Ts is K (jA ops.size listed) st→wG kc Ts st→Rel B Xs G w0 st E a w→
  wpAny P .any ops Q fuel listed a w:=by
 obtain⟨hlen,hget⟩:=kW hcomp;have hlen':is.length=ops.size:=by rw[hlen];simp
 unfold oW at hd;rw[c_,c_]at hd;obtain⟨⟨hd1,hd2⟩,hts⟩:=hd;simp only[K_]at hd1 hd2;have hback:∀i o,ops[i]? =some o→∀e∈o.after.toList,i_ .any e=true→e.on<i:=by
  intro i o ho e he hb;have:=hd1 (o,i) (by
   rw[g_];simpa using ho) e he
  simpa[hb]using this
 have hpair:∀i j io jo,is[i]? =some io→is[j]? =some jo→j<i→Ap Ts jo io=true∨j∈(Cm ops.toList []).getD i []:=by
  intro i j io jo hi hj hlt;have:=hd2 (io,i) (by rw[g_];exact hi) (jo,j) (by rw[g_];exact hj);simp only[hlt,decide_true,F_,G_,B_,A_]at this;exact this
 have hsub:∀listed i,i∈l_ .any ops listed→i<ops.size∧listed.getD i true=false∧∃o,ops[i]? =some o∧∀e∈o.after.toList,i_ .any e=true→listed.getD e.on false=true:=by
  intro listed i hi;unfold l_ at hi;rw[e_]at hi;obtain⟨h1,h2⟩:=hi;simp only[c_,m_]at h2;obtain⟨h2,h3⟩:=h2;have hlt:=f_.1 h1;refine⟨hlt,h2,ops[i],Array.getElem?_eq_getElem hlt,fun e he hb=> ?_⟩;rw[Array.getElem?_eq_getElem hlt]at h3;simp only[t_,h_]at h3;rw[Array.all_eq_true']at h3;have:=h3 e (by simpa using he);simpa[hb]using this
 intro fuel
 induction fuel with
 | zero=>
   intro listed st E a w hsz hf hcl hs hD hR;have hnil:jA ops.size listed= []:=D_ hf;rw[hnil]at hs;refine⟨?_,hQ _ E a w hR (by cases hs;assumption)⟩;cases hr:l_ .any ops listed with
   |nil=>rfl
   | cons i l=>
     obtain⟨h1,h2,_⟩:=hsub listed i (by rw[hr];simp);have:i∈jA ops.size listed:=e_.2 ⟨f_.2 h1,by simp[h2]⟩;rw[hnil]at this;simp at this
 | succ fuel ih=>
   intro listed st E a w hsz hf hcl hs hD hR;refine⟨fun hr=> ?_,fun i hi=> ?_⟩
   ·
    exfalso;cases hrem:jA ops.size listed with
    |nil=>rw[hrem]at hf;simp at hf
    | cons i l=>
      have hi:i∈jA ops.size listed:=by rw[hrem];simp
      obtain⟨h1,h2⟩:=e_.1 hi;have hlt:=f_.1 h1;have hmin:∀j∈jA ops.size listed,i≤j:=by
       have hp:(jA ops.size listed).Pairwise (· < ·):=q_ _ p_;rw[hrem]at hp⊢;intro j hj;rcases Q_.1 hj with rfl|hj
       ·exact j_ _
       ·exact a_h ((w_.1 hp).1 j hj)
      have :i∈l_ .any ops listed:=by
       unfold l_;rw[e_];refine⟨h1, ?_⟩;rw[Array.getElem?_eq_getElem hlt];simp only[t_,h_,c_];refine⟨h2, ?_⟩;rw[Array.all_eq_true'];intro e he;cases hb:i_ .any e with
       |false=>simp
       | true=>
         have hon:=hback i ops[i] (Array.getElem?_eq_getElem hlt) e (by simpa using he) hb;simp only[F_,G_];cases hl:listed.getD e.on false with
         |true=>rfl
         | false=>
           have:e.on∈jA ops.size listed:=by
            refine e_.2 ⟨f_.2 (by omega), ?_⟩;have hs2:e.on<listed.size:=by omega
            simp only[Array.getD_eq_getD_getElem?,Array.getElem?_eq_getElem hs2,h_]at hl⊢;simp[hl]
           have:=hmin _ this;omega
      rw[hr]at this;simp at this
   ·obtain⟨hlt,hnl,o,ho,hed⟩:=hsub listed i hi;have hmem:i∈jA ops.size listed:=e_.2 ⟨f_.2 hlt,by simp[hnl]⟩;obtain⟨io,hio,hco⟩:=hget i o (by simpa using ho);obtain⟨pre,post,hsplit⟩:=S_ hmem;have hp:(jA ops.size listed).Pairwise (· < ·):=q_ _ p_;rw[hsplit]at hs hp;have hpre:∀j∈pre,j<i:=fun j hj=>(r_.1 hp).2.2 j hj i (by simp)
    have hpost:∀j∈post,i<j:=fun j hj=>(w_.1 (r_.1 hp).2.1).1 j hj
    have hind:∀j∈pre,∀(jo:IOp),is[j]? =some jo→Ap Ts jo io=true:=by
     intro j hj jo hjo;rcases hpair i j io jo hio hjo (hpre j hj)with h|h
     ·exact h
     ·exfalso;have hl:=xO ops listed hcl ops.toList [] (fun j=>by simp) (fun i o hi=>by simp at hi) i o ho hed (by rw[Bh];simpa using hlt) j h;have hjm:j∈jA ops.size listed:=by rw[hsplit];simp[hj]
      have:=(e_.1 hjm).2;have hjs:j<listed.size:=by have:=f_.1 (e_.1 hjm).1;omega
      simp only[Array.getD_eq_getD_getElem?,Array.getElem?_eq_getElem hjs,h_]at hl this;simp[hl]at this
    have hfr:=Ac hio hts hsm pre post st hs hind (JQ hR) hD;have hg':∀j,(listed.setIfInBounds i true).getD j true=if j=i then true else listed.getD j true:=by
     intro j;simp only[Array.getD_eq_getD_getElem?];by_cases e:j=i
     ·subst e;rw[if_pos rfl,Array.getElem?_setIfInBounds_self_of_lt (by omega)];rfl
     ·rw[if_neg e,Array.getElem?_setIfInBounds_ne (fun h=>e h.symm)]
    have hrem':jA ops.size (listed.setIfInBounds i true)=pre++post:=by
     have e1:jA ops.size (listed.setIfInBounds i true)=(jA ops.size listed).filter (fun j=>j !=i):=by
      unfold jA;rw[T_];apply X_;intro j _;rw[hg'];by_cases e:j=i
      ·simp[e]
      ·simp[e]
     rw[e1,hsplit,U_,a_c];simp only[bne_self_eq_false,V_,if_false];rw[n_.2 (fun j hj=>by have:=hpre j hj;simp;omega),n_.2 (fun j hj=>by have:=hpost j hj;simp;omega)]
    have hcl':wH ops (listed.setIfInBounds i true):=by
     intro k q hq hk e he hb;have hgf:∀j,(listed.setIfInBounds i true).getD j false=if j=i then true else listed.getD j false:=by
      intro j;simp only[Array.getD_eq_getD_getElem?];by_cases e:j=i
      ·subst e;rw[if_pos rfl,Array.getElem?_setIfInBounds_self_of_lt (by omega)];rfl
      ·rw[if_neg e,Array.getElem?_setIfInBounds_ne (fun h=>e h.symm)]
     rw[hgf]at hk⊢;split
     ·rfl
     ·split at hk
      ·next e'=>
       subst e';rw[ho]at hq;injection hq with hq
       subst hq;exact hed e he hb
      ·exact hcl k q hq hk e he hb
    have hlen2:(pre++post).length=fuel:=by
     rw[hsplit]at hf;simp only[o_,J_]at hf⊢;omega
    unfold wpOp;rw[ho];simp only;have fin:(if Region.wanted o (yielded ops a.tmps)then o.wp P a w (wpAny P .any ops Q fuel (listed.setIfInBounds i true)) Q else wpAny P .any ops Q fuel (listed.setIfInBounds i true) (a.put o.dst undef) w):=by
     cases hfr with
     | @det _ io' _ _ st1 g1 g2 g3 g4 g5=>
       rw[hio]at g1;injection g1 with g1
       subst g1;exact zy (Q:=Q) (K:=wpAny P .any ops Q fuel (listed.setIfInBounds i true)) hR hco g3.step (fun E' a' w' hR'=>
        ih (listed.setIfInBounds i true) st1 E' a' w' (by simp[hsz]) (by rw[hrem'];exact hlen2) hcl' (by rw[hrem'];exact g5) (tX hD (ny hts hio) g3 (tN g2)) hR')
     | @step _ io' _ _ st1 g1 g2 g3 g4=>
       rw[hio]at g1;injection g1 with g1
       subst g1;exact zy (Q:=Q) (K:=wpAny P .any ops Q fuel (listed.setIfInBounds i true)) hR hco g3 (fun E' a' w' hR'=>
        ih (listed.setIfInBounds i true) st1 E' a' w' (by simp[hsz]) (by rw[hrem'];exact hlen2) hcl' (by rw[hrem'];exact g4) (Du hD (ny hts hio) g3) hR')
     | @call _ io' _ _ post0 g1 g2 g3=>
       rw[hio]at g1;injection g1 with g1
       subst g1;obtain⟨gd,f,xs,hi,_,_,hnc⟩:=g2;obtain⟨c1,c2,_⟩:=oD hco;rw[iw hR hco gd,if_pos rfl];rw[hi]at c1;obtain⟨dst,op,ty,pos,after,guard⟩:=o;refine yG c1 hR hnc.toE (fun r os2 bs2 hp E' v w' hR'=> ?_);obtain⟨os',oc,hp,rfl,rfl⟩:=hp;simp only at c2;rw[c2]at g3;exact ih (listed.setIfInBounds i true) _ E' _ w' (by simp[hsz]) (by rw[hrem'];exact hlen2) hcl' (by rw[hrem'];exact g3 r os' oc hp) (rV hD (fun t ht=>ny hts hio t (by rw[c2];exact ht))) hR'
    split
    ·next hw=>rw[if_pos hw]at fin;exact a_ fin
    ·next hw=>rw[if_neg hw]at fin;exact fin
section
variable(P:Program)(kc:Nat)(m:Bool)(Ts:List Nat)(K:St→Prop)
def sn :List IOp→St→Prop
 | [],st=>K st
 |o::rest,st=>(kV Ts o.i=true∧o.i.isC=false∧sw P (sn rest) [o] st)∨(kV Ts o.i=false∧o8 kc o st.ev∧sd P m (sn rest) [o] st)∨
  ∃post:AV→List Own→Option (List AC)→Prop,DR P kc m o st post∧∀r os' oc,post r os' oc→sn rest (st.nput o.d kc r os' oc)
end
section
variable{P:Program}{kc:Nat}{m:Bool}{Ts:List Nat}{K:St→Prop}
theorem D7{is:List IOp}:∀(l:List IOp) (k:Nat) (st:St),(∀j,l[j]? =is[k+j]?)→sn P kc m Ts K l st→NRun P kc m Ts is K (a_k k l.length) st
 | [],k,st,_,h=> .nil h
 | o ::l,k,st,hl,h=>by
   have h0:is[k]? =some o:=by have:=hl 0;simpa using this.symm
   have hl':∀j,l[j]? =is[k+1+j]? :=fun j=>by have:=hl (j+1);simpa[a_g,a_i 1 j]using this
   rcases h with⟨h1,h2,h3⟩|⟨h1,h2,h3⟩|⟨post,h1,h2⟩
   ·rcases JV h3 with⟨st1,g1,g2⟩|⟨f,xs,post,g1,g2,_⟩
    ·exact .step h0 h1 g1 (D7 l (k+1) st1 hl' g2)
    ·rw[g2]at h2;cases h2
   ·obtain⟨st1,g1,g2⟩:=JZ h3;exact .det h0 h1 g1 h2 (D7 l (k+1) st1 hl' g2)
   ·exact .call h0 h1 (fun r os' oc hp=>D7 l (k+1) _ hl' (h2 r os' oc hp))
theorem SK{B:Nat}{Xs:List Nat}{G:Org}{w0:World}{st:St}{E:Env}{a:Act}{w:World}{id:Nat}{ops:Array Oper}{is:List IOp}{Q:Exit→Act→World→Prop}(hmix:P.follows .mixedOrders=true)(hcomp:jZ P ops ops.toList=some is)(hd:oW Ts ops.toList is=true)(hsm:zO Ts=true→m=true)
 (hD:wG kc Ts st) (hQ:∀st' E' a' w',Rel B Xs G w0 st' E' a' w'→K st'→Q .normal a' w') (hs:sn P kc m Ts K is st) (hR:Rel B Xs G w0 st E a w):(Code.region id ops true).wp P Q a w:=by
 have h1:=D7 (is:=is) is 0 st (fun j=>by simp) hs;have hl:is.length=ops.size:=by rw[(kW hcomp).1];simp
 rw[hl,← O_]at h1;have e:jA ops.size (Array.replicate ops.size false)=N_ ops.size:=by
  unfold jA;refine n_.2 (fun j hj=> ?_);have:=f_.1 hj;simp[Array.getD_eq_getD_getElem?,this]
 refine wp_region_any hmix (SH (kc:=kc) (m:=m) hcomp hd hsm hQ ops.size _ st E a _ (by simp) (by rw[e];simp) ?_ (by rw[e];exact h1) hD hR.drewN);intro i o _ h;simp[Array.getD_eq_getD_getElem?,Array.getElem?_replicate]at h;split at h<;>simp at h
theorem Rl{st:St}(h:K st):sn P kc m Ts K [] st:=h
def I.look(Ts:List Nat)(i:I):Bool:= !kV Ts i && !i.isC && (match i with| .load .. =>false|_=>true)
theorem Rj{d:Option Nat}{gd:Option (Nat×Bool)}{i:I}{rest:List IOp}{st:St}(hi:i.look Ts=true)(h:sd P m (sn P kc m Ts K rest) [⟨d,gd,i⟩] st):sn P kc m Ts K (⟨d,gd,i⟩::rest) st:=by
 unfold I.look at hi;simp only[c_,m_]at hi;refine b_ (a_ ⟨hi.1.1,fun n g x e=> ?_,h⟩);have e':i= .load n g x:=e;rw[e']at hi;exact absurd hi.2 (by simp)
theorem Rk{d:Option Nat}{gd:Option (Nat×Bool)}{n:Nat}{g:Bool}{x:Opd}{rest:List IOp}{st:St}(hn:∀off,st.ev x≠ .bptr kc off)(h:sd P m (sn P kc m Ts K rest) [⟨d,gd,.load n g x⟩] st):sn P kc m Ts K (⟨d,gd,.load n g x⟩::rest) st:=
 b_ (a_ ⟨rfl,fun n' g' x' e off=>by cases e;exact hn off,h⟩)
theorem Oh{d:Option Nat}{gd:Option (Nat×Bool)}{i:I}{rest:List IOp}{st:St}(hi:(kV Ts i && !i.isC)=true)(h:sw P (sn P kc m Ts K rest) [⟨d,gd,i⟩] st):sn P kc m Ts K (⟨d,gd,i⟩::rest) st:=by
 simp only[c_,m_]at hi;exact a_ ⟨hi.1,hi.2,h⟩
theorem Rn{d:Option Nat}{gd:Option (Nat×Bool)}{f:Nat}{xs:List Opd}{rest:List IOp}{st:St}(h:sd P m (sn P kc m Ts K rest) [⟨d,gd,.call f xs⟩] st):sn P kc m Ts K (⟨d,gd,.call f xs⟩::rest) st:=
 b_ (a_ ⟨rfl,fun n' g' x' e=>(by cases e),h⟩)
theorem Ri{d:Option Nat}{f:Nat}{xs:List Opd}{rest:List IOp}{st:St}{ds:List D}{pst:AV→List Own→Prop}(h:jO P f ds pst)(ha:aO st.owns (xs.map st.ev) ds)(hne:∃r os',pst r os'∧r.out=true)(hm:∀r os',pst r os'→m=false→os'= [])
 (hr:∀r os',pst r os'→sn P kc m Ts K rest (St.put ⟨st.fr,st.owns++os',st.boxes⟩ d (r.shift st.owns.length))):sn P kc m Ts K (⟨d,none,.call f xs⟩::rest) st:=by
 refine b_ (b_ ⟨_,⟨rfl,f,xs,rfl, ?_, ?_,.pure h ha⟩, ?_⟩)
 ·rintro r os' oc ⟨r0,hp,_⟩ hm';exact hm _ _ hp hm'
 ·obtain⟨r,os',h1,h2⟩:=hne;exact⟨_,os',_,r,h1,h2,rfl,rfl⟩
 ·rintro r os' oc ⟨r0,hp,_,rfl,rfl⟩;exact hr _ _ hp
end
end Go.Proofs.Ytagaefgglphkgaa
