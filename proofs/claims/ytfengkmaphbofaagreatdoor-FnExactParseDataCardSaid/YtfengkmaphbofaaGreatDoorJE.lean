/-
  Texts joined: IrE IrF IrT Ty IrG IrL IrS IrW IrR IrN IrU IrV IrX IrY.
-/
import Derived.Test.YtfengkmaphbofaaGreatDoorJD
import Derived.Test.YtfengkmaphbofaaGreatDoorJA
set_option linter.unusedSimpArgs false
set_option linter.unusedVariables false
namespace Go.Proofs.YtfengkmaphbofaaGreatDoor
open Go.RowKit
open List renaming getElem?_eq_getElem→a_,getElem?_eq_some_iff→b_,getD_eq_getElem?_getD→c_,getElem?_take→d_,mem_of_getElem? →f_,getElem?_append_left→g_,mem_map→h_,mem_flatMap→j_,all_cons→l_,nodup_append→o_,mem_append→q_,all_eq_true→s_,length_cons→t_,take_sublist→v_,mem_append_right→w_,mem_append_left→x_,getElem?_map→B_,flatMap_cons→C_,cons_append→D_,length_map→E_,map_cons→G_,length_take→I_,getElem?_cons_zero→J_,getElem?_cons_succ→K_,nil_append→L_,replicate→N_,mem_iff_getElem? →O_,map_congr_left→Q_,getD_cons_zero→R_,getD_cons_succ→S_,take_succ_cons→T_,drop_succ_cons→U_,map_nil→V_,set_cons_zero→W_,set_cons_succ→X_,getElem_inj→a_d,nodup_cons→a_f,length_nil→a_g,nodup_nil→a_i,take_zero→a_k,drop_zero→a_l,take_nil→a_m,drop_nil→a_n,flatMap→a_r,all_nil→a_u
open Bool renaming and_eq_true→e_,not_false→F_,not_true→H_,not_eq_eq_eq_not→P_,false_eq_true→Y_,not_eq_false'→a_a,not_eq_true'→a_c,and_true→a_o,true_and→a_p,and_self→a_q
open Option renaming map_eq_some_iff→i_,getD_some→m_,map_some→M_,getD_none→a_e,map_none→a_h
open Value renaming oneCell'→k_
open Nat renaming le_trans→n_,le_refl→r_,zero_le→u_,lt_of_lt_of_le→z_,zero_add→a_s,add_zero→a_t,le_of_eq→a_v
open Or renaming inr→p_,inl→y_
open Option.some renaming injEq→A_
inductive IC where
 |reg (dr:Bool) (ops:List IOp)
 |regN (b s:Bool) (Ts:List Nat) (ops:List IOp)
 |seq (x y:IC)
 |cond (c:Opd) (x y:IC)
 |block (id:Nat) (x:IC)
 |loop (x:IC)
 |exit (id:Nat)
 |ret
 |skip
def Ri(is:List IOp):List Nat:=(is.filterMap fun o=>mY o.i).filter fun t=>is.all fun o=>match o.d with|some u=>u !=t|none=>true
def Ug(is:List IOp):Bool:=is.any fun o=>match o.i with
 | .store _ (.t x) _=>is.any fun q=>q.d==some x && (match q.i with
   | .iad .. =>true
   | .fad _ (.t y)=>is.any fun r=>r.d==some y && (match r.i with| .iad .. =>true|_=>false)
   |_=>false)
 |_=>false
def Tj(is:List IOp):Bool:=(is.any fun o=>match o.i with| .brow false .. =>true|_=>false) && (is.any fun o=>match o.i with| .app .. =>true|_=>false)
def PK(ops:List Oper)(Ts:List Nat)(is:List IOp):IC:= .regN (ug ops is) (Tj is && pW (1000001::Ts) ops is) Ts is
def QL(ops:List Oper)(is:List IOp):Option IC:=
 if(ug ops is && !(is.any fun o=>o.i.isC)) && !Ug is then(if Tj is && pW [] ops is then some (PK ops [] is)else some (.reg true is))
 else if pW [] ops is then some (PK ops [] is)
 else if pW (Ri is) ops is then some (PK ops (Ri is) is)
 else if ug ops is then some (.reg true is)
 else if pW (1000000::Ri is) ops is then some (PK ops (1000000::Ri is) is)else none
theorem nY{ops:List Oper}{is:List IOp}{c:IC}(h:QL ops is=some c):(c= .reg true is∧ug ops is=true)∨∃Ts s,c= .regN (ug ops is) s Ts is∧pW Ts ops is=true∧(s=true→pW (1000001::Ts) ops is=true):=by
 have hn:∀Ts,pW Ts ops is=true→∃Ts' s,PK ops Ts is= .regN (ug ops is) s Ts' is∧pW Ts' ops is=true∧(s=true→pW (1000001::Ts') ops is=true):=fun Ts h=>
  ⟨Ts,_,rfl,h,fun h1=>by rw[e_]at h1;exact h1.2⟩
 unfold QL at h;split at h
 ·next h1=>
  simp only[e_]at h1;split at h
  ·next h2=>injection h with h;rw[e_]at h2;exact p_ (h▸hn _ h2.2)
  ·injection h with h;exact y_ ⟨h.symm,h1.1.1⟩
 ·split at h
  ·next h1=>injection h with h;exact p_ (h▸hn _ h1)
  ·split at h
   ·next h1=>injection h with h;exact p_ (h▸hn _ h1)
   ·split at h
    ·next h1=>injection h with h;exact y_ ⟨h.symm,h1⟩
    ·split at h
     ·next h1=>injection h with h;exact p_ (h▸hn _ h1)
     ·cases h
def dG(P:Program):Code→Option IC
 | .region id ops false=>(kP P ops ops.toList).map (IC.reg false)
 | .region id ops true=>(match kP P ops ops.toList with|some is=>if P.follows .mixedOrders then QL ops.toList is else none|none=>none)
 | .seq x y=>(match dG P x,dG P y with|some x,some y=>some (.seq x y)|_,_=>none)
 | .cond c x y=>(match dG P x,dG P y with|some x,some y=>some (.cond (opd c) x y)|_,_=>none)
 | .block id x=>(dG P x).map (IC.block id)
 | .loop x=>(dG P x).map IC.loop
 | .exit id=>some (.exit id)
 | .ret=>some .ret
 | .skip=>some .skip
 | .label _=>some .skip
 |_=>none
theorem mG{P:Program}{id:Nat}{ops:Array Oper}{b:Bool}{c:IC}(h:dG P (.region id ops b)=some c)(hc:∀d l,c≠ .reg d l)(hn:∀b s T l,c≠ .regN b s T l):False:=by
 cases b with
 | false=>
   simp only[dG]at h;obtain⟨l,_,he⟩:=i_.1 h;exact hc _ _ he.symm
 | true=>
   simp only[dG]at h;split at h
   ·split at h
    ·rcases nY h with⟨h,_⟩|⟨Ts,s,h,_⟩
     ·exact hc _ _ h
     ·exact hn _ _ _ _ h
    ·cases h
   ·cases h
def mP(lo:Nat×Nat)(P:Program)(c:IC)(Q:Exit→St→Prop)(st:St):Prop:=
 ∀(code:Code),dG P code=some c→∀(B:Nat) (Xs:List Nat) (G:Org) (w0:World),(G.os.length≤lo.1∧G.E.bm.length≤lo.2)→∀(E:Env) (a:Act) (w:World),Rel B Xs G w0 st E a w→code.wp P (fun e a' w'=>∃st' E',Rel B Xs G w0 st' E' a' w'∧Q e st') a w
abbrev AWP(P:Program)(c:IC)(Q:Exit→St→Prop)(st:St):Prop:=mP (0,0) P c Q st
def FK(lo:Nat×Nat)(P:Program)(y:IC)(Q:Exit→St→Prop):Exit→St→Prop
 | .normal,st=>mP lo P y Q st
 |e,st=>Q e st
def xO(id:Nat)(Q:Exit→St→Prop):Exit→St→Prop
 | .exit id',st=>if id'=id then Q .normal st else Q (.exit id') st
 |e,st=>Q e st
section
variable{lo:Nat×Nat}{P:Program}{Q:Exit→St→Prop}{st:St}
theorem bG(h:Q .normal st):mP lo P .skip Q st:=fun code hc B Xs G w0 hG E a w hR=>by
 cases code with
 |skip=>exact wp_skip ⟨st,E,hR,h⟩
 |label l=>exact wp_label ⟨st,E,hR,h⟩
 |region id ops b=>exact(mG hc (by simp) (by simp)).elim
 |seq x y=>simp only[dG]at hc;split at hc<;>simp at hc
 |cond c x y=>simp only[dG]at hc;split at hc<;>simp at hc
 |block id x=>simp[dG]at hc
 |loop x=>simp[dG]at hc
 |exit id=>simp[dG]at hc
 |ret=>simp[dG]at hc
 |rangeFunc=>simp[dG]at hc
 |scope=>simp[dG]at hc
 |goto=>simp[dG]at hc
 |refuse=>simp[dG]at hc
theorem bH{id:Nat}(h:Q (.exit id) st):mP lo P (.exit id) Q st:=fun code hc B Xs G w0 hG E a w hR=>by
 cases code with
 |exit id=>simp[dG]at hc;subst hc;exact wp_exit ⟨st,E,hR,h⟩
 |skip=>simp[dG]at hc
 |label l=>simp[dG]at hc
 |region id ops b=>exact(mG hc (by simp) (by simp)).elim
 |seq x y=>simp only[dG]at hc;split at hc<;>simp at hc
 |cond c x y=>simp only[dG]at hc;split at hc<;>simp at hc
 |block id x=>simp[dG]at hc
 |loop x=>simp[dG]at hc
 |ret=>simp[dG]at hc
 |rangeFunc=>simp[dG]at hc
 |scope=>simp[dG]at hc
 |goto=>simp[dG]at hc
 |refuse=>simp[dG]at hc
theorem bZ(h:Q .ret st):mP lo P .ret Q st:=fun code hc B Xs G w0 hG E a w hR=>by
 cases code with
 |ret=>exact wp_ret ⟨st,E,hR,h⟩
 |exit id=>simp[dG]at hc
 |skip=>simp[dG]at hc
 |label l=>simp[dG]at hc
 |region id ops b=>exact(mG hc (by simp) (by simp)).elim
 |seq x y=>simp only[dG]at hc;split at hc<;>simp at hc
 |cond c x y=>simp only[dG]at hc;split at hc<;>simp at hc
 |block id x=>simp[dG]at hc
 |loop x=>simp[dG]at hc
 |rangeFunc=>simp[dG]at hc
 |scope=>simp[dG]at hc
 |goto=>simp[dG]at hc
 |refuse=>simp[dG]at hc
theorem bW{x y:IC}(h:mP lo P x (FK lo P y Q) st):mP lo P (.seq x y) Q st:=fun code hc B Xs G w0 hG E a w hR=>by
 cases code with
 | seq cx cy=>
   simp only[dG]at hc;split at hc
   ·next x' y' hx hy=>
    simp only[A_,IC.seq.injEq]at hc;obtain⟨rfl,rfl⟩:=hc;refine wp_seq (wp_mono (h cx hx B Xs G w0 hG E a w hR) ?_);rintro e a' w' ⟨st',E',h1,h2⟩;cases e with
    |normal=>exact h2 cy hy B Xs G w0 hG E' a' w' h1
    |_=>exact⟨st',E',h1,h2⟩
   ·cases hc
 |ret=>simp[dG]at hc
 |exit id=>simp[dG]at hc
 |skip=>simp[dG]at hc
 |label l=>simp[dG]at hc
 |region id ops b=>exact(mG hc (by simp) (by simp)).elim
 |cond c x y=>simp only[dG]at hc;split at hc<;>simp at hc
 |block id x=>simp[dG]at hc
 |loop x=>simp[dG]at hc
 |rangeFunc=>simp[dG]at hc
 |scope=>simp[dG]at hc
 |goto=>simp[dG]at hc
 |refuse=>simp[dG]at hc
theorem BR{c:Opd}{x y:IC}{b:Bool}(hb:st.ev c= .c false [.raw (.bool b)])(h1:b=true→mP lo P x Q st)(h2:b=false→mP lo P y Q st):mP lo P (.cond c x y) Q st:=fun code hc B Xs G w0 hG E a w hR=>by
 cases code with
 | cond o cx cy=>
   simp only[dG]at hc;split at hc
   ·next x' y' hx hy=>
    simp only[A_,IC.cond.injEq]at hc;obtain⟨rfl,rfl,rfl⟩:=hc;have he:=fP hR hb;cases b with
    |true=>exact wp_cond_true he (h1 rfl cx hx B Xs G w0 hG E a w hR)
    |false=>exact wp_cond_false he (h2 rfl cy hy B Xs G w0 hG E a w hR)
   ·cases hc
 |seq x y=>simp only[dG]at hc;split at hc<;>simp at hc
 |ret=>simp[dG]at hc
 |exit id=>simp[dG]at hc
 |skip=>simp[dG]at hc
 |label l=>simp[dG]at hc
 |region id ops b=>exact(mG hc (by simp) (by simp)).elim
 |block id x=>simp[dG]at hc
 |loop x=>simp[dG]at hc
 |rangeFunc=>simp[dG]at hc
 |scope=>simp[dG]at hc
 |goto=>simp[dG]at hc
 |refuse=>simp[dG]at hc
theorem bn{id:Nat}{x:IC}(h:mP lo P x (xO id Q) st):mP lo P (.block id x) Q st:=fun code hc B Xs G w0 hG E a w hR=>by
 cases code with
 | block id' cx=>
   simp only[dG]at hc;obtain⟨x',hx,he⟩:=i_.1 hc;simp only[IC.block.injEq]at he;obtain⟨rfl,rfl⟩:=he;refine wp_block (wp_mono (h cx hx B Xs G w0 hG E a w hR) ?_);rintro e a' w' ⟨st',E',h1,h2⟩;cases e with
   | exit j=>
     simp only[Exit.inBlock,xO]at h2⊢;split
     ·next e=>rw[if_pos e]at h2;exact⟨st',E',h1,h2⟩
     ·next e=>rw[if_neg e]at h2;exact⟨st',E',h1,h2⟩
   |_=>exact⟨st',E',h1,h2⟩
 |cond c x y=>simp only[dG]at hc;split at hc<;>simp at hc
 |seq x y=>simp only[dG]at hc;split at hc<;>simp at hc
 |ret=>simp[dG]at hc
 |exit id=>simp[dG]at hc
 |skip=>simp[dG]at hc
 |label l=>simp[dG]at hc
 |region id ops b=>exact(mG hc (by simp) (by simp)).elim
 |loop x=>simp[dG]at hc
 |rangeFunc=>simp[dG]at hc
 |scope=>simp[dG]at hc
 |goto=>simp[dG]at hc
 |refuse=>simp[dG]at hc
theorem vY{ops:List IOp}(h:∀K:St→Prop,(∀st',Q .normal st'→K st')→sw P K ops st):mP lo P (.reg false ops) Q st:=fun code hc B Xs G w0 hG E a w hR=>by
 cases code with
 | region id cops b=>
   cases b with
   | true=>
     simp only[dG]at hc;split at hc
     ·split at hc
      ·rcases nY hc with⟨hc,_⟩|⟨Ts,s,hc,_⟩<;>simp at hc
      ·cases hc
     ·cases hc
   | false=>
     simp only[dG]at hc;obtain⟨l,hl,he⟩:=i_.1 hc;simp only[IC.reg.injEq]at he;obtain⟨_,rfl⟩:=he;exact wp_region_list (wJ (K:=Q .normal) (fun st' E' a' w' h1 h2=>⟨st',E',h1,h2⟩) _ _ st E a w hl hR (h _ fun _ h=>h))
 |block id x=>simp[dG]at hc
 |cond c x y=>simp only[dG]at hc;split at hc<;>simp at hc
 |seq x y=>simp only[dG]at hc;split at hc<;>simp at hc
 |ret=>simp[dG]at hc
 |exit id=>simp[dG]at hc
 |skip=>simp[dG]at hc
 |label l=>simp[dG]at hc
 |loop x=>simp[dG]at hc
 |rangeFunc=>simp[dG]at hc
 |scope=>simp[dG]at hc
 |goto=>simp[dG]at hc
 |refuse=>simp[dG]at hc
theorem II{ops:List IOp}(m:Bool)(hm:m=ops.any fun o=>o.i.cls==3)(h:∀K:St→Prop,(∀st',Q .normal st'→K st')→sd P m K ops st):mP lo P (.reg true ops) Q st:=fun code hc B Xs G w0 hG E a w hR=>by
 cases code with
 | region id cops b=>
   cases b with
   | false=>
     simp only[dG]at hc;obtain⟨l,hl,he⟩:=i_.1 hc;simp at he
   | true=>
     simp only[dG]at hc;split at hc
     ·next l hl=>
      split at hc
      ·next hd=>
       rcases nY hc with⟨hc,hb⟩|⟨Ts,s,hc,_⟩
       ·simp only[IC.reg.injEq]at hc;obtain⟨_,rfl⟩:=hc;exact S9 (K:=Q .normal) hd hl hb hm (fun st' E' a' w' h1 h2=>⟨st',E',h1,h2⟩) (h _ fun _ h=>h) hR
       ·cases hc
      ·cases hc
     ·cases hc
 |block id x=>simp[dG]at hc
 |cond c x y=>simp only[dG]at hc;split at hc<;>simp at hc
 |seq x y=>simp only[dG]at hc;split at hc<;>simp at hc
 |ret=>simp[dG]at hc
 |exit id=>simp[dG]at hc
 |skip=>simp[dG]at hc
 |label l=>simp[dG]at hc
 |loop x=>simp[dG]at hc
 |rangeFunc=>simp[dG]at hc
 |scope=>simp[dG]at hc
 |goto=>simp[dG]at hc
 |refuse=>simp[dG]at hc
theorem dL{ops:List IOp}{Ts:List Nat}{s:Bool}(m:Bool)(hm:m=ops.any fun o=>o.i.cls==3)(h:∀K:St→Prop,(∀st',Q .normal st'→K st')→sd P m K ops st):mP lo P (.regN true s Ts ops) Q st:=fun code hc B Xs G w0 hG E a w hR=>by
 cases code with
 | region id cops b=>
   cases b with
   | false=>
     simp only[dG]at hc;obtain⟨l,hl,he⟩:=i_.1 hc;simp at he
   | true=>
     simp only[dG]at hc;split at hc
     ·next l hl=>
      split at hc
      ·next hd=>
       rcases nY hc with⟨hc,hb⟩|⟨Ts,s,hc,_⟩
       ·cases hc
       ·simp only[IC.regN.injEq]at hc;obtain⟨hb,_,_,rfl⟩:=hc;exact S9 (K:=Q .normal) hd hl hb.symm hm (fun st' E' a' w' h1 h2=>⟨st',E',h1,h2⟩) (h _ fun _ h=>h) hR
      ·cases hc
     ·cases hc
 |block id x=>simp[dG]at hc
 |cond c x y=>simp only[dG]at hc;split at hc<;>simp at hc
 |seq x y=>simp only[dG]at hc;split at hc<;>simp at hc
 |ret=>simp[dG]at hc
 |exit id=>simp[dG]at hc
 |skip=>simp[dG]at hc
 |label l=>simp[dG]at hc
 |loop x=>simp[dG]at hc
 |rangeFunc=>simp[dG]at hc
 |scope=>simp[dG]at hc
 |goto=>simp[dG]at hc
 |refuse=>simp[dG]at hc
theorem iL{ops:List IOp}{Ts:List Nat}{b s:Bool}(kc:Nat)(m:Bool)(hD:qc Ts st)(h:∀K:St→Prop,(∀st',Q .normal st'→K st')→sn P kc m Ts K ops st)(hS:Oe Ts=true→∀y∈Ts,∀k off,st.ev (.t y)= .bptr k off→k=kc:=by first|(intro h;exact absurd h (by decide))|(simp[Oe,St.ev,List.getD_cons_zero,List.getD_cons_succ];done))(hsm:zS Ts=true→m=true:=by first|(intro h;exact absurd h (by decide))|(intro _;rfl)):mP lo P (.regN b s Ts ops) Q st:=fun code hc B Xs G w0 hG E a w hR=>by
 cases code with
 | region id cops b=>
   cases b with
   | false=>
     simp only[dG]at hc;obtain⟨l,hl,he⟩:=Option.map_eq_some_iff.1 hc;simp at he
   | true=>
     simp only[dG]at hc;split at hc
     ·next l hl=>
      split at hc
      ·next hd=>
       rcases nY hc with⟨hc,hb⟩|⟨Ts,s,hc,hb,hs⟩
       ·cases hc
       ·simp only[IC.regN.injEq]at hc;obtain⟨_,_,rfl,rfl⟩:=hc;exact Ux (K:=Q .normal) (kc:=kc) (m:=m) hd hl hb hsm ⟨hD,hS⟩ (fun st' E' a' w' h1 h2=>⟨st',E',h1,h2⟩) (h _ fun _ h=>h) hR
      ·cases hc
     ·cases hc
 |block id x=>simp[dG]at hc
 |cond c x y=>simp only[dG]at hc;split at hc<;>simp at hc
 |seq x y=>simp only[dG]at hc;split at hc<;>simp at hc
 |ret=>simp[dG]at hc
 |exit id=>simp[dG]at hc
 |skip=>simp[dG]at hc
 |label l=>simp[dG]at hc
 |loop x=>simp[dG]at hc
 |rangeFunc=>simp[dG]at hc
 |scope=>simp[dG]at hc
 |goto=>simp[dG]at hc
 |refuse=>simp[dG]at hc
theorem mF{st:St}:qc [] st:=fun x hx=>by simp at hx
def AC.fits(n m:Nat):AC→Bool
 | .own k _=>decide (k<n)
 | .osub k _ _ _=>decide (k<n)
 | .cl _ caps=>caps.all fun k=>decide (k<m)
 |_=>true
def AV.fits(n m:Nat):AV→Bool
 | .c _ xs=>xs.all (AC.fits n m)
 | .ptr xs=>xs.all (AC.fits n m)
 | .bptr k _=>decide (k<m)
 | .eptr k _ _ _=>decide (k<n)
 | .tup ys=>ys.all fun y=>y.2.all (AC.fits n m)
 | .any=>true
def iE(n m:Nat):List AV→List AV→Prop
 | [],[]=>True
 |x::xs,y::ys=>(y= .any∨(x=y∧y.fits n m=true))∧iE n m xs ys
 |_,_=>False
def QZ(st st':St):Prop:=iE st'.owns.length st'.boxes.length st.fr st'.fr∧(∃r,st.owns=st'.owns++r)∧(∃r,st.boxes=st'.boxes++r)∧∀xs∈st'.boxes,xs.all (AC.fits st'.owns.length st'.boxes.length)=true
def fC :List Own→List Own→Prop
 |_,[]=>True
 |o::os,o'::os'=>(o.l=o'.l∧o.e=o'.e∧o.s=o'.s∧o.ver=o'.ver∧o.nw=o'.nw)∧fC os os'
 | [],_::_=>False
def fD :List (List AC)→List (List AC)→Prop
 |_,[]=>True
 |x::xs,y::ys=>x=y∧fD xs ys
 | [],_::_=>False
def fB(st st':St):Prop:=iE st'.owns.length st'.boxes.length st.fr st'.fr∧fC st.owns st'.owns∧fD st.boxes st'.boxes∧(st'.boxes.all fun xs=>xs.all (AC.fits st'.owns.length st'.boxes.length))=true
theorem Aa :∀{os os':List Own},fC os os'→∃r,os=os'++r
 |os,[],_=>⟨os,rfl⟩
 | o::os,o'::os',h=>by
   obtain⟨r,hr⟩:=Aa h.2;obtain⟨⟨h1,h2,h3,h4,h5⟩,_⟩:=h;refine⟨r, ?_⟩;rw[D_,← hr];congr 1;cases o;cases o';simp_all
 | [],_::_,h=>h.elim
theorem BM :∀{xs ys:List (List AC)},fD xs ys→∃r,xs=ys++r
 |xs,[],_=>⟨xs,rfl⟩
 | x::xs,y::ys,h=>by
   obtain⟨r,hr⟩:=BM h.2;exact⟨r,by rw[D_,← hr,h.1]⟩
 | [],_::_,h=>h.elim
theorem JX{st st':St}(h:fB st st'):QZ st st':=by
 obtain⟨h1,h2,h3,h4⟩:=h;exact⟨h1,Aa h2,BM h3,fun xs hx=>s_.1 h4 xs hx⟩
section
variable{E:Env}{os os':List Own}{w:World}{n m:Nat}
def Env.cut(E:Env)(n m:Nat):Env:={E with om:=E.om.take n,bm:=E.bm.take m}
theorem LC{b:Nat}(h:b∈(E.cut n m).M):b∈E.M:=by
 rcases jq.1 h with⟨k,p,h1,h2⟩|⟨k,p,h1,h2⟩
 ·refine jq.2 (y_ ⟨k,p, ?_,h2⟩);simp only[Env.cut]at h1;rw[d_]at h1;split at h1
  ·exact h1
  ·cases h1
 ·refine jq.2 (p_ ⟨k,p, ?_,h2⟩);simp only[Env.cut]at h1;rw[d_]at h1;split at h1
  ·exact h1
  ·cases h1
theorem AC.ok.cut{r:List Own}{x:AC}{v:Value}(h:x.ok E (os++r) w v)(hn:os.length=n)(hf:x.fits n m=true):x.ok (E.cut n m) os w v:=by
 cases x with
 |any=>trivial
 |raw u=>exact h
 | cl f caps=>
   obtain⟨ps,h1,h2⟩:=h;refine⟨ps, ?_,h2⟩;rw[← h1];refine Q_ fun k hk=> ?_
   have:k<m:=by simpa using s_.1 hf k hk
   simp only[Env.cut];rw[d_,if_pos this]
 | sl b l=>
   obtain⟨fp,h1,h2⟩:=h;exact⟨fp,h1,fun b hb=>⟨fun hm=>(h2 b hb).1 (LC hm),(h2 b hb).2⟩⟩
 | own k i=>
   obtain⟨hv,o,p,h1,h2,h3,h4⟩:=h;have hk:k<n:=by simpa[AC.fits]using hf
   refine⟨hv,o,p, ?_, ?_,h3,h4⟩
   ·rwa[g_ (by omega)]at h1
   ·simp only[Env.cut];rw[d_,if_pos hk];exact h2
 | osub k i pa pb=>
   obtain⟨hv,o,p,h1,h2,h3,h4⟩:=h;have hk:k<n:=by simpa[AC.fits]using hf
   refine⟨hv,o,p, ?_, ?_,h3,h4⟩
   ·rwa[g_ (by omega)]at h1
   ·simp only[Env.cut];rw[d_,if_pos hk];exact h2
theorem Oks.cut{r:List Own}(hn:os.length=n):∀{xs:List AC} {vs:List Value},Oks E (os++r) w xs vs→xs.all (AC.fits n m)=true→Oks (E.cut n m) os w xs vs
 | [],[],_,_=>trivial
 | x::xs,v::vs,h,hf=>by
   simp only[l_,e_]at hf;exact⟨h.1.cut hn hf.1,Oks.cut hn h.2 hf.2⟩
 | [],_::_,h,_=>h.elim
 |_::_,[],h,_=>h.elim
theorem Gok.cut{r:List Own}(hn:os.length=n){g:Bool}{xs:List AC}{v:Value}(h:Gok E (os++r) w g xs v)(hf:xs.all (AC.fits n m)=true):Gok (E.cut n m) os w g xs v:=by
 cases g with
 |true=>obtain⟨vs,h1,h2⟩:=h;exact⟨vs,h1,h2.cut hn hf⟩
 |false=>exact Oks.cut hn (show Oks _ _ _ xs [v] from h) hf
theorem o7.cut{r:List Own}(hn:os.length=n):∀{ys:List (Bool×List AC)} {vs:List Value},o7 E (os++r) w ys vs→(ys.all fun y=>y.2.all (AC.fits n m))=true→o7 (E.cut n m) os w ys vs
 | [],[],_,_=>trivial
 | x::xs,v::vs,h,hf=>by
   simp only[l_,e_]at hf;exact⟨h.1.cut hn hf.1,o7.cut hn h.2 hf.2⟩
 | [],_::_,h,_=>h.elim
 |_::_,[],h,_=>h.elim
theorem AV.ok.cut{r:List Own}(hn:os.length=n){x:AV}{v:Value}(h:x.ok E (os++r) w v)(hf:x.fits n m=true):x.ok (E.cut n m) os w v:=by
 cases x with
 |any=>trivial
 |c g xs=>exact Gok.cut hn h hf
 | ptr xs=>
   obtain⟨b,o,vs,h1,h2,h3,h4,h5⟩:=h;exact⟨b,o,vs,h1,h2,fun hm=>h3 (LC hm),h4,h5.cut hn hf⟩
 | bptr k off=>
   obtain⟨p,h1,h2⟩:=h;refine⟨p, ?_,h2⟩;simp only[Env.cut];rw[d_,if_pos (by simpa[AV.fits]using hf)];exact h1
 | eptr k i j off=>
   obtain⟨o,p,h1,h2,h3,h4⟩:=h;have hk:k<n:=by simpa[AV.fits]using hf
   refine⟨o,p, ?_, ?_,h3,h4⟩
   ·rwa[g_ (by omega)]at h1
   ·simp only[Env.cut];rw[d_,if_pos hk];exact h2
 | tup ys=>
   obtain⟨vs,h1,h2⟩:=h;exact⟨vs,h1,h2.cut hn hf⟩
end
theorem H7{n m:Nat}:∀{xs ys:List AV},iE n m xs ys→xs.length=ys.length∧∀(t:Nat) (y:AV),ys[t]? =some y→y= .any∨(xs[t]? =some y∧y.fits n m=true)
 | [],[],_=>⟨rfl,fun t y h=>by simp at h⟩
 | x ::xs,y::ys,h=>by
   obtain⟨h1,h2⟩:=H7 h.2;refine⟨by simp[h1],fun t z hz=> ?_⟩;cases t with
   | zero=>
     simp at hz;subst hz;rcases h.1 with h'|⟨h',h''⟩
     ·exact y_ h'
     ·exact p_ ⟨by simp[h'],h''⟩
   |succ t=>simpa using h2 t z (by simpa using hz)
 | [],_::_,h=>h.elim
 |_::_,[],h=>h.elim
theorem Rel.weak{B:Nat}{Xs:List Nat}{G:Org}{w0:World}{st st':St}{E:Env}{a:Act}{w:World}(h:Rel B Xs G w0 st E a w)(hle:QZ st st')(hG1:G.os.length≤st'.owns.length)(hG2:G.E.bm.length≤st'.boxes.length):∃E',Rel B Xs G w0 st' E' a w:=by
 obtain⟨h1,⟨r1,h2⟩,⟨r2,h3⟩,h4⟩:=hle;obtain⟨hl,hf⟩:=H7 h1;obtain⟨fr,os,bs⟩:=st;obtain⟨fr',os',bs'⟩:=st';simp only at h2 h3 h1 hl hf h4;subst h2 h3;have hol:=h.olen;have hbl:=h.blen;simp only[List.length_append]at hol hbl;refine⟨E.cut os'.length bs'.length, ?_⟩;exact
  { eb:=h.eb
    ex:=h.ex
    sim := { base:=h.sim.base,size:=h.sim.size,blk:=h.sim.blk,old:=fun b hb hm=>h.sim.old b hb (LC hm),
             own:=fun k o p g1 g2=>by
              obtain⟨o',p',q1,q2,q3⟩:=h.sim.own k o p g1 g2;have hk:k<os'.length:=z_ (b_.1 g1).1 hG1;refine⟨o',p', ?_, ?_,q3⟩
              ·simp only at q1⊢;rwa[g_ hk]at q1
              ·simp only[Env.cut];rw[d_,if_pos hk];exact q2
             box:=fun k p g=>by
              have hk:k<bs'.length:=z_ (b_.1 g).1 hG2;simp only[Env.cut];rw[d_,if_pos hk];exact h.sim.box k p g}
    defers:=h.defers
    size:=by rw[h.size];exact hl
    fr:=fun t y hy=>by
     rcases hf t y hy with rfl|⟨h5,h6⟩
     ·trivial
     ·exact(h.fr t y h5).cut rfl h6
    olen:=by simp only[Env.cut,I_];omega
    own:=fun k o p g1 g2=>by
     have hk:k<os'.length:=(b_.1 g1).1;simp only[Env.cut]at g2;rw[d_,if_pos hk]at g2;obtain⟨cs,h5,h6,h7,h8⟩:=h.own k o p (by simp only;rw[g_ hk];exact g1) g2;exact⟨cs,h5,h6,h7,fun b hb=>⟨fun hm=>(h8 b hb).1 (LC hm),(h8 b hb).2⟩⟩
    blen:=by simp only[Env.cut,I_];omega
    box:=fun k xs p g1 g2=>by
     have hk:k<bs'.length:=(b_.1 g1).1;simp only[Env.cut]at g2;rw[d_,if_pos hk]at g2;obtain⟨h5,vs,h6,h7⟩:=h.box k xs p (by simp only;rw[g_ hk];exact g1) g2;exact⟨h5,vs,h6,h7.cut rfl (h4 xs (f_ g1))⟩
    nodup:=by
     have:=h.nodup;unfold Env.M at this⊢;rw[o_]at this⊢;refine⟨this.1.sublist (by simp only[Env.cut];exact(v_ _ _).map _),this.2.1.sublist (by
      simp only[Env.cut];have e:=congrArg (a_r (fun p:Value×List Nat=>p.1.ownBlock.toList)) (List.take_append_drop os'.length E.om);rw[List.flatMap_append]at e;rw[← e];exact List.sublist_append_left _ _),fun x hx y hy=> ?_⟩
     refine this.2.2 x ?_ y ?_
     ·exact((v_ bs'.length E.bm).map _).subset hx
     ·obtain⟨p,hp,hpy⟩:=j_.1 hy;exact j_.2 ⟨p,List.mem_of_mem_take hp,hpy⟩
    lin:=by
     refine h.lin.map (fun k=>k) (fun j k e _ _=>e) fun k o p g1 g2 g3=>p_ ⟨o, ?_, ?_,g3⟩
     ·simp only;rw[g_ (b_.1 g1).1];exact g1
     ·simp only[Env.cut]at g2;rwa[d_,if_pos (b_.1 g1).1]at g2
    unf:=by
     refine h.unf.map (fun k=>k) fun k o p g1 g2 g3=>p_ ⟨o, ?_, ?_,g3⟩
     ·simp only;rw[g_ (b_.1 g1).1];exact g1
     ·simp only[Env.cut]at g2;rwa[d_,if_pos (b_.1 g1).1]at g2
    below:=h.below
    base:=h.base}
theorem Di{P:Program}{Q:Exit→Act→World→Prop}{a:Act}{w:World}{c:Code}(I:Nat→Act→World→Prop)(n:Nat)(h₀:I n a w)
 (round:∀n a w,I n a w→c.wp P (Exit.then (fun a' w'=>∃m,m<n∧I m a' w') Q) a w):(Code.loop c).wp P Q a w:=by
 intro b k cs;have key:∀n a w,I n a w→∃e a' w',Q e a' w'∧Arrives P (lone (b.at a (.code c:: .inLoop c::k)) cs w) b k cs e a' w':=by
  intro n
  induction n using Nat.strongRecOn with
  | _ n ih=>
    intro a w hI;obtain⟨e,a₁,w₁,hq,harr⟩:=round n a w hI b (.inLoop c::k) cs;cases e with
    | normal=>
      obtain⟨m,hlt,hI₁⟩:=hq;obtain⟨e₂,a₂,w₂,hq₂,harr₂⟩:=ih m hlt a₁ w₁ hI₁;exact⟨e₂,a₂,w₂,hq₂,.of_steps (Steps.trans harr (.one step_inLoop)) harr₂⟩
    |exit id=>exact⟨_,a₁,w₁,hq,.pass (x:= .inLoop c) rfl (fun _ _=> .inl (by simp)) harr⟩
    |goto l=>exact⟨_,a₁,w₁,hq,.pass (x:= .inLoop c) rfl (fun _ _=> .inl (by simp)) harr⟩
    |ret=>exact⟨_,a₁,w₁,hq,.pass (x:= .inLoop c) rfl (fun _ _=> .inl (by simp)) harr⟩
    |panic ch=>exact⟨_,a₁,w₁,hq,.pass (x:= .inLoop c) rfl (fun _ _=> .inl (by simp)) harr⟩
    |outgrown=>exact⟨_,a₁,w₁,hq,.pass (x:= .inLoop c) rfl (fun _ _=> .inl (by simp)) harr⟩
 obtain⟨e,a',w',hq,harr⟩:=key n a w h₀;exact⟨e,a',w',hq,.of_steps (.one step_loop) harr⟩
def xM{X:Type}(F:X→St)(inv:X→Prop)(μ:X→Nat)(x:X)(Q:Exit→St→Prop):Exit→St→Prop
 | .normal,st=>∃x',QZ st (F x')∧inv x'∧μ x'<μ x
 |e,st=>Q e st
theorem Nz{X:Type}{c:IC}(F:X→St)(inv:X→Prop)(μ:X→Nat)(x0:X)(h0:inv x0)(hlo:∀x,lo.1≤(F x).owns.length∧lo.2≤(F x).boxes.length)(hle:QZ st (F x0))(round:∀x,inv x→mP lo P c (xM F inv μ x Q) (F x)):mP lo P (.loop c) Q st:=fun code hc B Xs G w0 hG E a w hR=>by
 cases code with
 | loop cc=>
   simp only[dG]at hc;obtain⟨c',hcc,he⟩:=i_.1 hc;simp only[IC.loop.injEq]at he;subst he;obtain⟨E',hR'⟩:=hR.weak hle (n_ hG.1 (hlo _).1) (n_ hG.2 (hlo _).2);refine Di (fun n a w=>∃x E,μ x=n∧inv x∧Rel B Xs G w0 (F x) E a w) (μ x0) ⟨x0,E',rfl,h0,hR'⟩ ?_;rintro n a w ⟨x,E,rfl,hx,hR⟩;refine wp_mono (round x hx cc hcc B Xs G w0 hG E a w hR) ?_;rintro e a' w' ⟨st',E',h1,h2⟩;cases e with
   | normal=>
     obtain⟨x',h3,h4,h5⟩:=h2;obtain⟨E'',h6⟩:=h1.weak h3 (n_ hG.1 (hlo _).1) (n_ hG.2 (hlo _).2);exact⟨μ x',h5,x',E'',rfl,h4,h6⟩
   |_=>exact⟨st',E',h1,h2⟩
 |region id cops b=>exact(mG hc (by simp) (by simp)).elim
 |block id x=>simp[dG]at hc
 |cond c x y=>simp only[dG]at hc;split at hc<;>simp at hc
 |seq x y=>simp only[dG]at hc;split at hc<;>simp at hc
 |ret=>simp[dG]at hc
 |exit id=>simp[dG]at hc
 |skip=>simp[dG]at hc
 |label l=>simp[dG]at hc
 |rangeFunc=>simp[dG]at hc
 |scope=>simp[dG]at hc
 |goto=>simp[dG]at hc
 |refuse=>simp[dG]at hc
theorem QS{X:Type}{c:IC}(F:X→St)(inv:X→Prop)(μ:X→Nat)(x0:X)(h0:inv x0)(hle:QZ st (F x0))(round:∀x,inv x→AWP P c (xM F inv μ x Q) (F x)):AWP P (.loop c) Q st:=
 Nz F inv μ x0 h0 (fun _=>⟨u_ _,u_ _⟩) hle round
end
def stN(b:Bool)(n:Nat)(ds:List D):St:=⟨ds.map (D.avN b)++N_ (n - ds.length) (.c false [.raw undef]),[],[]⟩
def st0(n:Nat)(ds:List D):St:=⟨ds.map D.av++N_ (n - ds.length) (.c false [.raw undef]),[],[]⟩
theorem UW{w:World}{F:List Nat}{d:D}{v:Value}{H:Nat}{b:Bool}(h:RdF w F d v):(D.avN b d).ok ⟨H,[],[],if b then F else []⟩ [] w v:=by
 unfold RdF at h;show Gok _ _ _ d.isAgg (d.acs b) v;unfold Gok;have hn:∀x∈F,b=true→(⟨H,[],[],if b then F else []⟩:Env).nw x:=fun x hx e=>by subst e;exact p_ hx
 cases hg:d.isAgg with
 | true=>
   rw[hg,if_pos rfl]at h;obtain⟨fp,cs,h1,h2,h3⟩:=h;rw[if_pos rfl];exact⟨cs,h1,oM h2 (fun x hx=>⟨by simp[Env.M],hn x (h3 x hx)⟩)⟩
 | false=>
   rw[hg,if_neg (by simp)]at h;obtain⟨fp,h2,h3⟩:=h;rw[if_neg (by simp)];exact oM h2 (fun x hx=>⟨by simp[Env.M],hn x (h3 x hx)⟩)
theorem zU{w:World}{F:List Nat}:∀{ds:List D} {vs:List Value},xK w F ds vs→ds.length=vs.length∧∀(t:Nat) (d:D),ds[t]? =some d→∃v,vs[t]? =some v∧RdF w F d v
 | [],[],_=>⟨rfl,fun t d h=>by simp at h⟩
 | d::ds,v::vs,h=>by
   obtain⟨h1,h2⟩:=zU h.2;refine⟨by simp[h1],fun t x hx=> ?_⟩;cases t with
   |zero=>simp at hx;subst hx;exact⟨v,rfl,h.1⟩
   |succ t=>simpa using h2 t x (by simpa using hx)
 | [],_::_,h=>h.elim
 |_::_,[],h=>h.elim
theorem TR{w:World}{d:D}{v:Value}(h:Rd w d v):∃F,RdF w F d v:=by
 unfold Rd at h;unfold RdF;split at h
 ·obtain⟨fp,cs,h1,h2⟩:=h;exact⟨fp,by rw[if_pos ‹_›];exact⟨fp,cs,h1,h2,fun b hb=>hb⟩⟩
 ·obtain⟨fp,h2⟩:=h;exact⟨fp,by rw[if_neg ‹_›];exact⟨fp,h2,fun b hb=>hb⟩⟩
theorem Gp{w:World}:∀{ds:List D} {vs:List Value},Rds w ds vs→∃F,xK w F ds vs
 | [],[],_=>⟨[],trivial⟩
 | d::ds,v::vs,h=>by
   obtain⟨F1,h1⟩:=TR h.1;obtain⟨F2,h2⟩:=Gp h.2;exact⟨F1++F2,h1.mono (fun b hb=>x_ _ hb),h2.mono (fun b hb=>w_ _ hb)⟩
 | [],_::_,h=>h.elim
 |_::_,[],h=>h.elim
theorem MF{w:World}{F:List Nat}{ds:List D}{vs:List Value}(b:Bool)(h:xK w F ds vs)(ht:kT w)(n:Nat):Rel w.heap.size (if b then F else []) ⟨⟨w.heap.size,[],[],if b then F else []⟩,[],w⟩ w (stN b n ds) ⟨w.heap.size,[],[],if b then F else []⟩ {tmps:=vs.toArray++Array.replicate (n - vs.toArray.size) undef,defers:= []} w where
 eb:=r_ _
 ex:=rfl
 sim:=Sim.refl _ _ _
 defers:=rfl
 size:=by
  obtain⟨hl,_⟩:=zU h;simp[stN,hl]
 fr :=by
  obtain⟨hl,hg⟩:=zU h;intro t x hx;simp only[stN]at hx;rw[List.getElem?_append]at hx;simp only[Array.getD_eq_getD_getElem?];split at hx
  ·next ht=>
   rw[B_]at hx;obtain⟨d,hd,rfl⟩:=i_.1 hx;obtain⟨v,hv,hr⟩:=hg t d hd;rw[Array.getElem?_append_left (by simp at ht⊢;omega)];simp only[List.getElem?_toArray,hv,m_];exact UW hr
  ·next ht=>
   rw[List.getElem?_replicate]at hx;split at hx
   ·next hlt=>
    injection hx with hx
    subst hx;simp only[E_]at ht hlt;rw[Array.getElem?_append_right (by simp;omega),Array.getElem?_replicate];simp only[List.size_toArray,← hl];rw[if_pos hlt];exact⟨rfl,trivial⟩
   ·cases hx
 olen:=rfl
 own:=fun k o p h1 h2=>by simp[stN]at h1
 blen:=rfl
 box:=fun k xs p h1 h2=>by simp[stN]at h1
 nodup:=by simp[Env.M]
 lin:=Lin.nil
 unf:=Unf.nil
 below:=BelowT.start ht
 base:=r_ _
def JL(Fin:St→Prop):Exit→St→Prop
 | .normal,st=>Fin st
 | .ret,st=>Fin st
 |_,_=>False
theorem JA{P:Program}{f:Nat}{fn:Func}{code:Code}{ic:IC}{ds:List D}{Fin:St→Prop}{post:List Nat→World→Ending→World→Prop}(b:Bool)(hf:P.funcs[f]? =some fn)(hb:fn.body=some code)(hc:dG P code=some ic)
 (h:AWP P ic (JL Fin) (stN b fn.ntmps ds))
 (hfin:∀(F:List Nat) (G:Org) (w w':World) (st:St) (E:Env) (a:Act),Rel w.heap.size (if b then F else []) G w st E a w'→Fin st→∃v,(results fn a.tmps).run P w'= .ok v w'∧post F w (.returned v) w'):
 ∀(w:World) (F:List Nat) (vs:List Value),xK w F ds vs→kT w→Calls P f vs.toArray w (post F w):=by
 intro w F vs hr ht;refine calls_of_wp hf hb ?_;have:=h code hc w.heap.size _ _ w ⟨r_ _,r_ _⟩ _ _ w (MF b hr ht fn.ntmps);refine wp_mono this ?_;rintro e a' w' ⟨st',E',h1,h2⟩;cases e with
 | normal=>
   obtain⟨v,h3,h4⟩:=hfin F _ w w' st' E' a' h1 h2;exact⟨h1.defers,v,h3,h4⟩
 | ret=>
   obtain⟨v,h3,h4⟩:=hfin F _ w w' st' E' a' h1 h2;exact⟨h1.defers,v,h3,h4⟩
 |_=>exact h2.elim
theorem tu{P:Program}{f:Nat}{fn:Func}{code:Code}{ic:IC}{ds:List D}{Fin:St→Prop}{post:World→Ending→World→Prop}(hf:P.funcs[f]? =some fn)(hb:fn.body=some code)(hc:dG P code=some ic)
 (h:AWP P ic (JL Fin) (st0 fn.ntmps ds))
 (hfin:∀(G:Org) (w w':World) (st:St) (E:Env) (a:Act),Rel w.heap.size [] G w st E a w'→Fin st→∃v,(results fn a.tmps).run P w'= .ok v w'∧post w (.returned v) w'):
 ∀(w:World) (vs:List Value),Rds w ds vs→kT w→Calls P f vs.toArray w (post w):=by
 intro w vs hr ht;obtain⟨F,hF⟩:=Gp hr;exact JA (post:=fun _=>post) false hf hb hc h (fun F G w w' st E a hR=>hfin G w w' st E a hR) w F vs hF ht
def mZ(l:List D):Prop:=∀(w:World) (f:List Nat) (cs:List Value),Rs w l f cs→f= []
def kK(os:List Own):AC→AC→Prop
 |_,.any=>True
 | .raw v,.raw u=>v=u
 | .sl n l,.sl _ l'=>n=true∧l=l'
 | .own k i,.sl _ l=>∃o,os[k]? =some o∧o.ver=i∧o.l=l∧(o.nw.n=true∨mZ l)
 | .raw v,.sl _ l=>v= .slice none 0 0∧l= []
 |_,_=>False
def iJ(os:List Own):List AC→List AC→Prop
 | [],[]=>True
 |x::xs,y::ys=>kK os x y∧iJ os xs ys
 |_,_=>False
section
variable{B:Nat}{Xs:List Nat}{G:Org}{w0:World}{st:St}{E E':Env}{a:Act}{w:World}
def Cm(B:Nat)(Xs:List Nat)(E':Env):Prop:=∀b,(B≤b∨b∈Xs)→b∉E'.M∧E'.nw b
theorem EF(B:Nat):Cm B [] (mV B):=fun b hb=>by
 have:B≤b:=by simpa using hb
 exact⟨nV.2 this,y_ this⟩
theorem wR(h:Rel B Xs G w0 st E a w){b:Nat}(hb:E.nw b):B≤b∨b∈Xs:=by
 unfold Env.nw at hb;rw[h.ex]at hb;exact hb.imp_left (n_ h.eb)
theorem NK(h:Rel B Xs G w0 st E a w)(hE:Cm B Xs E'){x y:AC}{v:Value}(hf:kK st.owns x y)(hx:x.ok E st.owns w v):y.ok E' [] w v:=by
 cases y with
 |any=>trivial
 | raw u=>cases x with
   |raw v'=>obtain rfl:=hf;exact hx
   |_=>exact hf.elim
 | sl n l=>cases x with
   | sl n' l'=>
     obtain⟨rfl,rfl⟩:=hf;obtain⟨fp,h1,h2⟩:=hx;refine⟨fp,h1,fun b hb=> ?_⟩;have hB:=hE b (wR h ((h2 b hb).2 rfl));exact⟨hB.1,fun _=>hB.2⟩
   | own k i=>
     obtain⟨o,h1,h2,rfl,h3⟩:=hf;obtain⟨_,o',p,g1,g2,g3,g4⟩:=hx;rw[h1]at g1;injection g1 with g1
     subst g1;obtain rfl:=g4 h2;obtain⟨cs,h5,h6,h7,h8⟩:=h.own k o p h1 g2;refine⟨_,Sl.lZ h5 h6,fun b hb=> ?_⟩;have hB:E.nw b:=by
      rcases q_.1 hb with hb|hb
      ·exact h.tY (eP.lt h5 b (by simpa using hb)).1
      ·rcases h3 with h3|h3
       ·exact(h8 b hb).2 h3
       ·rw[h3 _ _ _ h6]at hb;simp at hb
     have hB:=hE b (wR h hB);exact⟨hB.1,fun _=>hB.2⟩
   | raw v'=>
     obtain⟨rfl,rfl⟩:=hf;obtain rfl:=hx;refine⟨[], ?_,fun b hb=>by simp at hb⟩;unfold Sl;rw[R];exact⟨none,0,rfl,r_ _,u_ _,y_ ⟨rfl,rfl⟩⟩
   |any=>exact hf.elim
   |osub _ _ _ _=>exact hf.elim
   |cl _ _=>exact hf.elim
 |own k i=>cases x<;>exact hf.elim
 |osub k i pa pb=>cases x<;>exact hf.elim
 |cl f caps=>cases x<;>exact hf.elim
theorem qB(h:Rel B Xs G w0 st E a w)(hE:Cm B Xs E'):∀{xs ys:List AC} {vs:List Value},iJ st.owns xs ys→Oks E st.owns w xs vs→Oks E' [] w ys vs
 | [],[],[],_,_=>trivial
 |x::xs,y::ys,v::vs,hf,hx=>⟨NK h hE hf.1 hx.1,qB h hE hf.2 hx.2⟩
 | [],[],_::_,_,hx=>hx.elim
 |_::_,_::_,[],_,hx=>hx.elim
 | [],_::_,_,hf,_=>hf.elim
 |_::_,[],_,hf,_=>hf.elim
theorem H6(h:Rel B Xs G w0 st E a w)(hE:Cm B Xs E'){g:Bool}{xs ys:List AC}{v:Value}(hf:iJ st.owns xs ys)(hx:Gok E st.owns w g xs v):Gok E' [] w g ys v:=by
 cases g with
 |true=>obtain⟨vs,h1,h2⟩:=hx;exact⟨vs,h1,qB h hE hf h2⟩
 |false=>exact qB h hE hf (show Oks _ _ _ xs [v] from hx)
end
theorem yR{os:List Own}:∀{xs ys:List AC},iJ os xs ys→xs.length=ys.length
 | [],[],_=>rfl
 |_::xs,_::ys,h=>by rw[t_,t_,yR h.2]
 | [],_::_,h=>h.elim
 |_::_,[],h=>h.elim
def U1(t:Nat)(g:Bool)(ys:List AC)(st:St):Prop:=∃xs,st.fr.getD t .any= .c g xs∧iJ st.owns xs ys
def U9(t:Nat)(ys:List AC)(st:St):Prop:=∃k xs,st.fr.getD t .any= .bptr k 0∧st.boxes[k]? =some xs∧iJ st.owns xs ys
def Uu(r:ResultVar)(g:Bool)(ys:List AC)(st:St):Prop:=match r with
 | .tmp t=>U1 t g ys st
 | .cell t _=>U9 t ys st
def zO(P:Program)(ty:TypeId)(n:Nat):Bool:=match P.info? ty,P.underlying ty with
 |some i,some d=>i.size==n && lN d
 |_,_=>false
def oK(P:Program)(r:ResultVar)(g:Bool)(n:Nat):Bool:=match r with
 | .tmp _=>true
 | .cell _ ty=>g && zO P ty n
def lF(r:ResultVar)(tmps:Array Value):Sem Value:=match r with
 | .tmp t=>pure (tmps.getD t undef)
 | .cell a t=>do loadVar t (← asAddr (tmps.getD a undef))
section
variable{P:Program}{f:Nat}{fn:Func}{code:Code}{ic:IC}{ds:List D}
theorem sH{B:Nat}{Xs:List Nat}{G:Org}{w0:World}{st:St}{E:Env}{a:Act}{w:World}(h:Rel B Xs G w0 st E a w){t:Nat}{x:AV}(hx:st.fr.getD t .any=x):x.ok E st.owns w (a.tmps.getD t undef):=by
 have:=gy h (.tmp t);simp only[opd,St.ev,Act.eval]at this;rwa[hx]at this
theorem KX{B:Nat}{Xs:List Nat}{G:Org}{w0:World}{st:St}{E E':Env}{a:Act}{w:World}(h:Rel B Xs G w0 st E a w)(hE:Cm B Xs E'){r:ResultVar}{g:Bool}{ys:List AC}(hp:oK P r g ys.length=true)(hf:Uu r g ys st):
 ∃v,(lF r a.tmps).run P w= .ok v w∧Gok E' [] w g ys v:=by
 cases r with
 | tmp t=>
   obtain⟨xs,h1,h2⟩:=hf;exact⟨_,rfl,H6 h hE h2 (sH h h1)⟩
 | cell t ty=>
   obtain⟨k,xs,h1,h2,h3⟩:=hf;simp only[oK,e_,zO]at hp;obtain⟨rfl,hp⟩:=hp;split at hp
   ·next i d hi hd=>
    simp only[e_,beq_iff_eq]at hp;obtain⟨p,g1,g2⟩:=sH h h1;obtain⟨_,vs,h4,h5⟩:=h.box k xs p h2 g1;have hlen:vs.length=i.size:=by rw[← h5.len,yR h3,hp.1]
    refine⟨.agg vs.toArray, ?_,vs,rfl,qB h hE h3 h5⟩;simp only[lF];rw[g2];have:=run_loadVar_row (P:=P) w p.1 p.2 ty vs.toArray (0,0) d h4 hd (by have:=hp.2;cases d<;>simp_all [lN]) (by rw[hi];simp[hlen]);simp[asAddr,this]
   ·cases hp
theorem x9{r q:ResultVar}(hr:fn.results= #[r,q])(tmps:Array Value){w:World}{v u:Value}(h:(lF r tmps).run P w= .ok v w)(h2:(lF q tmps).run P w= .ok u w):(results fn tmps).run P w= .ok (.tuple #[v,u]) w:=by
 have e:(results fn tmps).run P w=(lF r tmps >>=fun v=>lF q tmps >>=fun u=>pure (.tuple #[v,u]):Sem Value).run P w:=by
  have a1:∀(x:Result Addr) (f:Addr→World→Result Value) (g:Value→World→Result Value),(x.andThen f).andThen g=x.andThen fun a w=>(f a w).andThen g:=by
   intro x f g;cases x<;>rfl
  cases r<;>cases q<;>simp[results,hr,lF,a1]
 rw[e];simp[h,h2]
theorem gZ{t:Nat}{g:Bool}{ys:List AC}(hf:P.funcs[f]? =some fn:=by kernel_rfl)(hb:fn.body=some code:=by kernel_rfl)(hr:fn.results= #[.tmp t]:=by kernel_rfl)(hc:dG P code=some ic)
 (h:AWP P ic (JL (U1 t g ys)) (st0 fn.ntmps ds)):dN P f ds (.c g ys):=by
 refine tu (post:=fun w e w'=>CS (.c g ys) w e w') hf hb hc h ?_;rintro G w w' st E a hR ⟨xs,h1,h2⟩;refine⟨_,results_tmp hr a.tmps P w',_,rfl,H6 hR (EF _) h2 (sH hR h1),hR.below.out⟩
theorem kF{r q:ResultVar}{g g':Bool}{ys zs:List AC}(hf:P.funcs[f]? =some fn:=by kernel_rfl)(hb:fn.body=some code:=by kernel_rfl)(hr:fn.results= #[r,q]:=by kernel_rfl)(hp:(oK P r g ys.length && oK P q g' zs.length)=true:=by kernel_rfl)(hc:dG P code=some ic)
 (h:AWP P ic (JL (fun st=>Uu r g ys st∧Uu q g' zs st)) (st0 fn.ntmps ds)):dN P f ds (.tup [(g,ys),(g',zs)]):=by
 refine tu (post:=fun w e w'=>CS (.tup [(g,ys),(g',zs)]) w e w') hf hb hc h ?_;rintro G w w' st E a hR ⟨h1,h2⟩;simp only[Bool.and_eq_true]at hp;obtain⟨v,h3,h4⟩:=KX hR (EF _) hp.1 h1;obtain⟨u,h5,h6⟩:=KX hR (EF _) hp.2 h2;exact⟨_,x9 hr _ h3 h5,_,rfl,⟨[v,u],rfl,h4,h6,trivial⟩,hR.below.out⟩
def U0(k i:Nat)(l:List D)(e s:Nat)(st:St):Prop:=∃o,st.owns[k]? =some o∧o.ver=i∧o.l=l∧o.e=e∧o.s=s∧(o.nw.n=true∨mZ l)
def U8(t:Nat)(l:List D)(e s:Nat)(st:St):Prop:=∃k i o,st.fr.getD t .any= .c false [.own k i]∧st.owns[k]? =some o∧o.ver=i∧o.l=l∧o.e=e∧o.s=s∧(o.nw.n=true∨mZ l)
theorem Pm{G:Org}{w w':World}{st:St}{E:Env}{a:Act}(hR:Rel w.heap.size [] G w st E a w'){k i:Nat}{l:List D}{e s:Nat}{v:Value}(hv:(AC.own k i).ok E st.owns w' v)(h:U0 k i l e s st):
 ∃cs f,eP w' w.heap.size e s v l.length cs∧Rs w' l f cs∧∀b∈f,some b≠v.ownBlock∧w.heap.size≤b:=by
 obtain⟨o,h2,h3,rfl,rfl,rfl,h4⟩:=h;obtain⟨_,o',p,g1,g2,g3,g4⟩:=hv;rw[h2]at g1;injection g1 with g1
 subst g1;obtain⟨cs,h5,h6,h7,h8⟩:=hR.own k o p h2 g2;rw[g4 h3];refine⟨cs,p.2,oL h5 hR.eb,h6,fun b hb=>⟨fun e=> ?_, ?_⟩⟩
 ·exact(h8 b hb).1 (jq.2 (p_ ⟨k,p,g2,e.symm⟩))
 ·rcases h4 with h4|h4
  ·simpa using wR hR ((h8 b hb).2 h4)
  ·rw[h4 _ _ _ h6]at hb;simp at hb
theorem Nv{t:Nat}{l:List D}{e s:Nat}(hf:P.funcs[f]? =some fn:=by kernel_rfl)(hb:fn.body=some code:=by kernel_rfl)(hr:fn.results= #[.tmp t]:=by kernel_rfl)(hc:dG P code=some ic)
 (h:AWP P ic (JL (U8 t l e s)) (st0 fn.ntmps ds)):mM P f ds l e s:=by
 refine tu (post:=fun w e' w'=>wC false l e s w e' w') hf hb hc h ?_;rintro G w w' st E a hR ⟨k,i,o,h1,h2⟩;obtain⟨hv,_⟩:=sH hR h1;obtain⟨cs,f',h3,h4,h5⟩:=Pm hR hv ⟨o,h2⟩;exact⟨_,results_tmp hr a.tmps P w',_,cs,f',rfl,h3,h4,h5,hR.below.out⟩
def zJ(os:List Own)(pk:List Nat):AC→AC→Prop
 |_,.any=>True
 | .raw v,.raw u=>v=u
 | .sl n l,.sl m l'=>n=true∧m=true∧l=l'
 | .own k i,.sl m l=>m=true∧k∉pk∧∃o,os[k]? =some o∧o.ver=i∧o.l=l∧(o.nw.n=true∨mZ l)
 | .own k i,.own j z=>pk[j]? =some k∧z=0∧∃o,os[k]? =some o∧o.ver=i
 |_,_=>False
def oq(os:List Own)(pk:List Nat):List AC→List AC→Prop
 | [],[]=>True
 |x::xs,y::ys=>zJ os pk x y∧oq os pk xs ys
 |_,_=>False
def yS(o o':Own):Prop:=match o'.nw.lin with
 |false=>o.nw.n=true∨mZ o.l
 |true=>(o.nw.n=true∧o.nw.lin=true)∨mZ o.l
def qG(os:List Own):List Nat→List Own→Prop
 | [],[]=>True
 |k::pk,o'::os'=>(∃o,os[k]? =some o∧o'=⟨o.l,o.e,o.s,0,⟨true,o'.nw.lin⟩⟩∧yS o o')∧qG os pk os'
 |_,_=>False
def Q8(pk:List Nat)(r:ResultVar)(g:Bool)(ys:List AC)(st:St):Prop:=match r with
 | .tmp t=>∃xs,st.fr.getD t .any= .c g xs∧oq st.owns pk xs ys
 | .cell t _=>∃k xs,st.fr.getD t .any= .bptr k 0∧st.boxes[k]? =some xs∧oq st.owns pk xs ys
theorem wo{os:List Own}{pk:List Nat}:∀{xs ys:List AC},oq os pk xs ys→xs.length=ys.length
 | [],[],_=>rfl
 |_::xs,_::ys,h=>by rw[t_,t_,wo h.2]
 | [],_::_,h=>h.elim
 |_::_,[],h=>h.elim
theorem yS.weak{o o':Own}(h:yS o o'):o.nw.n=true∨mZ o.l:=by
 unfold yS at h;split at h
 ·exact h
 ·exact h.imp And.left id
theorem yS.lin{o o':Own}(h:yS o o')(e:o'.nw.lin=true):o.nw.lin=true∨mZ o.l:=by
 unfold yS at h;rw[e]at h;exact h.imp And.right id
theorem vF{os:List Own}:∀{pk:List Nat} {os':List Own},qG os pk os'→pk.length=os'.length∧∀(j k:Nat) (o':Own),pk[j]? =some k→os'[j]? =some o'→∃o,os[k]? =some o∧o'=⟨o.l,o.e,o.s,0,⟨true,o'.nw.lin⟩⟩∧yS o o'
 | [],[],_=>⟨rfl,fun j k o' h=>by simp at h⟩
 | k::pk,o'::os',h=>by
   obtain⟨h1,h2⟩:=vF h.2;refine⟨by simp[h1],fun j k' o'' g1 g2=> ?_⟩;cases j with
   |zero=>simp at g1 g2;subst g1 g2;exact h.1
   |succ j=>exact h2 j k' o'' (by simpa using g1) (by simpa using g2)
 | [],_::_,h=>h.elim
 |_::_,[],h=>h.elim
section
variable{B:Nat}{G:Org}{w0:World}{st:St}{E:Env}{a:Act}{w:World}{pk:List Nat}{os':List Own}
def vw(E:Env)(pk:List Nat):List (Value×List Nat):=pk.map fun k=>E.om.getD k (undef,[])
theorem zW{j k:Nat}(h:pk[j]? =some k):(vw E pk)[j]? =some (E.om.getD k (undef,[])):=by simp[vw,h]
theorem zV(h:Rel B [] G w0 st E a w)(ho:qG st.owns pk os'){b:Nat}(hb:b∈(vw E pk).flatMap fun q=>q.1.ownBlock.toList):∃k∈pk,∃p,E.om[k]? =some p∧p.1.ownBlock=some b:=by
 obtain⟨q,hq,hqb⟩:=j_.1 hb;obtain⟨k,hk,rfl⟩:=h_.1 hq;obtain⟨j,hj⟩:=O_.1 hk;obtain⟨h1,h2⟩:=vF ho;have hj':j<os'.length:=by rw[← h1];exact(b_.1 hj).1
 obtain⟨o,g1,_⟩:=h2 j k _ hj (a_ hj');have hke:k<E.om.length:=by rw[h.olen];exact(b_.1 g1).1
 exact⟨k,hk,E.om[k],a_ hke,by rw[c_,a_ hke]at hqb;simpa using hqb⟩
theorem BP(h:Rel B [] G w0 st E a w){i j:Nat}{p q:Value×List Nat}{b:Nat}(hi:E.om[i]? =some p)(hj:E.om[j]? =some q)(hp:p.1.ownBlock=some b)(hq:q.1.ownBlock=some b):i=j:=by
 have hn:=h.nodup;unfold Env.M at hn;rw[o_]at hn;have : ∀(L:List (Value×List Nat)) (i j:Nat) (p q:Value×List Nat),(L.flatMap (fun p=>p.1.ownBlock.toList)).Nodup→L[i]? =some p→L[j]? =some q→p.1.ownBlock=some b→q.1.ownBlock=some b→i=j:=by
  intro L
  induction L with
  |nil=>intro i j p q _ hi;simp at hi
  | cons z L ih=>
    intro i j p q hn hi hj hpb hqb;rw[C_,o_]at hn;cases i with
    | zero=>
      cases j with
      |zero=>rfl
      | succ j=>
        simp at hi hj;subst hi;exact absurd rfl (hn.2.2 b (by simp[hpb]) b (j_.2 ⟨q,f_ hj,by simp[hqb]⟩))
    | succ i=>
      cases j with
      | zero=>
        simp at hi hj;subst hj;exact absurd rfl (hn.2.2 b (by simp[hqb]) b (j_.2 ⟨p,f_ hi,by simp[hpb]⟩))
      | succ j=>
        simp at hi hj;rw[ih i j p q hn.2.1 hi hj hpb hqb]
 exact this E.om i j p q hn.2.1 hi hj hp hq
theorem MI(h:Rel B [] G w0 st E a w)(ho:qG st.owns pk os')(hnd:pk.Nodup):o8 B w (vw E pk) os':=by
 obtain⟨h1,h2⟩:=vF ho;refine⟨by simp[vw,h1],fun j o' p g1 g2=> ?_, ?_⟩
 ·have hj:j<pk.length:=by rw[h1];exact(b_.1 g1).1
  have hk:=a_ hj;obtain⟨o,g3,g4e,g4o⟩:=h2 j _ o' hk g1;have g4:=g4o.weak;rw[g4e];have hke:pk[j]<E.om.length:=by rw[h.olen];exact(b_.1 g3).1
  rw[zW hk,c_,a_ hke]at g2;simp only[m_,A_]at g2;subst g2;obtain⟨cs,h5,h6,h7,h8⟩:=h.own _ o _ g3 (a_ hke);refine⟨cs,oL h5 h.eb,h6,h7,fun b hb=>⟨?_,fun hm=> ?_⟩⟩
  ·rcases g4 with g4|g4
   ·simpa using wR h ((h8 b hb).2 g4)
   ·rw[g4 _ _ _ h6]at hb;simp at hb
  ·obtain⟨k,_,p,g5,g6⟩:=zV h ho hm;exact(h8 b hb).1 (jq.2 (p_ ⟨k,p,g5,g6⟩))
 ·have hpk:∀(j:Nat) (o':Own) (p:Value×List Nat),os'[j]? =some o'→(vw E pk)[j]? =some p→o'.nw.lin=true→p.2= []∨∃o,st.owns[pk.getD j 0]? =some o∧E.om[pk.getD j 0]? =some p∧o.nw.lin=true:=by
   intro j o' p g1 g2 g3;have hj:j<pk.length:=by rw[h1];exact(b_.1 g1).1
   have hk:=a_ hj;obtain⟨o,q1,q2,q3⟩:=h2 j _ o' hk g1;have hke:pk[j]<E.om.length:=by rw[h.olen];exact(b_.1 q1).1
   rw[zW hk,c_,a_ hke]at g2;simp only[m_,A_]at g2;subst g2;rcases q3.lin g3 with e|e
   ·refine p_ ⟨o, ?_, ?_,e⟩
    ·rw[c_,hk];exact q1
    ·rw[c_,hk];exact a_ hke
   ·obtain⟨cs,_,h6,_⟩:=h.own _ o _ q1 (a_ hke);exact y_ (e _ _ _ h6)
  refine⟨?_, ?_, ?_⟩
  rotate_left
  ·refine h.lin.map (fun j=>pk.getD j 0) (fun i j hij hi hj e=>hij ?_) hpk;have hi':i<pk.length:=by omega
   have hj':j<pk.length:=by omega
   simp only[c_,a_ hi',a_ hj',m_]at e;exact(a_d hnd).1 e
  ·exact h.unf.map (fun j=>pk.getD j 0) hpk
  have :∀(pk:List Nat) (os':List Own),qG st.owns pk os'→pk.Nodup→((vw E pk).flatMap fun q=>q.1.ownBlock.toList).Nodup:=by
   intro pk
   induction pk with
   |nil=>intro os' _ _;exact a_i
   | cons k pk ih=>
     intro os' ho hnd
     match os',ho with
     | o'::os',ho=>
       rw[a_f]at hnd;obtain⟨o,g1,_⟩:=ho.1;have hke:k<E.om.length:=by rw[h.olen];exact(b_.1 g1).1
       show(a_r _ (E.om.getD k (undef,[])::vw E pk)).Nodup;rw[C_,o_];refine⟨by cases(E.om.getD k (undef,[])).1.ownBlock<;>simp,ih os' ho.2 hnd.2,fun x hx y hy e=> ?_⟩;subst e;obtain⟨k',hk',p,g5,g6⟩:=zV h ho.2 hy;rw[c_,a_ hke]at hx;exact hnd.1 (BP h (a_ hke) g5 (by simpa using hx) g6▸hk')
  exact this pk os' ho hnd
theorem JI(h:Rel B [] G w0 st E a w)(ho:qG st.owns pk os'){x y:AC}{v:Value}(hf:zJ st.owns pk x y)(hx:x.ok E st.owns w v):y.ok ⟨B,vw E pk,[],[]⟩ os' w v:=by
 have hnew:∀b,(B≤b)→(∀k∈pk,∀p,E.om[k]? =some p→p.1.ownBlock≠some b)→b∉(⟨B,vw E pk,[],[]⟩:Env).M∧(true=true→(⟨B,vw E pk,[],[]⟩:Env).nw b):=fun b hB hk=>⟨fun hm=>by
  simp only[Env.M,V_,L_]at hm;obtain⟨k,hk1,p,g1,g2⟩:=zV h ho hm;exact hk k hk1 p g1 g2,fun _=>y_ hB⟩
 cases y with
 |any=>trivial
 | raw u=>cases x with
   |raw v'=>obtain rfl:=hf;exact hx
   |_=>exact hf.elim
 | sl n l=>cases x with
   | sl n' l'=>
     obtain⟨rfl,rfl,rfl⟩:=hf;obtain⟨fp,h1,h2⟩:=hx;exact⟨fp,h1,fun b hb=>hnew b (by simpa using wR h ((h2 b hb).2 rfl)) (fun k _ p g1 g2=>(h2 b hb).1 (jq.2 (p_ ⟨k,p,g1,g2⟩)))⟩
   | own k i=>
     obtain⟨rfl,hk,o,h1,h2,rfl,h3⟩:=hf;obtain⟨_,o',p,g1,g2,g3,g4⟩:=hx;rw[h1]at g1;injection g1 with g1
     subst g1;obtain rfl:=g4 h2;obtain⟨cs,h5,h6,h7,h8⟩:=h.own k o p h1 g2;refine⟨_,Sl.lZ h5 h6,fun b hb=> ?_⟩;rcases q_.1 hb with hb|hb
     ·have hb':p.1.ownBlock=some b:=by simpa using hb
      exact hnew b (n_ h.eb (eP.lt h5 b hb').1) (fun k' hk' p' g5 g6=>hk (BP h g2 g5 hb' g6▸hk'))
     ·refine hnew b ?_ (fun k' _ p' g5 g6=>(h8 b hb).1 (jq.2 (p_ ⟨k',p',g5,g6⟩)));rcases h3 with h3|h3
      ·simpa using wR h ((h8 b hb).2 h3)
      ·rw[h3 _ _ _ h6]at hb;simp at hb
   |raw v'=>exact hf.elim
   |any=>exact hf.elim
   |osub _ _ _ _=>exact hf.elim
   |cl _ _=>exact hf.elim
 |osub _ _ _ _=>cases x<;>exact hf.elim
 | own j z=>cases x with
   | own k i=>
     obtain⟨hj,rfl,o,h1,h2⟩:=hf;obtain⟨hv,o',p,g1,g2,g3,g4⟩:=hx;rw[h1]at g1;injection g1 with g1
     subst g1;obtain⟨l1,l2⟩:=vF ho;have hj':j<os'.length:=by rw[← l1];exact(b_.1 hj).1
     obtain⟨o2,q1,q2,_⟩:=l2 j k _ hj (a_ hj');refine⟨hv,os'[j],p,a_ hj', ?_,u_ _,fun _=>g4 h2⟩;rw[zW hj,c_,g2];rfl
   |_=>exact hf.elim
 |cl f caps=>cases x<;>exact hf.elim
theorem oW(h:Rel B [] G w0 st E a w)(ho:qG st.owns pk os'):∀{xs ys:List AC} {vs:List Value},oq st.owns pk xs ys→Oks E st.owns w xs vs→Oks ⟨B,vw E pk,[],[]⟩ os' w ys vs
 | [],[],[],_,_=>trivial
 |x::xs,y::ys,v::vs,hf,hx=>⟨JI h ho hf.1 hx.1,oW h ho hf.2 hx.2⟩
 | [],[],_::_,_,hx=>hx.elim
 |_::_,_::_,[],_,hx=>hx.elim
 | [],_::_,_,hf,_=>hf.elim
 |_::_,[],_,hf,_=>hf.elim
theorem Ic{P:Program}(h:Rel B [] G w0 st E a w)(ho:qG st.owns pk os'){r:ResultVar}{g:Bool}{ys:List AC}(hp:oK P r g ys.length=true)(hf:Q8 pk r g ys st):
 ∃v,(lF r a.tmps).run P w= .ok v w∧Gok ⟨B,vw E pk,[],[]⟩ os' w g ys v:=by
 cases r with
 | tmp t=>
   obtain⟨xs,h1,h2⟩:=hf;refine⟨_,rfl, ?_⟩;have hx:=sH h h1;cases g with
   |true=>obtain⟨vs,h3,h4⟩:=hx;exact⟨vs,h3,oW h ho h2 h4⟩
   |false=>exact oW h ho h2 (show Oks _ _ _ xs [_] from hx)
 | cell t ty=>
   obtain⟨k,xs,h1,h2,h3⟩:=hf;simp only[oK,e_,zO]at hp;obtain⟨rfl,hp⟩:=hp;split at hp
   ·next i d hi hd=>
    simp only[e_,beq_iff_eq]at hp;obtain⟨p,g1,g2⟩:=sH h h1;obtain⟨_,vs,h4,h5⟩:=h.box k xs p h2 g1;have hlen:vs.length=i.size:=by rw[← h5.len,wo h3,hp.1]
    refine⟨.agg vs.toArray, ?_,vs,rfl,oW h ho h3 h5⟩;simp only[lF];rw[g2];have:=run_loadVar_row (P:=P) w p.1 p.2 ty vs.toArray (0,0) d h4 hd (by have:=hp.2;cases d<;>simp_all [lN]) (by rw[hi];simp[hlen]);simp[asAddr,this]
   ·cases hp
end
theorem rU{r q:ResultVar}{g g':Bool}{ys zs:List AC}{os':List Own}(hf:P.funcs[f]? =some fn:=by kernel_rfl)(hb:fn.body=some code:=by kernel_rfl)(hr:fn.results= #[r,q]:=by kernel_rfl)(hp:(oK P r g ys.length && oK P q g' zs.length)=true:=by kernel_rfl)(hc:dG P code=some ic)
 (h:AWP P ic (JL (fun st=>∃pk:List Nat,pk.Nodup∧qG st.owns pk os'∧Q8 pk r g ys st∧Q8 pk q g' zs st)) (st0 fn.ntmps ds)):lT P f ds (.tup [(g,ys),(g',zs)]) os':=by
 refine tu (post:=fun w e w'=>Fz (.tup [(g,ys),(g',zs)]) os' w e w') hf hb hc h ?_;rintro G w w' st E a hR ⟨pk,hnd,ho,h1,h2⟩;simp only[Bool.and_eq_true]at hp;obtain⟨v,h3,h4⟩:=Ic hR ho hp.1 h1;obtain⟨u,h5,h6⟩:=Ic hR ho hp.2 h2;exact⟨_,x9 hr _ h3 h5,_,vw E pk,rfl,MI hR ho hnd,⟨[v,u],rfl,h4,h6,trivial⟩,hR.below.out⟩
end
section
variable{lo:Nat×Nat}{P:Program}{y:IC}{Q:Exit→St→Prop}{st:St}{i j:Nat}{c:Opd}
theorem dQ(h:mP lo P y Q st):FK lo P y Q .normal st:=h
theorem bC(h:Q (.exit i) st):FK lo P y Q (.exit i) st:=h
theorem bU(h:Q .ret st):FK lo P y Q .ret st:=h
theorem aO(h:Q .normal st):xO i Q .normal st:=h
theorem bF(h:Q .ret st):xO i Q .ret st:=h
theorem aY(h:Q .normal st):xO i Q (.exit i) st:=by
 show ite _ _ _;rw[if_pos rfl];exact h
theorem aX(hij:(j==i)=false)(h:Q (.exit j) st):xO i Q (.exit j) st:=by
 show ite _ _ _;rw[if_neg (by simpa using hij)];exact h
theorem aW{X:Type}{F:X→St}{inv:X→Prop}{μ:X→Nat}{x:X}(h:Q (.exit i) st):xM F inv μ x Q (.exit i) st:=h
theorem bD{X:Type}{F:X→St}{inv:X→Prop}{μ:X→Nat}{x:X}(h:Q .ret st):xM F inv μ x Q .ret st:=h
theorem dX{Fin:St→Prop}(h:Fin st):JL Fin .ret st:=h
theorem aZ{x:IC}(hb:st.ev c= .c false [.raw (.bool true)])(h:mP lo P x Q st):mP lo P (.cond c x y) Q st:=BR hb (fun _=>h) (fun e=>by cases e)
theorem bg{x:IC}(hb:st.ev c= .c false [.raw (.bool false)])(h:mP lo P y Q st):mP lo P (.cond c x y) Q st:=BR hb (fun e=>by cases e) (fun _=>h)
end
theorem OZ{x0:Opd}:I.plain (.mov x0)=true:=by simp only[I.plain]
theorem KC{x0:Opd}{x1:Opd}{x2:Opd}:I.plain (.pick x0 x1 x2)=true:=by simp only[I.plain]
theorem Ph{x0:BinOp}{x1:Opd}{x2:Opd}:I.plain (.bin x0 x1 x2)=true:=by simp only[I.plain]
theorem Pj{x0:Bool}{x1:Opd}{x2:Opd}:I.plain (.beq x0 x1 x2)=true:=by simp only[I.plain]
theorem OX{x0:Opd}:I.plain (.not x0)=true:=by simp only[I.plain]
theorem KD{x0:Nat}{x1:Bool}{x2:Opd}:I.plain (.load x0 x1 x2)=true:=by simp only[I.plain]
theorem O6{x0:Nat}{x1:Opd}:I.plain (.fad x0 x1)=true:=by simp only[I.plain]
theorem OY{x0:Opd}:I.plain (.nck x0)=true:=by simp only[I.plain]
theorem Gw{x0:List Value}:I.plain (.alloc x0)=true:=by simp only[I.plain]
theorem Pe{x0:Opd}:I.plain (.box x0)=true:=by simp only[I.plain]
theorem Gv{x0:Nat}{x1:Opd}{x2:Opd}:I.plain (.store x0 x1 x2)=true:=by simp only[I.plain]
theorem KF{x0:Bool}{x1:Nat}{x2:Nat}{x3:Nat}{x4:Bool}{x5:List Opd}:I.plain (.brow x0 x1 x2 x3 x4 x5)=true:=by simp only[I.plain]
theorem Pg{x0:List Value}{x1:List (Nat×Nat×Opd)}:I.plain (.bld x0 x1)=true:=by simp only[I.plain]
theorem O5{x0:Nat}{x1:Nat}{x2:Bool}{x3:Opd}:I.plain (.fld x0 x1 x2 x3)=true:=by simp only[I.plain]
theorem KA{x0:Opd}{x1:Opd}:I.plain (.sidx x0 x1)=true:=by simp only[I.plain]
theorem OW{x0:Opd}{x1:Option Opd}{x2:Option Opd}:I.plain (.ssl x0 x1 x2)=true:=by simp only[I.plain]
theorem O7{x0:Nat}{x1:Opd}:I.plain (.ext x0 x1)=true:=by simp only[I.plain]
theorem O4{x0:Bool}{x1:Opd}:I.plain (.len x0 x1)=true:=by simp only[I.plain]
theorem OC{x0:Opd}:I.plainW (.mov x0)=true:=by simp only[I.plainW]
theorem Kq{x0:Opd}{x1:Opd}{x2:Opd}:I.plainW (.pick x0 x1 x2)=true:=by simp only[I.plainW]
theorem OQ{x0:BinOp}{x1:Opd}{x2:Opd}:I.plainW (.bin x0 x1 x2)=true:=by simp only[I.plainW]
theorem OT{x0:Bool}{x1:Opd}{x2:Opd}:I.plainW (.beq x0 x1 x2)=true:=by simp only[I.plainW]
theorem OA{x0:Opd}:I.plainW (.not x0)=true:=by simp only[I.plainW]
theorem Kr{x0:Nat}{x1:Bool}{x2:Opd}:I.plainW (.load x0 x1 x2)=true:=by simp only[I.plainW]
theorem OH{x0:Nat}{x1:Opd}:I.plainW (.fad x0 x1)=true:=by simp only[I.plainW]
theorem OB{x0:Opd}:I.plainW (.nck x0)=true:=by simp only[I.plainW]
theorem Gq{x0:List Value}:I.plainW (.alloc x0)=true:=by simp only[I.plainW]
theorem OM{x0:Opd}:I.plainW (.box x0)=true:=by simp only[I.plainW]
theorem OO{x0:List Value}{x1:List (Nat×Nat×Opd)}:I.plainW (.bld x0 x1)=true:=by simp only[I.plainW]
theorem OG{x0:Nat}{x1:Nat}{x2:Bool}{x3:Opd}:I.plainW (.fld x0 x1 x2 x3)=true:=by simp only[I.plainW]
theorem Ko{x0:Opd}{x1:Opd}:I.plainW (.sidx x0 x1)=true:=by simp only[I.plainW]
theorem Oz{x0:Opd}{x1:Option Opd}{x2:Option Opd}:I.plainW (.ssl x0 x1 x2)=true:=by simp only[I.plainW]
theorem OI{x0:Nat}{x1:Opd}:I.plainW (.ext x0 x1)=true:=by simp only[I.plainW]
theorem OE{x0:Bool}{x1:Opd}:I.plainW (.len x0 x1)=true:=by simp only[I.plainW]
theorem O1{f:Nat}{xs:List Opd}:I.plain (.mkf f xs)=true:=by simp only[I.plain]
theorem KE{b:Bool}{x:Opd}:I.plain (.fnil b x)=true:=by simp only[I.plain]
theorem Kz{b:Bool}{x:Opd}:I.plain (.snil b x)=true:=by simp only[I.plain]
theorem KG{b:Bool}{k:List Value}{x y:Opd}:I.plain (.beqS b k x y)=true:=by simp only[I.plain]
theorem Ku{b:Bool}{k:List Value}{x y:Opd}:I.plainW (.beqS b k x y)=true:=by simp only[I.plainW]
theorem Lm{b:Bool}{k:List Value}{x y:Opd}:eff (.beqS b k x y)=false:=by simp[eff,I.cls]
theorem O9{k:IntKind}{x:Opd}:I.plain (.cvi k x)=true:=by simp only[I.plain]
theorem O8{x:Opd}:I.plain (.cvs x)=true:=by simp only[I.plain]
theorem KH{e:Nat}{x y:Opd}:I.plain (.apps e x y)=true:=by simp only[I.plain]
theorem OL{k:IntKind}{x:Opd}:I.plainW (.cvi k x)=true:=by simp only[I.plainW]
theorem OJ{x:Opd}:I.plainW (.cvs x)=true:=by simp only[I.plainW]
theorem Kv{e:Nat}{x y:Opd}:I.plainW (.apps e x y)=true:=by simp only[I.plainW]
theorem Qy{k:IntKind}{x:Opd}:eff (.cvi k x)=false:=by simp[eff,I.cls]
theorem Qx{x:Opd}:eff (.cvs x)=false:=by simp[eff,I.cls]
theorem Lp{e:Nat}{x y:Opd}:eff (.apps e x y)=true:=by simp[eff,I.cls]
theorem Tv{e:Nat}{z:Value}{x:Opd}:I.plain (.mk e z x)=true:=by simp only[I.plain]
theorem OD{f:Nat}{xs:List Opd}:I.plainW (.mkf f xs)=true:=by simp only[I.plainW]
theorem Kt{b:Bool}{x:Opd}:I.plainW (.fnil b x)=true:=by simp only[I.plainW]
theorem J9{b:Bool}{x:Opd}:I.plainW (.snil b x)=true:=by simp only[I.plainW]
theorem Tt{e:Nat}{z:Value}{x:Opd}:I.plainW (.mk e z x)=true:=by simp only[I.plainW]
theorem Qr{f:Nat}{xs:List Opd}:eff (.mkf f xs)=false:=by simp[eff,I.cls]
theorem Lh{b:Bool}{x:Opd}:eff (.fnil b x)=false:=by simp[eff,I.cls]
theorem La{b:Bool}{x:Opd}:eff (.snil b x)=false:=by simp[eff,I.cls]
theorem TG{e:Nat}{z:Value}{x:Opd}:eff (.mk e z x)=true:=by simp[eff,I.cls]
theorem Qq{x0:Opd}:eff (.mov x0)=false:=by simp[eff,I.cls]
theorem Ld{x0:Opd}{x1:Opd}{x2:Opd}:eff (.pick x0 x1 x2)=false:=by simp[eff,I.cls]
theorem QB{x0:BinOp}{x1:Opd}{x2:Opd}:eff (.bin x0 x1 x2)=false:=by simp[eff,I.cls]
theorem QC{x0:Bool}{x1:Opd}{x2:Opd}:eff (.beq x0 x1 x2)=false:=by simp[eff,I.cls]
theorem Qo{x0:Opd}:eff (.not x0)=false:=by simp[eff,I.cls]
theorem Le{x0:Nat}{x1:Bool}{x2:Opd}:eff (.load x0 x1 x2)=false:=by simp[eff,I.cls]
theorem Qv{x0:Nat}{x1:Opd}:eff (.fad x0 x1)=false:=by simp[eff,I.cls]
theorem Qp{x0:Opd}:eff (.nck x0)=false:=by simp[eff,I.cls]
theorem Ii{x0:List Value}:eff (.alloc x0)=true:=by simp[eff,I.cls]
theorem Qz{x0:Opd}:eff (.box x0)=true:=by simp[eff,I.cls]
theorem Ih{x0:Nat}{x1:Opd}{x2:Opd}:eff (.store x0 x1 x2)=true:=by simp[eff,I.cls]
theorem QA{x0:List Value}{x1:List (Nat×Nat×Opd)}:eff (.bld x0 x1)=false:=by simp[eff,I.cls]
theorem Qu{x0:Nat}{x1:Nat}{x2:Bool}{x3:Opd}:eff (.fld x0 x1 x2 x3)=false:=by simp[eff,I.cls]
theorem Lc{x0:Opd}{x1:Opd}:eff (.sidx x0 x1)=false:=by simp[eff,I.cls]
theorem Qn{x0:Opd}{x1:Option Opd}{x2:Option Opd}:eff (.ssl x0 x1 x2)=false:=by simp[eff,I.cls]
theorem Qw{x0:Nat}{x1:Opd}:eff (.ext x0 x1)=false:=by simp[eff,I.cls]
theorem Qs{x0:Bool}{x1:Opd}:eff (.len x0 x1)=false:=by simp[eff,I.cls]
theorem Lj{e s n:Nat}{g:Bool}{xs:List Opd}:eff (.brow false e s n g xs)=false:=by simp[eff,I.cls]
theorem Ll{e s n:Nat}{g:Bool}{xs:List Opd}:eff (.brow true e s n g xs)=true:=by simp[eff,I.cls]
theorem eF{st:St}:mo true st= []:=by simp[mo]
theorem eG{st:St}:mo false st=st.owns:=by simp[mo]
inductive Sp where
 |k
 |d
 |v (x:AV)
def eX :List Sp→List AV→List AV
 | .k::ss,x::xs=>x::eX ss xs
 | .d::ss,_::xs=> .any::eX ss xs
 | .v y::ss,_::xs=>y::eX ss xs
 | [],_::xs=> .any::eX [] xs
 |_,[]=> []
def FB{X:Type}(fr0:List AV)(bs0:List (List AC))(sp:X→List Sp)(ow:X→List Own)(bx:X→List (List AC)→List (List AC))(x:X):St:=⟨eX (sp x) fr0,ow x,bx x bs0⟩
theorem fQ{P:Program}{Q:Exit→St→Prop}{X:Type}{c:IC}{fr0:List AV}{os0:List Own}{bs0:List (List AC)}(sp:X→List Sp)(ow:X→List Own)(bx:X→List (List AC)→List (List AC))(inv:X→Prop)(μ:X→Nat)(x0:X)(h0:inv x0)
 (hle:fB ⟨fr0,os0,bs0⟩ (FB fr0 bs0 sp ow bx x0)) (round:∀x,inv x→AWP P c (xM (FB fr0 bs0 sp ow bx) inv μ x Q) (FB fr0 bs0 sp ow bx x)):AWP P (.loop c) Q ⟨fr0,os0,bs0⟩:=
 QS (FB fr0 bs0 sp ow bx) inv μ x0 h0 (JX hle) round
theorem gU{Q:Exit→St→Prop}{st:St}{X:Type}{F:X→St}{inv:X→Prop}{μ:X→Nat}{x:X}(x':X)(h1:fB st (F x'))(h2:inv x')(h3:μ x'<μ x):xM F inv μ x Q .normal st:=⟨x',JX h1,h2,h3⟩
theorem aJ(b:Bool)(n:Int):(li n).acs b= [.raw (.int .i64 n)]:=rfl
theorem aI(b:Bool)(s:ByteArray):(ls s).acs b= [.raw (.string s)]:=rfl
theorem eU(b:Bool)(v:Value):(D.leaf v).acs b= [.raw v]:=rfl
theorem aK(b:Bool)(l:List D):(D.sl l).acs b= [.sl b l]:=rfl
theorem aC(l:List Int):El 1 (l.map li):=fun d h=>by obtain⟨x,_,rfl⟩:=h_.1 h;exact⟨rfl,rfl⟩
theorem aA(l:List ByteArray):El 1 (l.map ls):=fun d h=>by obtain⟨x,_,rfl⟩:=h_.1 h;exact⟨rfl,rfl⟩
theorem Qm(s:Nat):El s []:=fun d h=>by simp at h
theorem KZ{s:Nat}{d:D}{l:List D}:El s (d::l)=((d.one∧d.sz=s)∧El s l):=by
 apply propext;constructor
 ·intro h;exact⟨h d (by simp),fun x hx=>h x (by simp[hx])⟩
 ·rintro⟨h1,h2⟩ x hx;rcases List.mem_cons.1 hx with rfl|hx
  ·exact h1
  ·exact h2 x hx
theorem wY{α:Type}{g:α→D}(hg:∀(x:α) (w:World) (f:List Nat) (cs:List Value),R w (g x) f cs→f= []):∀(l:List α),mZ (l.map g)
 | [],w,f,cs,h=>h.1
 | x::l,w,f,cs,h=>by
   rw[G_,Rs]at h;obtain⟨f1,f2,c1,c2,rfl,rfl,h1,h2⟩:=h;rw[hg x w f1 c1 h1,wY hg l w f2 c2 h2];rfl
theorem Nq(l:List Int):mZ (l.map li):=wY (g:=li) (fun x w f cs h=>(show f= []∧_ from h).1) l
theorem KT(l:List D)(k:Nat):idx l (some (k:Int))=l[k]? :=by simp[idx]
theorem jH{α:Type}(f:α→D)(l:List α){k:Nat}(h:k<l.length):idx (l.map f) (some (k:Int))=some (f l[k]):=by
 rw[KT,B_,a_ h];rfl
theorem FM{n:Nat}(h:n≤9223372036854775806):IntKind.i64.wrap ((n:Int)+1)=((n+1:Nat):Int):=by
 rw[IntWalk.i64_in _ (by omega)];rfl
theorem wC.tos{l:List D}{e s:Nat}{w:World}{en:Ending}{w':World}(h:wC false l e s w en w')(hf:mZ l):zI l w en w':=by
 obtain⟨v,cs,f,rfl,h1,h2,h3,h4⟩:=h;have:=hf _ _ _ h2;subst this;exact⟨_,v,rfl,Sl.lZ h1 h2,gV.lZ h1 gV.nil (fun g hg=>by simp),h4⟩
theorem mM.to{P:Program}{f:Nat}{ds l:List D}{e s:Nat}(h:mM P f ds l e s)(hf:mZ l):dN P f ds (.c false [.sl true l]):=by
 intro w vs hr ht;refine(h w vs hr ht).mono ?_;rintro en w' ⟨v,cs,f',rfl,h1,h2,h3,h4⟩;have:=hf _ _ _ h2;subst this;refine⟨v,rfl,⟨⟨_,Sl.lZ h1 h2,fun b hb=> ?_⟩,trivial⟩,h4⟩;rw[List.append_nil]at hb;have:=(eP.lt h1 b (by simpa using hb)).1;exact⟨nV.2 this,fun _=>y_ this⟩
theorem GOrigin.aj(x:GOrigin):x.toD.flat= [.leaf (.int .i64 x.cell),.leaf (.int .i64 x.row)]:=by
 simp[GOrigin.dI,D.flat,D.iQ,li,ls]
theorem GOrigin.ay(x:GOrigin)(b:Bool):x.toD.acs b= [.raw (.int .i64 x.cell),.raw (.int .i64 x.row)]:=by
 simp[D.acs,GOrigin.aj,D.ac]
theorem GOrigin.au(x:GOrigin):x.toD.isAgg=true:=by rw[GOrigin.dI];rfl
theorem GOrigin.iV(x:GOrigin):x.toD.one:=by
 simp[GOrigin.dI,D.one,D.ones,li,ls,k_]
theorem GOrigin.el(l:List GOrigin):El 2 (l.map GOrigin.toD):=fun d h=>by obtain⟨x,_,rfl⟩:=h_.1 h;exact⟨x.iV,x.gu⟩
theorem GRow.aj(x:GRow):x.toD.flat= [.sl (x.cells.map li),.sl (x.src.map GOrigin.toD)]:=by
 simp[GRow.dI,D.flat,D.iQ,li,ls]
theorem GRow.ay(x:GRow)(b:Bool):x.toD.acs b= [.sl b (x.cells.map li),.sl b (x.src.map GOrigin.toD)]:=by
 simp[D.acs,GRow.aj,D.ac]
theorem GRow.au(x:GRow):x.toD.isAgg=true:=by rw[GRow.dI];rfl
theorem GRow.iV(x:GRow):x.toD.one:=by
 simp[GRow.dI,D.one,D.ones,li,ls,k_]
theorem GRow.el(l:List GRow):El 2 (l.map GRow.toD):=fun d h=>by obtain⟨x,_,rfl⟩:=h_.1 h;exact⟨x.iV,x.gu⟩
theorem GVal.aj(x:GVal):x.toD.flat= [.leaf (.int .i64 x.kind),.leaf (.int .i64 x.n),.leaf (.int .i64 x.step),.leaf (.string x.text),.sl (x.list.map GVal.toD),.sl (x.cols.map ls),.sl (x.rows.map GRow.toD)]:=by
 simp[GVal.dI,D.flat,D.iQ,li,ls]
theorem GVal.ay(x:GVal)(b:Bool):x.toD.acs b= [.raw (.int .i64 x.kind),.raw (.int .i64 x.n),.raw (.int .i64 x.step),.raw (.string x.text),.sl b (x.list.map GVal.toD),.sl b (x.cols.map ls),.sl b (x.rows.map GRow.toD)]:=by
 simp[D.acs,GVal.aj,D.ac]
theorem GVal.au(x:GVal):x.toD.isAgg=true:=by rw[GVal.dI];rfl
theorem GVal.iV(x:GVal):x.toD.one:=by
 simp[GVal.dI,D.one,D.ones,li,ls,k_]
theorem GVal.el(l:List GVal):El 7 (l.map GVal.toD):=fun d h=>by obtain⟨x,_,rfl⟩:=h_.1 h;exact⟨x.iV,x.gu⟩
theorem GTok.aj(x:GTok):x.toD.flat= [.leaf (.int .i64 x.kind),.leaf (.int .i64 x.n),.leaf (.int .i64 x.pos),.leaf (.string x.text)]:=by
 simp[GTok.dI,D.flat,D.iQ,li,ls]
theorem GTok.ay(x:GTok)(b:Bool):x.toD.acs b= [.raw (.int .i64 x.kind),.raw (.int .i64 x.n),.raw (.int .i64 x.pos),.raw (.string x.text)]:=by
 simp[D.acs,GTok.aj,D.ac]
theorem GTok.au(x:GTok):x.toD.isAgg=true:=by rw[GTok.dI];rfl
theorem GTok.iV(x:GTok):x.toD.one:=by
 simp[GTok.dI,D.one,D.ones,li,ls,k_]
theorem GTok.el(l:List GTok):El 4 (l.map GTok.toD):=fun d h=>by obtain⟨x,_,rfl⟩:=h_.1 h;exact⟨x.iV,x.gu⟩
theorem GExpr.aj(x:GExpr):x.toD.flat= [.leaf (.int .i64 x.kind),.leaf (.int .i64 x.n),.leaf (.string x.text),.sl (x.args.map GExpr.toD)]:=by
 simp[GExpr.dI,D.flat,D.iQ,li,ls]
theorem GExpr.ay(x:GExpr)(b:Bool):x.toD.acs b= [.raw (.int .i64 x.kind),.raw (.int .i64 x.n),.raw (.string x.text),.sl b (x.args.map GExpr.toD)]:=by
 simp[D.acs,GExpr.aj,D.ac]
theorem GExpr.au(x:GExpr):x.toD.isAgg=true:=by rw[GExpr.dI];rfl
theorem GExpr.iV(x:GExpr):x.toD.one:=by
 simp[GExpr.dI,D.one,D.ones,li,ls,k_]
theorem GExpr.el(l:List GExpr):El 4 (l.map GExpr.toD):=fun d h=>by obtain⟨x,_,rfl⟩:=h_.1 h;exact⟨x.iV,x.gu⟩
theorem GCell.aj(x:GCell):x.toD.flat= [.leaf (.int .i64 x.id),.leaf (.int .i64 x.ver),.leaf (.int .i64 x.kind),.leaf (.string x.name),.leaf (.string x.code),.leaf (.int .i64 x.n)]:=by
 simp[GCell.dI,D.flat,D.iQ,li,ls]
theorem GCell.ay(x:GCell)(b:Bool):x.toD.acs b= [.raw (.int .i64 x.id),.raw (.int .i64 x.ver),.raw (.int .i64 x.kind),.raw (.string x.name),.raw (.string x.code),.raw (.int .i64 x.n)]:=by
 simp[D.acs,GCell.aj,D.ac]
theorem GCell.au(x:GCell):x.toD.isAgg=true:=by rw[GCell.dI];rfl
theorem GCell.iV(x:GCell):x.toD.one:=by
 simp[GCell.dI,D.one,D.ones,li,ls,k_]
theorem GCell.el(l:List GCell):El 6 (l.map GCell.toD):=fun d h=>by obtain⟨x,_,rfl⟩:=h_.1 h;exact⟨x.iV,x.gu⟩
theorem GNb.aj(x:GNb):x.toD.flat= [.sl (x.cells.map GCell.toD)]:=by
 simp[GNb.dI,D.flat,D.iQ,li,ls]
theorem GNb.ay(x:GNb)(b:Bool):x.toD.acs b= [.sl b (x.cells.map GCell.toD)]:=by
 simp[D.acs,GNb.aj,D.ac]
theorem GNb.au(x:GNb):x.toD.isAgg=true:=by rw[GNb.dI];rfl
theorem GNb.iV(x:GNb):x.toD.one:=by
 simp[GNb.dI,D.one,D.ones,li,ls,k_]
theorem GNb.el(l:List GNb):El 1 (l.map GNb.toD):=fun d h=>by obtain⟨x,_,rfl⟩:=h_.1 h;exact⟨x.iV,x.gu⟩
theorem GPart.aj(x:GPart):x.toD.flat= [.leaf (.int .i64 x.kind),.leaf (.string x.name),.leaf (.int .i64 x.expr.kind),.leaf (.int .i64 x.expr.n),.leaf (.string x.expr.text),.sl (x.expr.args.map GExpr.toD),.leaf (.int .i64 x.value.kind),.leaf (.int .i64 x.value.n),.leaf (.int .i64 x.value.step),.leaf (.string x.value.text),.sl (x.value.list.map GVal.toD),.sl (x.value.cols.map ls),.sl (x.value.rows.map GRow.toD),.leaf (.int .i64 x.pos)]:=by
 simp[GPart.dI,GExpr.dI,GVal.dI,D.flat,D.iQ,li,ls]
theorem GPart.ay(x:GPart)(b:Bool):x.toD.acs b= [.raw (.int .i64 x.kind),.raw (.string x.name),.raw (.int .i64 x.expr.kind),.raw (.int .i64 x.expr.n),.raw (.string x.expr.text),.sl b (x.expr.args.map GExpr.toD),.raw (.int .i64 x.value.kind),.raw (.int .i64 x.value.n),.raw (.int .i64 x.value.step),.raw (.string x.value.text),.sl b (x.value.list.map GVal.toD),.sl b (x.value.cols.map ls),.sl b (x.value.rows.map GRow.toD),.raw (.int .i64 x.pos)]:=by
 simp[D.acs,GPart.aj,D.ac]
theorem GPart.au(x:GPart):x.toD.isAgg=true:=by rw[GPart.dI];rfl
theorem GPart.iV(x:GPart):x.toD.one:=by
 simp[GPart.dI,GExpr.dI,GVal.dI,D.one,D.ones,li,ls,k_]
theorem GPart.el(l:List GPart):El 14 (l.map GPart.toD):=fun d h=>by obtain⟨x,_,rfl⟩:=h_.1 h;exact⟨x.iV,x.gu⟩
theorem GEdit.aj(x:GEdit):x.toD.flat= [.leaf (.int .i64 x.kind),.leaf (.int .i64 x.pos),.leaf (.int .i64 x.cell.id),.leaf (.int .i64 x.cell.ver),.leaf (.int .i64 x.cell.kind),.leaf (.string x.cell.name),.leaf (.string x.cell.code),.leaf (.int .i64 x.cell.n)]:=by
 simp[GEdit.dI,GCell.dI,D.flat,D.iQ,li,ls]
theorem GEdit.ay(x:GEdit)(b:Bool):x.toD.acs b= [.raw (.int .i64 x.kind),.raw (.int .i64 x.pos),.raw (.int .i64 x.cell.id),.raw (.int .i64 x.cell.ver),.raw (.int .i64 x.cell.kind),.raw (.string x.cell.name),.raw (.string x.cell.code),.raw (.int .i64 x.cell.n)]:=by
 simp[D.acs,GEdit.aj,D.ac]
theorem GEdit.au(x:GEdit):x.toD.isAgg=true:=by rw[GEdit.dI];rfl
theorem GEdit.iV(x:GEdit):x.toD.one:=by
 simp[GEdit.dI,GCell.dI,D.one,D.ones,li,ls,k_]
theorem GEdit.el(l:List GEdit):El 8 (l.map GEdit.toD):=fun d h=>by obtain⟨x,_,rfl⟩:=h_.1 h;exact⟨x.iV,x.gu⟩
theorem GRead.aj(x:GRead):x.toD.flat= [.leaf (.int .i64 x.kind),.leaf (.int .i64 x.n),.leaf (.int .i64 x.time),.leaf (.string x.text),.leaf (.int .i64 x.result.kind),.leaf (.int .i64 x.result.n),.leaf (.int .i64 x.result.step),.leaf (.string x.result.text),.sl (x.result.list.map GVal.toD),.sl (x.result.cols.map ls),.sl (x.result.rows.map GRow.toD)]:=by
 simp[GRead.dI,GVal.dI,D.flat,D.iQ,li,ls]
theorem GRead.ay(x:GRead)(b:Bool):x.toD.acs b= [.raw (.int .i64 x.kind),.raw (.int .i64 x.n),.raw (.int .i64 x.time),.raw (.string x.text),.raw (.int .i64 x.result.kind),.raw (.int .i64 x.result.n),.raw (.int .i64 x.result.step),.raw (.string x.result.text),.sl b (x.result.list.map GVal.toD),.sl b (x.result.cols.map ls),.sl b (x.result.rows.map GRow.toD)]:=by
 simp[D.acs,GRead.aj,D.ac]
theorem GRead.au(x:GRead):x.toD.isAgg=true:=by rw[GRead.dI];rfl
theorem GRead.iV(x:GRead):x.toD.one:=by
 simp[GRead.dI,GVal.dI,D.one,D.ones,li,ls,k_]
theorem GRead.el(l:List GRead):El 11 (l.map GRead.toD):=fun d h=>by obtain⟨x,_,rfl⟩:=h_.1 h;exact⟨x.iV,x.gu⟩
theorem GTape.aj(x:GTape):x.toD.flat= [.leaf (.int .i64 x.cell),.leaf (.int .i64 x.ver),.sl (x.reads.map GRead.toD)]:=by
 simp[GTape.dI,D.flat,D.iQ,li,ls]
theorem GTape.ay(x:GTape)(b:Bool):x.toD.acs b= [.raw (.int .i64 x.cell),.raw (.int .i64 x.ver),.sl b (x.reads.map GRead.toD)]:=by
 simp[D.acs,GTape.aj,D.ac]
theorem GTape.au(x:GTape):x.toD.isAgg=true:=by rw[GTape.dI];rfl
theorem GTape.iV(x:GTape):x.toD.one:=by
 simp[GTape.dI,D.one,D.ones,li,ls,k_]
theorem GTape.el(l:List GTape):El 3 (l.map GTape.toD):=fun d h=>by obtain⟨x,_,rfl⟩:=h_.1 h;exact⟨x.iV,x.gu⟩
theorem GBind.aj(x:GBind):x.toD.flat= [.leaf (.string x.name),.leaf (.int .i64 x.value.kind),.leaf (.int .i64 x.value.n),.leaf (.int .i64 x.value.step),.leaf (.string x.value.text),.sl (x.value.list.map GVal.toD),.sl (x.value.cols.map ls),.sl (x.value.rows.map GRow.toD)]:=by
 simp[GBind.dI,GVal.dI,D.flat,D.iQ,li,ls]
theorem GBind.ay(x:GBind)(b:Bool):x.toD.acs b= [.raw (.string x.name),.raw (.int .i64 x.value.kind),.raw (.int .i64 x.value.n),.raw (.int .i64 x.value.step),.raw (.string x.value.text),.sl b (x.value.list.map GVal.toD),.sl b (x.value.cols.map ls),.sl b (x.value.rows.map GRow.toD)]:=by
 simp[D.acs,GBind.aj,D.ac]
theorem GBind.au(x:GBind):x.toD.isAgg=true:=by rw[GBind.dI];rfl
theorem GBind.iV(x:GBind):x.toD.one:=by
 simp[GBind.dI,GVal.dI,D.one,D.ones,li,ls,k_]
theorem GBind.el(l:List GBind):El 8 (l.map GBind.toD):=fun d h=>by obtain⟨x,_,rfl⟩:=h_.1 h;exact⟨x.iV,x.gu⟩
theorem Uz :type_of% (Va @GOrigin.aj (Va @GOrigin.ay (Va @GOrigin.au (Va @GRow.aj (Va @GRow.ay (Va @GRow.au (Va @GVal.aj (Va @GVal.ay (Va @GVal.au (Va @GTok.aj (Va @GTok.ay (Va @GTok.au (Va @GExpr.aj (Va @GExpr.ay (Va @GExpr.au (Va @GCell.aj (Va @GCell.ay (Va @GCell.au (Va @GNb.aj (Va @GNb.ay (Va @GNb.au (Va @GPart.aj (Va @GPart.ay (Va @GPart.au (Va @GEdit.aj (Va @GEdit.ay (Va @GEdit.au (Va @GRead.aj (Va @GRead.ay (Va @GRead.au (Va @GTape.aj (Va @GTape.ay (Va @GTape.au (Va @GBind.aj (Va @GBind.ay (@GBind.au)))))))))))))))))))))))))))))))))))):=Va @GOrigin.aj (Va @GOrigin.ay (Va @GOrigin.au (Va @GRow.aj (Va @GRow.ay (Va @GRow.au (Va @GVal.aj (Va @GVal.ay (Va @GVal.au (Va @GTok.aj (Va @GTok.ay (Va @GTok.au (Va @GExpr.aj (Va @GExpr.ay (Va @GExpr.au (Va @GCell.aj (Va @GCell.ay (Va @GCell.au (Va @GNb.aj (Va @GNb.ay (Va @GNb.au (Va @GPart.aj (Va @GPart.ay (Va @GPart.au (Va @GEdit.aj (Va @GEdit.ay (Va @GEdit.au (Va @GRead.aj (Va @GRead.ay (Va @GRead.au (Va @GTape.aj (Va @GTape.ay (Va @GTape.au (Va @GBind.aj (Va @GBind.ay (@GBind.au)))))))))))))))))))))))))))))))))))
theorem cO(l:List D):(D.sl l).isAgg=false:=rfl
theorem aS(v:Value):(D.leaf v).isAgg=false:=rfl
theorem dh(n:Int):(li n).isAgg=false:=rfl
theorem cZ(s:ByteArray):(ls s).isAgg=false:=rfl
theorem bP(l:List D):(D.sl l).flat= [.sl l]:=by rw[D.flat]
theorem aU(v:Value):(D.leaf v).flat= [.leaf v]:=by rw[D.flat]
theorem bT(n:Int):(li n).flat= [.leaf (.int .i64 n)]:=aU _
theorem bQ(s:ByteArray):(ls s).flat= [.leaf (.string s)]:=aU _
section
variable{P:Program}{f:Nat}{w:World}
theorem Ru{d:D}{vs:List Value}(h:Rds w [d] vs):∃v,vs= [v]∧Rd w d v:=by
 match vs,h with
 | [v],h=>exact⟨v,rfl,h.1⟩
theorem Rt{d e:D}{vs:List Value}(h:Rds w [d,e] vs):∃v u,vs= [v,u]∧Rd w d v∧Rd w e u:=by
 match vs,h with
 | [v,u],h=>exact⟨v,u,rfl,h.1,h.2.1⟩
theorem TQ{d e g:D}{vs:List Value}(h:Rds w [d,e,g] vs):∃v u z,vs= [v,u,z]∧Rd w d v∧Rd w e u∧Rd w g z:=by
 match vs,h with
 | [v,u,z],h=>exact⟨v,u,z,rfl,h.1,h.2.1,h.2.2.1⟩
theorem Tq{l:List D}{v:Value}(h:Rd w (.sl l) v):∃fp,Sl w l fp v:=by
 obtain⟨fp,h⟩:=h;exact⟨fp,h⟩
theorem jc{u v:Value}(h:Rd w (.leaf u) v):v=u:=by
 obtain⟨fp,h⟩:=h;have h2:fp= []∧[v]= [u]:=h;simpa using h2.2
theorem TS{d:D}{v:Value}(hd:d.isAgg=true)(h:Rd w d v):∃fp cs,v= .agg cs.toArray∧R w d fp cs:=by
 unfold Rd at h;rw[if_pos hd]at h;exact h
theorem uw(u:Value):Rd w (.leaf u) u:=⟨[],rfl,rfl⟩
theorem MG{d:D}{fp:List Nat}{cs:List Value}(hd:d.isAgg=true)(h:R w d fp cs):Rd w d (.agg cs.toArray):=by
 unfold Rd;rw[if_pos hd];exact⟨fp,cs,rfl,h⟩
theorem Rk{ds:List D}{u:Value}(h:∀w vs,Rds w ds vs→Calls P f vs.toArray w (NP u w)):dN P f ds (.c false [.raw u]):=fun w vs hr _=>(h w vs hr).mono fun e w' ⟨h1,h2⟩=>⟨u,h1,⟨rfl,trivial⟩,h2⟩
theorem uU{ds:List D}{u:Value}(h:∀w vs,Rds w ds vs→Calls P f vs.toArray w (Cj u w)):dN P f ds (.c false [.raw u]):=fun w vs hr _=>(h w vs hr).mono fun e w' ⟨h1,h2⟩=>by
 subst h2;exact⟨u,h1,⟨rfl,trivial⟩,Below.refl _ _⟩
theorem N7{ds:List D}{u:Value}(h:∀w vs,Rds w ds vs→kT w→Calls P f vs.toArray w (NP u w)):dN P f ds (.c false [.raw u]):=fun w vs hr ht=>(h w vs hr ht).mono fun e w' ⟨h1,h2⟩=>⟨u,h1,⟨rfl,trivial⟩,h2⟩
theorem TY{ds:List D}{u:Value}(h:dN P f ds (.c false [.raw u])){w:World}{vs:List Value}(hr:Rds w ds vs)(ht:kT w:=by first|exact trivial|assumption):Calls P f vs.toArray w (NP u w):=(h w vs hr ht).mono fun e w' ⟨v,h1,h2,h3⟩=>by
 obtain rfl:=h2.1;exact⟨h1,h3⟩
theorem of_own{ds l:List D}{e s:Nat}(h:mM P f ds l e s)(hf:mZ l){w:World}{vs:List Value}(hr:Rds w ds vs)(ht:kT w:=by first|exact trivial|assumption):Calls P f vs.toArray w (zI l w):=(h w vs hr ht).mono fun en w' h1=>wC.tos h1 hf
def NM(l:List D)(u:Value)(w:World)(e:Ending)(w':World):Prop:=∃fp v,e= .returned (.tuple #[.agg #[v],u])∧Sl w' l fp v∧gV w' w.heap.size fp∧Below w.heap.size w w'
theorem RG{ds l:List D}{e s:Nat}{u:Value}(h:lT P f ds (.tup [(true,[.own 0 0]),(false,[.raw u])]) [⟨l,e,s,0,true⟩])(hf:mZ l){w:World}{vs:List Value}(hr:Rds w ds vs)(ht:kT w:=by first|exact trivial|assumption):Calls P f vs.toArray w (NM l u w):=(h w vs hr ht).mono fun en w' ⟨v,om,h1,h2,h3,h4⟩=>by
 obtain⟨us,rfl,h5⟩:=h3
 match us,h5 with
 | [a,b],⟨h6,h7,_⟩=>
   obtain⟨xs,rfl,h8⟩:=h6;obtain rfl:=h7.1
   match xs,h8 with
   | [x],⟨⟨_,o,p,g1,g2,g3,g4⟩,_⟩=>
     simp at g1;subst g1;obtain rfl:=g4 rfl;obtain⟨_,o2,_⟩:=h2;obtain⟨cs,k1,k2,k3,k4⟩:=o2 0 _ p rfl g2;have:=hf _ _ _ k2;rw[this]at k2;exact⟨_,p.1,h1,Sl.lZ k1 k2,gV.lZ k1 gV.nil (fun g hg=>by simp),h4⟩
theorem lT.to{ds l:List D}{e s:Nat}{u:Value}(h:lT P f ds (.tup [(true,[.own 0 0]),(false,[.raw u])]) [⟨l,e,s,0,true⟩])(hf:mZ l):dN P f ds (.tup [(true,[.sl true l]),(false,[.raw u])]):=fun w vs hr ht=>(RG h hf hr ht).mono fun en w' ⟨fp,v,h1,h2,h3,h4⟩=>
 ⟨_,h1,⟨[.agg #[v],u],rfl,⟨[v],rfl,⟨fp,h2,fun b hb=>⟨nV.2 (h3.2 b hb).1,fun _=>y_ (h3.2 b hb).1⟩⟩,trivial⟩,⟨rfl,trivial⟩,trivial⟩,h4⟩
end
section
variable{P:Program}{f:Nat}{w:World}
def uj(w:World)(base:Nat)(fp:List Nat):Prop:=True∧∀b∈fp,base≤b∧True
theorem uj.mono{w:World}{base base':Nat}{fp:List Nat}(h:uj w base fp)(hb:base'≤base):uj w base' fp:=⟨trivial,fun b hm=>⟨n_ hb (h.2 b hm).1,trivial⟩⟩
theorem uj.below{w w':World}{base:Nat}{fp:List Nat}(h:uj w base fp)(hl:∀b∈fp,b<w.heap.size)(hb:Below w.heap.size w w'):uj w' base fp:=⟨trivial,h.2⟩
theorem uj.touch{fp:List Nat}{a b:World}{base:Nat}{g:List Nat}(hF:uj a base g)(hl:∀x∈g,x<a.heap.size)(h:Touch fp a b):uj b base g:=⟨trivial,hF.2⟩
def wB(d:D)(u:Value)(w:World)(e:Ending)(w':World):Prop:=∃fp cs,e= .returned (.tuple #[.agg cs.toArray,u])∧R w' d fp cs∧gV w' w.heap.size fp∧Below w.heap.size w w'
def tC(d:D)(u:Value)(w:World)(e:Ending)(w':World):Prop:=∃fp cs,e= .returned (.tuple #[.agg cs.toArray,u])∧R w' d fp cs∧uj w' w.heap.size fp∧Below w.heap.size w w'
theorem of_flat{E:Env}{os:List Own}{w:World}:∀{l:List D} {n:Bool} {vs:List Value},(∀d∈l,d.isAgg=false)→Oks E os w (l.map (D.ac n)) vs→∃fp,Rs w l fp vs∧∀b∈fp,b∉E.M∧(n=true→E.nw b)
 | [],_,[],_,_=>⟨[],⟨rfl,rfl⟩,fun b hb=>by simp at hb⟩
 | d ::l,n,v::vs,ha,h=>by
   obtain⟨f2,r2,m2⟩:=of_flat (fun x hx=>ha x (by simp[hx])) h.2;have h1:=h.1;cases d with
   | leaf u=>
     obtain rfl:v=u:=h1;exact⟨f2,⟨[],f2,[v],vs,rfl,rfl,⟨rfl,rfl⟩,r2⟩,m2⟩
   | sl l'=>
     obtain⟨fp,g1,g2⟩:=h1;refine⟨fp++f2,⟨fp,f2,[v],vs,rfl,rfl,g1,r2⟩,fun b hb=> ?_⟩;rcases q_.1 hb with hb|hb
     ·exact g2 b hb
     ·exact m2 b hb
   |agg l'=>have:=ha (.agg l') (by simp);cases this
 | [],_,_::_,_,h=>h.elim
 |_::_,_,[],_,h=>h.elim
theorem Tz{ds:List D}{d:D}{u:Value}(h:dN P f ds (.tup [(true,d.acs true),(false,[.raw u])])){w:World}{vs:List Value}(hr:Rds w ds vs)(ht:kT w:=by first|exact trivial|assumption):Calls P f vs.toArray w (tC d u w):=(h w vs hr ht).mono fun e w' ⟨v,h1,h2,h3⟩=>by
 obtain⟨us,rfl,h5⟩:=h2
 match us,h5 with
 | [a,b],⟨h6,h7,_⟩=>
   obtain⟨xs,rfl,h8⟩:=h6;obtain rfl:=h7.1;obtain⟨fp,r,m⟩:=of_flat (iW d) h8;exact⟨fp,xs,h1,kJ.2 r,⟨trivial,fun x hx=>⟨nV.1 (m x hx).1,trivial⟩⟩,h3⟩
theorem Pn{w w':World}{om:List (Value×List Nat)}{os:List Own}(h:o8 w.heap.size w' om os)(hb:Below w.heap.size w w')(ht:kT w):
 Rel w.heap.size [] ⟨⟨w.heap.size,om,[],[]⟩,os,w'⟩ w ⟨[],os,[]⟩ ⟨w.heap.size,om,[],[]⟩ {tmps:= #[],defers:= []} w' where
 eb:=r_ _
 ex:=rfl
 sim:=Sim.refl _ _ _
 defers:=rfl
 size:=rfl
 fr:=fun t y hy=>by simp at hy
 olen:=h.1
 own:=fun k o p g1 g2=>by
  obtain⟨cs,q1,q2,q3,q4⟩:=h.2.1 k o p g1 g2;exact⟨cs,q1,q2,q3,fun b hb=>⟨fun hm=>(q4 b hb).2 (by simpa[Env.M]using hm),fun _=>y_ (q4 b hb).1⟩⟩
 blen:=rfl
 box:=fun k xs p g1 g2=>by simp at g1
 nodup:=by simpa[Env.M]using h.2.2.1
 lin:=h.2.2.2.1
 unf:=h.2.2.2.2
 below:=(BelowT.start ht).trans hb
 base:=hb.size
theorem MJ{w w':World}{om:List (Value×List Nat)}{os:List Own}(h:o8 w.heap.size w' om os)(hb:Below w.heap.size w w')(ht:kT w){xs:List AC}{dd:List D}{cs:List Value}(hd:dU os xs=some dd)
 (hn:(xs.flatMap lcK).Nodup) (hk:∀k∈xs.flatMap lcK,iG os k) (hx:Oks ⟨w.heap.size,om,[],[]⟩ os w' xs cs):∃fp,R w' (.agg dd) fp cs∧gV w' w.heap.size fp:=by
 have hR:=Pn h hb ht;obtain⟨E',q1,q2,q3,q4,q5,q6,q7⟩:=Rel.Oh _ hR hn hk;obtain⟨_,_,r⟩:=EL hR hd hx;refine⟨_,by rw[ji];exact r,q4,fun b hb1=>⟨?_,fun o=> ?_⟩⟩
 ·have:=(q5 b hb1).2;simpa[Env.nw]using this
 ·obtain⟨k,hk1,hk2⟩:=j_.1 hb1;exact hR.BQ (hk k hk1) b hk2 o
theorem GH{ds:List D}{xs:List AC}{u:Value}{os:List Own}{dd:List D}(h:lT P f ds (.tup [(true,xs),(false,[.raw u])]) os)(hd:dU os xs=some dd)(hn:(xs.flatMap lcK).Nodup)(hk:∀k∈xs.flatMap lcK,iG os k)
 {w:World} {vs:List Value} (hr:Rds w ds vs) (ht:kT w):Calls P f vs.toArray w (wB (.agg dd) u w):=(h w vs hr ht).mono fun e w' ⟨v,om,h1,h2,h3,h4⟩=>by
 obtain⟨us,rfl,h5⟩:=h3
 match us,h5 with
 | [a,b],⟨h6,h7,_⟩=>
   obtain⟨cs,rfl,h8⟩:=h6;obtain rfl:=h7.1;obtain⟨fp,r,m⟩:=MJ h2 h4 ht hd hn hk h8;exact⟨fp,cs,h1,r,m,h4⟩
end
def stS(n:Nat)(avs:List AV)(os:List Own)(bs:List (List AC)):St:=⟨avs++N_ (n - avs.length) (.c false [.raw undef]),os,bs⟩
section
variable{lo:Nat×Nat}{P:Program}{K:St→Prop}{Q:Exit→St→Prop}{st:St}{m:Bool}
theorem bf{c:Opd}{x y:IC}{b:Bool}(hb:st.ev c= .c false [.raw (.bool b)])(h1:b=true→mP lo P x Q st)(h2:b=false→mP lo P y Q st):mP lo P (.cond c x y) Q st:=BR hb h1 h2
theorem cu{os:List Own}{xs:List AV}{ds:List D}(h:bM os xs ds):bM os xs ds:=h
theorem bV{f:Nat}(h:Bo P f=true):Bo P f=true:=h
theorem pX{a b:Prop}(h1:a)(h2:b):a∧b:=⟨h1,h2⟩
theorem DU{d:Option Nat}{f:Nat}{avs:List AV}{rest:List IOp}(h:mO P K d f avs rest st):mO P K d f avs rest st:=h
theorem xu{d:Option Nat}{f:Nat}{avs:List AV}{rest:List IOp}(h:qg P m K d f avs rest st):qg P m K d f avs rest st:=h
theorem dP{l:List IOp}(h:sw P K l st):sw P K l st:=h
theorem iD{l:List IOp}(h:sd P m K l st):sd P m K l st:=h
theorem dw{d:Option Nat}{g:Nat}{w:Bool}{i:I}{rest:List IOp}(hg:gdA st (some (g,w))=some true)(h:sw P K (⟨d,none,i⟩::rest) st):sw P K (⟨d,some (g,w),i⟩::rest) st:=by
 rw[F7,hg];exact h
theorem dA{d:Option Nat}{g:Nat}{w:Bool}{i:I}{rest:List IOp}(hg:gdA st (some (g,w))=some false)(h:sw P K rest (st.put d (.c false [.raw undef]))):sw P K (⟨d,some (g,w),i⟩::rest) st:=by
 rw[F7,hg];exact h
theorem fF{d:Option Nat}{g:Nat}{w:Bool}{i:I}{rest:List IOp}(hg:gdA st (some (g,w))=some true)(h:sd P m K (⟨d,none,i⟩::rest) st):sd P m K (⟨d,some (g,w),i⟩::rest) st:=by
 rw[Gh,hg];exact h
theorem fG{d:Option Nat}{g:Nat}{w:Bool}{i:I}{rest:List IOp}(hg:gdA st (some (g,w))=some false)(h:sd P m K rest (st.put d (.c false [.raw undef]))):sd P m K (⟨d,some (g,w),i⟩::rest) st:=by
 rw[Gh,hg];exact h
theorem oP{g:Nat}{w b:Bool}(h:st.fr.getD g .any= .c false [.raw (.bool b)]):gdA st (some (g,w))=some (b==w):=by
 simp only[gdA,h]
theorem dB{d:Option Nat}{g:Nat}{w b:Bool}{i:I}{rest:List IOp}(hg:st.fr.getD g .any= .c false [.raw (.bool b)])(h1:b=w→sw P K (⟨d,none,i⟩::rest) st)(h2:b= !w→sw P K rest (st.put d (.c false [.raw undef]))):
 sw P K (⟨d,some (g,w),i⟩::rest) st:=by
 cases b<;>cases w
 ·exact dw (oP hg) (h1 rfl)
 ·exact dA (oP hg) (h2 rfl)
 ·exact dA (oP hg) (h2 rfl)
 ·exact dw (oP hg) (h1 rfl)
theorem fZ{d:Option Nat}{g:Nat}{w b:Bool}{i:I}{rest:List IOp}(hg:st.fr.getD g .any= .c false [.raw (.bool b)])(h1:b=w→sd P m K (⟨d,none,i⟩::rest) st)(h2:b= !w→sd P m K rest (st.put d (.c false [.raw undef]))):
 sd P m K (⟨d,some (g,w),i⟩::rest) st:=by
 cases b<;>cases w
 ·exact fF (oP hg) (h1 rfl)
 ·exact fG (oP hg) (h2 rfl)
 ·exact fG (oP hg) (h2 rfl)
 ·exact fF (oP hg) (h1 rfl)
end
theorem jv{z:Int}(h1: -9223372036854775808≤z)(h2:z≤9223372036854775807):IntKind.i64.wrap z=z:=IntWalk.i64_in _ ⟨h1,h2⟩
theorem TB{α:Type}{a b:Nat}{x y:α}(h:a<b):(if a<b then x else y)=x:=if_pos h
theorem TD{α:Type}{a b:Nat}{x y:α}(h:a≤b):(if a≤b then x else y)=x:=if_pos h
theorem TI{p:Prop}[Decidable p](h:p):decide p=true:=decide_eq_true h
theorem TJ{p:Prop}[Decidable p](h:¬p):decide p=false:=decide_eq_false h
theorem LJ{a b:Int}(h:a=b):(a==b)=true:=by simp[h]
theorem uh{a b:Int}(h:a≠b):(a==b)=false:=by simp[h]
theorem TK{a b:Int}(h:a≠b):(a !=b)=true:=by simp[h]
theorem TL{a b:Int}(h:a=b):(a !=b)=false:=by simp[h]
theorem PW{l:List D}{k:Nat}(h:k<l.length):idx l (some (k:Int))=some l[k]:=by
 rw[KT,a_ h]
theorem Hl{α:Type}(f:α→D)(l:List α){z:Int}(h0:0≤z)(h:z.toNat<l.length):idx (l.map f) (some z)=some (f l[z.toNat]):=by
 simp only[idx];rw[if_pos h0,B_,a_ h];rfl
theorem JW{k n:Nat}(h:k≤n):kL none (some (k:Int)) n=some (0,k):=by
 simp[kL,h]
theorem wK{k n:Nat}(h:k≤n):kL (some (k:Int)) none n=some (k,n):=by
 simp[kL,h]
theorem Dq{j k n:Nat}(h:j≤k)(h':k≤n):kL (some (j:Int)) (some (k:Int)) n=some (j,k):=by
 simp only[kL,m_];rw[if_pos (by omega)];simp
theorem qQ{n:Nat}(h:1≤n):kL (some (1:Int)) none n=some (1,n):=by
 have:=wK h;simpa using this
theorem F9{n:Nat}:kL none none n=some (0,n):=by
 simp[kL]
section
variable{α:Type}
end
theorem IV{n m n' m':Nat}(h:n≤n')(h':m≤m'){x:AC}(hx:x.fits n m=true):x.fits n' m'=true:=by
 cases x with
 |own k i=>simp[AC.fits]at hx⊢;omega
 |osub k i a b=>simp[AC.fits]at hx⊢;omega
 | cl f caps=>
   simp only[AC.fits,s_,decide_eq_true_eq]at hx⊢;exact fun k hk=>z_ (hx k hk) h'
 |_=>rfl
def LW(n m:Nat)(bx:List (List AC)):Prop:=(bx.all fun xs=>xs.all (AC.fits n m))=true
theorem LW.mono{n m n' m':Nat}{bx:List (List AC)}(h:LW n m bx)(h1:n≤n')(h2:m≤m'):LW n' m' bx:=by
 simp only[LW,s_]at h⊢;exact fun xs hx x hxx=>IV h1 h2 (h xs hx x hxx)
theorem pkA :type_of% (Va @G_.{0,0} (Va @V_.{0,0} (Va @D_.{0} (Va @L_.{0} (Va @t_.{0} (Va @a_g.{0} (Va @E_.{0,0} (Va @R_.{0} (Va @S_.{0} (Va @J_.{0} (Va @K_.{0} (Va @W_.{0} (Va @X_.{0} (Va @T_.{0} (Va @a_k.{0} (Va @U_.{0} (Va @a_l.{0} (Va @a_m.{0} (Va @a_n.{0} (Va @a_s (Va @a_t (Va @a_u.{0} (Va @l_.{0} (Va @a_o (Va @a_p (Va @a_q (Va @H_ (Va @F_ (Va @beq_self_eq_true.{0} (Va @if_true.{1} (Va @if_false.{1} (Va @ite_true.{1} (Va @ite_false.{1} (Va @Y_ (Va @true_and (Va @and_true (Va @decide_true (Va @decide_false (Va @m_.{0} (Va @a_e.{0} (Va @r_ (Va @u_ (Va @Int.toNat_natCast (Va @Int.natCast_nonneg (Va @BEq.rfl.{0} (Va @M_.{0,0} (Va @a_h.{0,0} (Va @QN (Va @QM (Va @aJ (Va @aI (Va @eU (Va @aK (Va @aC (Va @aA (Va @Qm (@KZ))))))))))))))))))))))))))))))))))))))))))))))))))))))))):=Va @G_.{0,0} (Va @V_.{0,0} (Va @D_.{0} (Va @L_.{0} (Va @t_.{0} (Va @a_g.{0} (Va @E_.{0,0} (Va @R_.{0} (Va @S_.{0} (Va @J_.{0} (Va @K_.{0} (Va @W_.{0} (Va @X_.{0} (Va @T_.{0} (Va @a_k.{0} (Va @U_.{0} (Va @a_l.{0} (Va @a_m.{0} (Va @a_n.{0} (Va @a_s (Va @a_t (Va @a_u.{0} (Va @l_.{0} (Va @a_o (Va @a_p (Va @a_q (Va @H_ (Va @F_ (Va @beq_self_eq_true.{0} (Va @if_true.{1} (Va @if_false.{1} (Va @ite_true.{1} (Va @ite_false.{1} (Va @Y_ (Va @true_and (Va @and_true (Va @decide_true (Va @decide_false (Va @m_.{0} (Va @a_e.{0} (Va @r_ (Va @u_ (Va @Int.toNat_natCast (Va @Int.natCast_nonneg (Va @BEq.rfl.{0} (Va @M_.{0,0} (Va @a_h.{0,0} (Va @QN (Va @QM (Va @aJ (Va @aI (Va @eU (Va @aK (Va @aC (Va @aA (Va @Qm (@KZ))))))))))))))))))))))))))))))))))))))))))))))))))))))))
theorem pkN :type_of% (Va @TB (Va @TD (Va @TI (Va @TJ (Va @LJ (Va @uh (Va @TK (Va @TL (Va @FM (Va @jv (Va @PW (Va @jH (Va @Hl (Va @JW (Va @wK (Va @Dq (Va @qQ (@F9)))))))))))))))))):=Va @TB (Va @TD (Va @TI (Va @TJ (Va @LJ (Va @uh (Va @TK (Va @TL (Va @FM (Va @jv (Va @PW (Va @jH (Va @Hl (Va @JW (Va @wK (Va @Dq (Va @qQ (@F9)))))))))))))))))
theorem pkC :type_of% (Va @decide_eq_true_eq (Va @decide_eq_false_iff_not (Va @beq_iff_eq.{0} (Va @bne_iff_ne.{0} (Va @ne_eq.{1} (Va @beq_eq_false_iff_ne.{0} (Va @bne_eq_false_iff_eq.{0} (Va @a_c (Va @a_a (Va @P_ (Va @H_ (@F_)))))))))))):=Va @decide_eq_true_eq (Va @decide_eq_false_iff_not (Va @beq_iff_eq.{0} (Va @bne_iff_ne.{0} (Va @ne_eq.{1} (Va @beq_eq_false_iff_ne.{0} (Va @bne_eq_false_iff_eq.{0} (Va @a_c (Va @a_a (Va @P_ (Va @H_ (@F_)))))))))))
theorem pkW :type_of% (Va @OC (Va @Kq (Va @OQ (Va @OT (Va @OA (Va @Kr (Va @OH (Va @OB (Va @Gq (Va @OM (Va @OO (Va @OG (Va @Ko (Va @Oz (Va @OI (Va @OE (Va @OD (Va @Kt (Va @J9 (Va @Tt (Va @OL (Va @OJ (Va @Kv (@Ku)))))))))))))))))))))))):=Va @OC (Va @Kq (Va @OQ (Va @OT (Va @OA (Va @Kr (Va @OH (Va @OB (Va @Gq (Va @OM (Va @OO (Va @OG (Va @Ko (Va @Oz (Va @OI (Va @OE (Va @OD (Va @Kt (Va @J9 (Va @Tt (Va @OL (Va @OJ (Va @Kv (@Ku)))))))))))))))))))))))
theorem pkS :type_of% (Va @N9 (Va @Ob (Va @Oa (Va @JU (Va @F8 (Va @Oc (Va @F6 (Va @JV (@Tf))))))))):=Va @N9 (Va @Ob (Va @Oa (Va @JU (Va @F8 (Va @Oc (Va @F6 (Va @JV (@Tf))))))))
theorem pkD :type_of% (Va @OZ (Va @KC (Va @Ph (Va @Pj (Va @OX (Va @KD (Va @O6 (Va @OY (Va @Gw (Va @Pe (Va @Gv (Va @KF (Va @Pg (Va @O5 (Va @KA (Va @OW (Va @O7 (Va @O4 (Va @O1 (Va @KE (Va @Kz (Va @Tv (Va @O9 (Va @O8 (Va @KH (Va @KG (Va @Qq (Va @Ld (Va @QB (Va @QC (Va @Qo (Va @Le (Va @Qv (Va @Qp (Va @Ii (Va @Qz (Va @Ih (Va @Lj (Va @QA (Va @Qu (Va @Lc (Va @Qn (Va @Qw (Va @Qs (Va @Qr (Va @Lh (Va @La (Va @TG (Va @Qy (Va @Qx (Va @Lp (Va @Lm (Va @Ll (Va @eF (@eG))))))))))))))))))))))))))))))))))))))))))))))))))))))):=Va @OZ (Va @KC (Va @Ph (Va @Pj (Va @OX (Va @KD (Va @O6 (Va @OY (Va @Gw (Va @Pe (Va @Gv (Va @KF (Va @Pg (Va @O5 (Va @KA (Va @OW (Va @O7 (Va @O4 (Va @O1 (Va @KE (Va @Kz (Va @Tv (Va @O9 (Va @O8 (Va @KH (Va @KG (Va @Qq (Va @Ld (Va @QB (Va @QC (Va @Qo (Va @Le (Va @Qv (Va @Qp (Va @Ii (Va @Qz (Va @Ih (Va @Lj (Va @QA (Va @Qu (Va @Lc (Va @Qn (Va @Qw (Va @Qs (Va @Qr (Va @Lh (Va @La (Va @TG (Va @Qy (Va @Qx (Va @Lp (Va @Lm (Va @Ll (Va @eF (@eG))))))))))))))))))))))))))))))))))))))))))))))))))))))
theorem pkR :type_of% (Va @Oj (Va @Om (Va @Ol (Va @Es (Va @Gi (Va @Ot (Va @Oo (@Oq)))))))):=Va @Oj (Va @Om (Va @Ol (Va @Es (Va @Gi (Va @Ot (Va @Oo (@Oq)))))))
def AC.ren(pk:List Nat):AC→AC
 | .own k i=> .own (pk.getD k 0) i
 | .osub k i a b=> .osub (pk.getD k 0) i a b
 |x=>x
def AV.ren(pk:List Nat):AV→AV
 | .c g xs=> .c g (xs.map (AC.ren pk))
 | .ptr xs=> .ptr (xs.map (AC.ren pk))
 | .eptr k i j off=> .eptr (pk.getD k 0) i j off
 | .tup ys=> .tup (ys.map fun y=>(y.1,y.2.map (AC.ren pk)))
 |x=>x
def wF(pk:List Nat)(n m:Nat):List AV→List AV→Prop
 | [],[]=>True
 |x::xs,y::ys=>(y= .any∨(x=y.ren pk∧y.fits n m=true))∧wF pk n m xs ys
 |_,_=>False
def qF(os:List Own):List Nat→List Own→Prop
 | [],[]=>True
 |k::pk,o'::os'=>(match os[k]? with|some o=>o.l=o'.l∧o.e=o'.e∧o.s=o'.s∧o.ver=o'.ver∧o.nw=o'.nw|none=>False)∧qF os pk os'
 |_,_=>False
def qJ(pk:List Nat):List (List AC)→List (List AC)→Prop
 |_,[]=>True
 |x::xs,y::ys=>x=y.map (AC.ren pk)∧qJ pk xs ys
 | [],_::_=>False
def sD(pk:List Nat)(st st':St):Prop:=pk.Nodup∧wF pk st'.owns.length st'.boxes.length st.fr st'.fr∧qF st.owns pk st'.owns∧qJ pk st.boxes st'.boxes∧(st'.boxes.all fun xs=>xs.all (AC.fits st'.owns.length st'.boxes.length))=true
theorem Ac{os:List Own}:∀{pk:List Nat} {os':List Own},qF os pk os'→pk.length=os'.length∧∀(j:Nat) (o':Own),os'[j]? =some o'→∃k,pk[j]? =some k∧os[k]? =some o'
 | [],[],_=>⟨rfl,fun j o' h=>by simp at h⟩
 | k ::pk,o'::os',h=>by
   obtain⟨h1,h2⟩:=Ac h.2;refine⟨by simp[h1],fun j o'' g=> ?_⟩;cases j with
   | zero=>
     simp at g;subst g;have h3:=h.1;split at h3
     ·next o ho=>
      refine⟨k,rfl, ?_⟩;rw[ho];congr 1;cases o;cases o';simp_all
     ·exact h3.elim
   |succ j=>simpa using h2 j o'' (by simpa using g)
 | [],_::_,h=>h.elim
 |_::_,[],h=>h.elim
theorem BN{pk:List Nat}:∀{xs ys:List (List AC)},qJ pk xs ys→ys.length≤xs.length∧∀(j:Nat) (y:List AC),ys[j]? =some y→xs[j]? =some (y.map (AC.ren pk))
 |xs,[],_=>⟨u_ _,fun j y h=>by simp at h⟩
 | x::xs,y::ys,h=>by
   obtain⟨h1,h2⟩:=BN h.2;refine⟨by simp;exact h1,fun j z g=> ?_⟩;cases j with
   |zero=>simp at g;subst g;simp[h.1]
   |succ j=>simpa using h2 j z (by simpa using g)
 | [],_::_,h=>h.elim
theorem DJ{pk:List Nat}{n m:Nat}:∀{xs ys:List AV},wF pk n m xs ys→xs.length=ys.length∧∀(t:Nat) (y:AV),ys[t]? =some y→y= .any∨(xs[t]? =some (y.ren pk)∧y.fits n m=true)
 | [],[],_=>⟨rfl,fun t y h=>by simp at h⟩
 | x ::xs,y::ys,h=>by
   obtain⟨h1,h2⟩:=DJ h.2;refine⟨by simp[h1],fun t z hz=> ?_⟩;cases t with
   | zero=>
     simp at hz;subst hz;rcases h.1 with h'|⟨h',h''⟩
     ·exact y_ h'
     ·exact p_ ⟨by simp[h'],h''⟩
   |succ t=>simpa using h2 t z (by simpa using hz)
 | [],_::_,h=>h.elim
 |_::_,[],h=>h.elim
def Env.pick(E:Env)(pk:List Nat)(m:Nat):Env:={E with om:=pk.map fun k=>E.om.getD k (undef,[]),bm:=E.bm.take m}
theorem Qh :∀(L:List (Value×List Nat)) (i j:Nat) (p q:Value×List Nat) (b:Nat),(L.flatMap (fun p=>p.1.ownBlock.toList)).Nodup→L[i]? =some p→L[j]? =some q→p.1.ownBlock=some b→q.1.ownBlock=some b→i=j:=by
 intro L
 induction L with
 |nil=>intro i j p q b _ hi;simp at hi
 | cons z L ih=>
   intro i j p q b hn hi hj hpb hqb;rw[C_,o_]at hn;cases i with
   | zero=>
     cases j with
     |zero=>rfl
     | succ j=>
       simp at hi hj;subst hi;exact absurd rfl (hn.2.2 b (by simp[hpb]) b (j_.2 ⟨q,f_ hj,by simp[hqb]⟩))
   | succ i=>
     cases j with
     | zero=>
       simp at hi hj;subst hj;exact absurd rfl (hn.2.2 b (by simp[hqb]) b (j_.2 ⟨p,f_ hi,by simp[hpb]⟩))
     | succ j=>
       simp at hi hj;rw[ih i j p q b hn.2.1 hi hj hpb hqb]
theorem zY{L:List (Value×List Nat)}{pk:List Nat}(hlt:∀k∈pk,k<L.length){b:Nat}(hb:b∈(pk.map fun k=>L.getD k (undef,[])).flatMap fun p=>p.1.ownBlock.toList):∃k∈pk,∃p,L[k]? =some p∧p.1.ownBlock=some b:=by
 obtain⟨q,hq,hqb⟩:=j_.1 hb;obtain⟨k,hk,rfl⟩:=h_.1 hq;have hkl:=hlt k hk;rw[c_,a_ hkl]at hqb;exact⟨k,hk,L[k],a_ hkl,by simpa using hqb⟩
theorem zX{L:List (Value×List Nat)}(hL:(L.flatMap (fun p=>p.1.ownBlock.toList)).Nodup):∀{pk:List Nat},pk.Nodup→(∀k∈pk,k<L.length)→((pk.map fun k=>L.getD k (undef,[])).flatMap fun p=>p.1.ownBlock.toList).Nodup
 | [],_,_=>a_i
 | k::pk,hn,hlt=>by
   rw[a_f]at hn;rw[G_,C_,o_];refine⟨by cases(L.getD k (undef,[])).1.ownBlock<;>simp,zX hL hn.2 (fun j hj=>hlt j (by simp[hj])),fun x hx y hy e=> ?_⟩;subst e;obtain⟨j,hj,p,g1,g2⟩:=zY (fun j hj=>hlt j (by simp[hj])) hy;have hkl:=hlt k (by simp);rw[c_,a_ hkl]at hx;have:=Qh L k j L[k] p x hL (a_ hkl) g1 (by simpa using hx) g2;subst this;exact hn.1 hj
section
variable{B:Nat}{Xs:List Nat}{G:Org}{w0:World}{st st':St}{E:Env}{a:Act}{w:World}{pk:List Nat}{m:Nat}{os os':List Own}
theorem Ey(hlt:∀k∈pk,k<E.om.length){b:Nat}(h:b∈(E.pick pk m).M):b∈E.M:=by
 unfold Env.M at h⊢;rcases q_.1 h with h|h
 ·refine x_ _ ?_;exact((v_ m E.bm).map _).subset h
 ·refine w_ _ ?_;obtain⟨k,hk,p,g1,g2⟩:=zY hlt h;exact j_.2 ⟨p,f_ g1,by simp[g2]⟩
theorem sK{j k:Nat}(hk:pk[j]? =some k){p:Value×List Nat}(hp:E.om[k]? =some p):(E.pick pk m).om[j]? =some p:=by
 simp only[Env.pick,B_,hk,M_,c_,hp,m_]
theorem AC.ok.pick(hlt:∀k∈pk,k<E.om.length)(hl:pk.length=os'.length)(ho:∀(j:Nat) (o':Own),os'[j]? =some o'→∃k,pk[j]? =some k∧os[k]? =some o'){x:AC}{v:Value}(h:(x.ren pk).ok E os w v)(hf:x.fits os'.length m=true):x.ok (E.pick pk m) os' w v:=by
 cases x with
 |any=>trivial
 |raw u=>exact h
 | cl f caps=>
   obtain⟨ps,h1,h2⟩:=h;refine⟨ps, ?_,h2⟩;rw[← h1];refine Q_ fun k hk=> ?_
   have:k<m:=by simpa using s_.1 hf k hk
   simp only[Env.pick];rw[d_,if_pos this]
 | sl b l=>
   obtain⟨fp,h1,h2⟩:=h;exact⟨fp,h1,fun b hb=>⟨fun hm=>(h2 b hb).1 (Ey hlt hm),(h2 b hb).2⟩⟩
 | own k i=>
   obtain⟨hv,o,p,h1,h2,h3,h4⟩:=h;have hk:k<os'.length:=by simpa[AC.fits]using hf
   obtain⟨k0,g1,g2⟩:=ho k _ (a_ hk);have e:pk.getD k 0=k0:=by rw[c_,g1];rfl
   rw[e]at h1 h2;rw[h1]at g2;injection g2 with g2
   exact⟨hv,o,p,by rw[a_ hk,← g2],sK g1 h2,h3,h4⟩
 | osub k i pa pb=>
   obtain⟨hv,o,p,h1,h2,h3,h4⟩:=h;have hk:k<os'.length:=by simpa[AC.fits]using hf
   obtain⟨k0,g1,g2⟩:=ho k _ (a_ hk);have e:pk.getD k 0=k0:=by rw[c_,g1];rfl
   rw[e]at h1 h2;rw[h1]at g2;injection g2 with g2
   exact⟨hv,o,p,by rw[a_ hk,← g2],sK g1 h2,h3,h4⟩
theorem Oks.pick(hlt:∀k∈pk,k<E.om.length)(hl:pk.length=os'.length)(ho:∀(j:Nat) (o':Own),os'[j]? =some o'→∃k,pk[j]? =some k∧os[k]? =some o'):∀{xs:List AC} {vs:List Value},Oks E os w (xs.map (AC.ren pk)) vs→xs.all (AC.fits os'.length m)=true→Oks (E.pick pk m) os' w xs vs
 | [],[],_,_=>trivial
 | x::xs,v::vs,h,hf=>by
   simp only[l_,e_]at hf;exact⟨AC.ok.pick hlt hl ho h.1 hf.1,Oks.pick hlt hl ho h.2 hf.2⟩
 | [],_::_,h,_=>h.elim
 |_::_,[],h,_=>h.elim
theorem Gok.pick(hlt:∀k∈pk,k<E.om.length)(hl:pk.length=os'.length)(ho:∀(j:Nat) (o':Own),os'[j]? =some o'→∃k,pk[j]? =some k∧os[k]? =some o'){g:Bool}{xs:List AC}{v:Value}(h:Gok E os w g (xs.map (AC.ren pk)) v)(hf:xs.all (AC.fits os'.length m)=true):Gok (E.pick pk m) os' w g xs v:=by
 cases g with
 |true=>obtain⟨vs,h1,h2⟩:=h;exact⟨vs,h1,h2.pick hlt hl ho hf⟩
 |false=>exact Oks.pick hlt hl ho (show Oks _ _ _ _ [v] from h) hf
theorem o7.pick(hlt:∀k∈pk,k<E.om.length)(hl:pk.length=os'.length)(ho:∀(j:Nat) (o':Own),os'[j]? =some o'→∃k,pk[j]? =some k∧os[k]? =some o'):∀{ys:List (Bool×List AC)} {vs:List Value},o7 E os w (ys.map fun y=>(y.1,y.2.map (AC.ren pk))) vs→(ys.all fun y=>y.2.all (AC.fits os'.length m))=true→o7 (E.pick pk m) os' w ys vs
 | [],[],_,_=>trivial
 | y::ys,v::vs,h,hf=>by
   simp only[l_,e_]at hf;exact⟨Gok.pick hlt hl ho h.1 hf.1,o7.pick hlt hl ho h.2 hf.2⟩
 | [],_::_,h,_=>h.elim
 |_::_,[],h,_=>h.elim
theorem AV.ok.pick(hlt:∀k∈pk,k<E.om.length)(hl:pk.length=os'.length)(ho:∀(j:Nat) (o':Own),os'[j]? =some o'→∃k,pk[j]? =some k∧os[k]? =some o'){x:AV}{v:Value}(h:(x.ren pk).ok E os w v)(hf:x.fits os'.length m=true):x.ok (E.pick pk m) os' w v:=by
 cases x with
 |any=>trivial
 |c g xs=>exact Gok.pick hlt hl ho h hf
 | ptr xs=>
   obtain⟨b,o,vs,h1,h2,h3,h4,h5⟩:=h;exact⟨b,o,vs,h1,h2,fun hm=>h3 (Ey hlt hm),h4,h5.pick hlt hl ho hf⟩
 | bptr k off=>
   obtain⟨p,h1,h2⟩:=h;refine⟨p, ?_,h2⟩;simp only[Env.pick];rw[d_,if_pos (by simpa[AV.fits]using hf)];exact h1
 | eptr k i j off=>
   obtain⟨o,p,h1,h2,h3,h4⟩:=h;have hk:k<os'.length:=by simpa[AV.fits]using hf
   obtain⟨k0,g1,g2⟩:=ho k _ (a_ hk);have e:pk.getD k 0=k0:=by rw[c_,g1];rfl
   rw[e]at h1 h2;rw[h1]at g2;injection g2 with g2
   exact⟨o,p,by rw[a_ hk,← g2],sK g1 h2,h3,h4⟩
 | tup ys=>
   obtain⟨vs,h1,h2⟩:=h;exact⟨vs,h1,h2.pick hlt hl ho hf⟩
theorem Rel.Tc(h:Rel B Xs G w0 st E a w)(hle:sD pk st st')(hG1:G.os.length=0)(hG2:G.E.bm.length≤st'.boxes.length):∃E',Rel B Xs G w0 st' E' a w:=by
 obtain⟨hnd,h1,h2,h3,h4⟩:=hle;obtain⟨hl,hf⟩:=DJ h1;obtain⟨hpl,ho⟩:=Ac h2;obtain⟨hbl,hb⟩:=BN h3;have hol:=h.olen;have hbl':=h.blen;have hlt:∀k∈pk,k<E.om.length:=fun k hk=>by
  obtain⟨j,hj⟩:=O_.1 hk;have hjl:j<st'.owns.length:=by rw[← hpl];exact(b_.1 hj).1
  obtain⟨k',g1,g2⟩:=ho j _ (a_ hjl);rw[hj]at g1;injection g1 with g1
  subst g1;rw[hol];exact(b_.1 g2).1
 have hnil:G.os= []:=List.eq_nil_of_length_eq_zero hG1;refine⟨E.pick pk st'.boxes.length, ?_⟩;exact
  { eb :=h.eb
    ex:=h.ex
    sim := { base:=h.sim.base,size:=h.sim.size,blk:=h.sim.blk,old:=fun b hb hm=>h.sim.old b hb (Ey hlt hm),
             own:=fun k o p g1 g2=>by rw[hnil]at g1;simp at g1
             box:=fun k p g=>by
              have hk:k<st'.boxes.length:=z_ (b_.1 g).1 hG2;simp only[Env.pick];rw[d_,if_pos hk];exact h.sim.box k p g}
    defers:=h.defers
    size:=by rw[h.size];exact hl
    fr:=fun t y hy=>by
     rcases hf t y hy with rfl|⟨h5,h6⟩
     ·trivial
     ·exact AV.ok.pick hlt hpl ho (h.fr t _ h5) h6
    olen:=by simp only[Env.pick,E_];exact hpl
    own:=fun k o p g1 g2=>by
     obtain⟨k0,q1,q2⟩:=ho k o g1;have hk0:k0<E.om.length:=hlt k0 (f_ q1);have hp:E.om[k0]? =some p:=by
      have:=sK (m:=st'.boxes.length) q1 (a_ hk0);rw[this]at g2;rw[a_ hk0];exact g2
     obtain⟨cs,h5,h6,h7,h8⟩:=h.own k0 o p q2 hp;exact⟨cs,h5,h6,h7,fun b hb=>⟨fun hm=>(h8 b hb).1 (Ey hlt hm),(h8 b hb).2⟩⟩
    blen:=by simp only[Env.pick,I_];omega
    box:=fun k xs p g1 g2=>by
     have hk:k<st'.boxes.length:=(b_.1 g1).1;simp only[Env.pick]at g2;rw[d_,if_pos hk]at g2;obtain⟨h5,vs,h6,h7⟩:=h.box k _ p (hb k xs g1) g2;exact⟨h5,vs,h6,h7.pick hlt hpl ho (s_.1 h4 xs (f_ g1))⟩
    nodup:=by
     have:=h.nodup;unfold Env.M at this⊢;rw[o_]at this⊢;refine⟨this.1.sublist (by simp only[Env.pick];exact(v_ _ _).map _),zX this.2.1 hnd hlt,fun x hx y hy=> ?_⟩;refine this.2.2 x ?_ y ?_
     ·exact((v_ st'.boxes.length E.bm).map _).subset hx
     ·obtain⟨k,hk,p,g1,g2⟩:=zY hlt hy;exact j_.2 ⟨p,f_ g1,by simp[g2]⟩
    lin:=by
     have hpl':pk.length=st'.owns.length:=hpl;refine h.lin.map (fun j=>pk.getD j 0) (fun i j hij hi hj e=>hij ?_) fun j o p g1 g2 g3=> ?_
     ·have hi':i<pk.length:=by omega
      have hj':j<pk.length:=by omega
      simp only[c_,a_ hi',a_ hj',m_]at e;exact(a_d hnd).1 e
     ·obtain⟨k0,q1,q2⟩:=ho j o g1;have hk0:k0<E.om.length:=hlt k0 (f_ q1);have hp:E.om[k0]? =some p:=by
       have:=sK (m:=st'.boxes.length) q1 (a_ hk0);rw[this]at g2;rw[a_ hk0];exact g2
      refine p_ ⟨o, ?_, ?_,g3⟩
      ·rw[c_,q1];exact q2
      ·rw[c_,q1];exact hp
    unf:=by
     refine h.unf.map (fun j=>pk.getD j 0) fun j o p g1 g2 g3=> ?_
     obtain⟨k0,q1,q2⟩:=ho j o g1;have hk0:k0<E.om.length:=hlt k0 (f_ q1);have hp:E.om[k0]? =some p:=by
      have:=sK (m:=st'.boxes.length) q1 (a_ hk0);rw[this]at g2;rw[a_ hk0];exact g2
     refine p_ ⟨o, ?_, ?_,g3⟩
     ·rw[c_,q1];exact q2
     ·rw[c_,q1];exact hp
    below:=h.below
    base:=h.base}
end
def wI{X:Type}(F:X→St)(inv:X→Prop)(μ:X→Nat)(x:X)(Q:Exit→St→Prop):Exit→St→Prop
 | .normal,st=>∃x' pk,sD pk st (F x')∧inv x'∧μ x'<μ x
 |e,st=>Q e st
section
variable{P:Program}{Q:Exit→St→Prop}{st:St}{i:Nat}
theorem aQ{X:Type}{F:X→St}{inv:X→Prop}{μ:X→Nat}{x:X}(h:Q (.exit i) st):wI F inv μ x Q (.exit i) st:=h
theorem aV{X:Type}{F:X→St}{inv:X→Prop}{μ:X→Nat}{x:X}(h:Q .ret st):wI F inv μ x Q .ret st:=h
theorem Et{X:Type}{F:X→St}{inv:X→Prop}{μ:X→Nat}{x:X}(x':X)(pk:List Nat)(h1:sD pk st (F x'))(h2:inv x')(h3:μ x'<μ x):wI F inv μ x Q .normal st:=⟨x',pk,h1,h2,h3⟩
theorem JC{X:Type}{c:IC}(F:X→St)(inv:X→Prop)(μ:X→Nat)(x0:X)(pk0:List Nat)(h0:inv x0)(hle:sD pk0 st (F x0))(round:∀x,inv x→AWP P c (wI F inv μ x Q) (F x)):AWP P (.loop c) Q st:=fun code hc B Xs G w0 hG E a w hR=>by
 have hG1:G.os.length=0:=Nat.le_zero.1 hG.1;have hG2:∀x,G.E.bm.length≤(F x).boxes.length:=fun x=>n_ hG.2 (u_ _)
 cases code with
 | loop cc=>
   simp only[dG]at hc;obtain⟨c',hcc,he⟩:=i_.1 hc;simp only[IC.loop.injEq]at he;subst he;obtain⟨E',hR'⟩:=hR.Tc hle hG1 (hG2 _);refine Di (fun n a w=>∃x E,μ x=n∧inv x∧Rel B Xs G w0 (F x) E a w) (μ x0) ⟨x0,E',rfl,h0,hR'⟩ ?_;rintro n a w ⟨x,E,rfl,hx,hR⟩;refine wp_mono (round x hx cc hcc B Xs G w0 hG E a w hR) ?_;rintro e a' w' ⟨st',E',h1,h2⟩;cases e with
   | normal=>
     obtain⟨x',pk,h3,h4,h5⟩:=h2;obtain⟨E'',h6⟩:=h1.Tc h3 hG1 (hG2 _);exact⟨μ x',h5,x',E'',rfl,h4,h6⟩
   |_=>exact⟨st',E',h1,h2⟩
 |region id cops b=>exact(mG hc (by simp) (by simp)).elim
 |block id x=>simp[dG]at hc
 |cond c x y=>simp only[dG]at hc;split at hc<;>simp at hc
 |seq x y=>simp only[dG]at hc;split at hc<;>simp at hc
 |ret=>simp[dG]at hc
 |exit id=>simp[dG]at hc
 |skip=>simp[dG]at hc
 |label l=>simp[dG]at hc
 |rangeFunc=>simp[dG]at hc
 |scope=>simp[dG]at hc
 |goto=>simp[dG]at hc
 |refuse=>simp[dG]at hc
theorem DZ{X:Type}{c:IC}{fr0:List AV}{os0:List Own}{bs0:List (List AC)}(sp:X→List Sp)(ow:X→List Own)(bx:X→List (List AC)→List (List AC))(inv:X→Prop)(μ:X→Nat)(x0:X)(pk0:List Nat)(h0:inv x0)
 (hle:sD pk0 ⟨fr0,os0,bs0⟩ (FB fr0 bs0 sp ow bx x0)) (round:∀x,inv x→AWP P c (wI (FB fr0 bs0 sp ow bx) inv μ x Q) (FB fr0 bs0 sp ow bx x)):AWP P (.loop c) Q ⟨fr0,os0,bs0⟩:=
 JC (FB fr0 bs0 sp ow bx) inv μ x0 pk0 h0 hle round
end
section
variable{B H:Nat}{X:List Nat}{bm0:List (Nat×TypeId)}{G:Org}{w0:World}{st:St}{E:Env}{a:Act}{w:World}{pk:List Nat}{os':List Own}
structure OutAt (B H:Nat) (X:List Nat) (bm0:List (Nat×TypeId)) (E:Env) (pk:List Nat) (os:List Own) (os':List Own):Prop where
 nw:∀x,E.nw x→H≤x∨x∈X
 own:∀(k:Nat) (p:Value×List Nat) (x:Nat),E.om[k]? =some p→p.1.ownBlock=some x→H≤x
 bm:∀q:Nat×TypeId,q∈bm0→∃k':Nat,E.bm[k']? =some q
 get:∀(j k:Nat),pk[j]? =some k→∃o',os'[j]? =some o'
 lt:∀k∈pk,k<E.om.length
end
section
variable{P:Program}{f:Nat}{fn:Func}{code:Code}{ic:IC}{ds:List D}
end
section
variable{P:Program}{B:Nat}{Xs:List Nat}{G:Org}{w0:World}{fr:List AV}{os:List Own}{bs:List (List AC)}{E:Env}{a:Act}{w w':World}
theorem Fg{t:Bool}:∀{xs:List AC} {ds:List D} {vs:List Value},dJ [] xs=some ds→(t=true→xs.all AC.nw=true)→Oks E os w xs vs→∃fp,Rs w ds fp vs∧∀b∈fp,b<w.heap.size∧b∉E.M∧(t=true→E.nw b)
 | [],ds,[],hd,_,_=>by
   injection hd with hd
   subst hd;exact⟨[],⟨rfl,rfl⟩,fun b hb=>by simp at hb⟩
 | x::xs,ds,v::vs,hd,hn,hx=>by
   rw[dJ]at hd;split at hd
   ·next d ds' h1 h2=>
    injection hd with hd
    subst hd;have h1':x.toD=some d:=by cases x<;>simp_all [dY]
    obtain⟨_,_,f1,r1,m1⟩:=toD_ok h1' hx.1;obtain⟨f2,r2,m2⟩:=Fg h2 (fun e=>by have:=hn e;simp only[l_,e_]at this;exact this.2) hx.2;refine⟨f1++f2,⟨f1,f2,[v],vs,rfl,rfl,r1,r2⟩,fun b hb=> ?_⟩;rcases q_.1 hb with hb|hb
    ·exact⟨R.lt r1 b hb,(m1 b hb).1,fun e=>(m1 b hb).2 (by have:=hn e;simp only[l_,e_]at this;exact this.1)⟩
    ·exact m2 b hb
   ·cases hd
 | [],_,_::_,_,_,h=>h.elim
 |_::_,_,[],_,_,h=>h.elim
theorem UY{t:Bool}{x:AV}{dd:D}{v:Value}(hd:dM [] x dd)(hn:t=true→x.nw=true)(hx:x.ok E os w v):∃F,RdF w F dd v∧∀b∈F,b<w.heap.size∧b∉E.M∧(t=true→E.nw b):=by
 cases x with
 | c g xs=>
   obtain⟨h1,rfl⟩:=hd;unfold RdF;cases hg:dd.isAgg with
   | true=>
     rw[hg]at hx;obtain⟨vs,h2,h3⟩:=hx;obtain⟨fp,h4,h5⟩:=Fg h1 hn h3;exact⟨fp,by rw[if_pos rfl];exact⟨fp,vs,h2,kJ.2 h4,fun b hb=>hb⟩,h5⟩
   | false=>
     rw[hg]at hx;obtain⟨fp,h4,h5⟩:=Fg h1 hn (show Oks E os w xs [v] from hx);exact⟨fp,by rw[if_neg (by simp)];exact⟨fp,kJ.2 h4,fun b hb=>hb⟩,h5⟩
 |any=>exact hd.elim
 |ptr _=>exact hd.elim
 |bptr _ _=>exact hd.elim
 |eptr _ _ _ _=>exact hd.elim
 |tup _=>exact hd.elim
theorem JG{t:Bool}:∀{xs:List AV} {ds:List D} {vs:List Value},bM [] xs ds→(t=true→xs.all AV.nw=true)→ou E os w xs vs→∃F,xK w F ds vs∧∀b∈F,b<w.heap.size∧b∉E.M∧(t=true→E.nw b)
 | [],[],[],_,_,_=>⟨[],trivial,fun b hb=>by simp at hb⟩
 | x::xs,d::ds,v::vs,hd,hn,hv=>by
   obtain⟨F1,h1,h2⟩:=UY hd.1 (fun e=>by have:=hn e;simp only[l_,e_]at this;exact this.1) hv.1;obtain⟨F2,h3,h4⟩:=JG hd.2 (fun e=>by have:=hn e;simp only[l_,e_]at this;exact this.2) hv.2;refine⟨F1++F2,⟨h1.mono (fun b hb=>x_ _ hb),h3.mono (fun b hb=>w_ _ hb)⟩,fun b hb=> ?_⟩;rcases q_.1 hb with hb|hb
   ·exact h2 b hb
   ·exact h4 b hb
 | [],_::_,_,hd,_,_=>hd.elim
 |_::_,[],_,hd,_,_=>hd.elim
 | [],[],_::_,_,_,hv=>hv.elim
 |_::_,_::_,[],_,_,hv=>hv.elim
def AC.mQ :AC→Bool
 | .raw _=>true
 | .any=>true
 | .sl n _=>n
 |_=>false
def AV.mQ :AV→Bool
 | .any=>true
 | .c _ xs=>xs.all AC.mQ
 | .tup ys=>ys.all fun y=>y.2.all AC.mQ
 |_=>false
theorem TW{F:List Nat}{t:Bool}{st:St}(h:Rel B Xs G w0 st E a w)(hF:∀b∈F,b∉E.M∧(t=true→E.nw b)){x:AC}{v:Value}(ho:x.mQ=true)(hx:x.ok (kR w.heap.size F) [] w' v):(x.fl t).ok E st.owns w' v:=by
 cases x with
 |any=>trivial
 |raw u=>exact hx
 | sl n l=>
   obtain rfl:n=true:=ho;obtain⟨fp,h1,h2⟩:=hx;refine⟨fp,h1,fun b hb=>⟨fun hm=> ?_,fun e=> ?_⟩⟩
   ·rcases Ad.1 (h2 b hb).1 with h3|h3
    ·have:=(uT h hm).2;omega
    ·exact(hF b h3).1 hm
   ·rcases Ad.1 (h2 b hb).1 with h3|h3
    ·exact h.tY (n_ h.base h3)
    ·exact(hF b h3).2 e
 |own k i=>simp[AC.mQ]at ho
 |osub k i a b=>simp[AC.mQ]at ho
 |cl f caps=>simp[AC.mQ]at ho
theorem EG{F:List Nat}{t:Bool}{st:St}(h:Rel B Xs G w0 st E a w)(hF:∀b∈F,b∉E.M∧(t=true→E.nw b)):∀{xs:List AC} {vs:List Value},xs.all AC.mQ=true→Oks (kR w.heap.size F) [] w' xs vs→Oks E st.owns w' (xs.map (AC.fl t)) vs
 | [],[],_,_=>trivial
 | x::xs,v::vs,ho,hx=>by
   simp only[l_,e_]at ho;exact⟨TW h hF ho.1 hx.1,EG h hF ho.2 hx.2⟩
 | [],_::_,_,hx=>hx.elim
 |_::_,[],_,hx=>hx.elim
theorem RF{F:List Nat}{t:Bool}{st:St}(h:Rel B Xs G w0 st E a w)(hF:∀b∈F,b∉E.M∧(t=true→E.nw b)){r:AV}{v:Value}(ho:r.mQ=true)(hx:r.ok (kR w.heap.size F) [] w' v):(r.fl t).ok E st.owns w' v:=by
 have key:∀{g:Bool} {xs:List AC} {v:Value},xs.all AC.mQ=true→Gok (kR w.heap.size F) [] w' g xs v→Gok E st.owns w' g (xs.map (AC.fl t)) v:=by
  intro g xs v hx hv;cases g with
  |true=>obtain⟨vs,h1,h2⟩:=hv;exact⟨vs,h1,EG h hF hx h2⟩
  |false=>exact EG h hF hx (show Oks _ _ _ xs [v] from hv)
 cases r with
 |any=>trivial
 |c g xs=>exact key ho hx
 | tup ys=>
   obtain⟨vs,h1,h2⟩:=hx;refine⟨vs,h1, ?_⟩;clear h1;have ho':(ys.all fun y=>y.2.all AC.mQ)=true:=ho;clear ho
   induction ys generalizing vs with
   | nil=>cases vs with
     |nil=>trivial
     |cons v vs=>exact h2.elim
   | cons y ys ih=>cases vs with
     |nil=>exact h2.elim
     | cons v vs=>
       simp only[l_,e_]at ho';exact⟨key ho'.1 h2.1,ih vs h2.2 ho'.2⟩
 |ptr _=>cases ho
 |bptr _ _=>cases ho
 |eptr _ _ _ _=>cases ho
theorem mJ.toE(t:Bool){f:Nat}{ds:List D}{ys:List AV}{r:AV}(h:mJ P f ds r)(hr:r.mQ=true)(ha:bM [] ys ds)(hn:t=true→ys.all AV.nw=true):lJ P f ys os bs (fun r2 os2 bs2=>r2=r.fl t∧os2=os∧bs2=bs):=by
 intro B Xs G w0 fr E a w vs hR hv;obtain⟨F,h1,h2⟩:=JG ha hn hv;refine(h w F vs (fun b hb=>(h2 b hb).1) h1 hR.below.now).mono ?_;rintro e w' ⟨v,rfl,hx,hb⟩;have hA:=hR.here;have hB:=hA.lQ hb (d:=none) (x:= .any) (v:=undef) trivial;exact⟨v,E,_,_,_,⟨rfl,rfl,rfl⟩,rfl,hB,RF hR (fun b hb=>⟨(h2 b hb).2.1,(h2 b hb).2.2⟩) hr hx⟩
def LV(P:Program)(f:Nat)(ds:List D)(c:List AC)(post:AV→List Own→List AC→Prop):Prop:=
 ∀(w:World) (b:Nat) (ty:TypeId) (us vs:List Value) (X:List Nat),BelowT b w w→(∀x∈X,x≠b∧x<w.heap.size)→Row w b ty us→Oks ⟨w.heap.size,[],[(b,ty)],X⟩ [] w c us→
  ou ⟨w.heap.size,[],[(b,ty)],X⟩ [] w (ds.map (D.avN true)) vs→Calls P f (.pointer (some ⟨b,0,none⟩)::vs).toArray w (TM X b ty post w)
theorem Uo{H:Nat}{p:Nat×TypeId}{X F:List Nat}{d:D}{v:Value}(hF:∀b∈F,b∈X∧b≠p.1)(h:RdF w F d v):(D.avN true d).ok ⟨H,[],[p],X⟩ [] w v:=by
 have hM:∀b,b∈(⟨H,[],[p],X⟩:Env).M→b=p.1:=fun b hb=>by simpa[Env.M]using hb
 unfold D.avN AV.ok Gok;unfold RdF at h;cases hg:d.isAgg with
 | true=>
   rw[hg,if_pos rfl]at h;obtain⟨fp,cs,h1,h2,h3⟩:=h;exact⟨cs,h1,oM h2 (fun b hb=>⟨fun hm=>(hF b (h3 b hb)).2 (hM b hm),fun _=>p_ (hF b (h3 b hb)).1⟩)⟩
 | false=>
   rw[hg,if_neg (by simp)]at h;obtain⟨fp,h2,h3⟩:=h;exact oM h2 (fun b hb=>⟨fun hm=>(hF b (h3 b hb)).2 (hM b hm),fun _=>p_ (hF b (h3 b hb)).1⟩)
theorem LM{H:Nat}{p:Nat×TypeId}{X F:List Nat}(hF:∀b∈F,b∈X∧b≠p.1):∀{ds:List D} {vs:List Value},xK w F ds vs→ou ⟨H,[],[p],X⟩ [] w (ds.map (D.avN true)) vs
 | [],[],_=>trivial
 |d::ds,v::vs,h=>⟨Uo hF h.1,LM hF h.2⟩
 | [],_::_,h=>h.elim
 |_::_,[],h=>h.elim
theorem LV.toE(t:Bool){f:Nat}{ds:List D}{ys:List AV}{c c0:List AC}{kc:Nat}{post:AV→List Own→List AC→Prop}(h:LV P f ds c post)(hk:bs[kc]? =some c0)(hc0:c0.all (AC.cin t)=true)(hc:c0.map (AC.fl true)=c)(ha:bM [] ys ds)(hn:t=true→ys.all AV.nw=true):
 lJ P f (.bptr kc 0::ys) os bs (fun r2 os2 bs2=>∃r os' c',post r os' c'∧r2=(r.fl t).shift os.length∧os2=os++os'∧bs2=bs.set kc (c'.map (AC.fl t))):=by
 subst hc;intro B Xs G w0 fr E a w vs hR hv;cases vs with
 |nil=>exact hv.elim
 |cons pv vs=>
 obtain⟨⟨p,hp,rfl⟩,hv⟩:=hv;obtain⟨b,ty⟩:=p;have hpM:b∈E.M:=jq.2 (y_ ⟨kc,_,hp,rfl⟩);obtain⟨hBb,us,hrow,hok⟩:=hR.box kc c0 (b,ty) hk hp;simp only at hBb hrow;have hbH:b<w.heap.size:=hrow.lt;obtain⟨X1,hX1,hcu⟩:=Jy (H:=w.heap.size) (p:=(b,ty)) t hpM hc0 hok;obtain⟨F,hF1,hF2⟩:=JG ha hn hv;obtain⟨X,hXe⟩:∃X,X=X1++F:=⟨_,rfl⟩
 have hX:∀x∈X,x∉E.M∧x<w.heap.size∧(t=true→E.nw x):=fun x hx=>by
  rw[hXe]at hx;rcases q_.1 hx with hx|hx
  ·exact hX1 x hx
  ·exact⟨(hF2 x hx).2.1,(hF2 x hx).1,(hF2 x hx).2.2⟩
 have hcu':Oks ⟨w.heap.size,[],[(b,ty)],X⟩ [] w (c0.map (AC.fl true)) us:=Oks.GL (fun x hx=>by rw[hXe];exact x_ _ hx) hcu;have hav:=LM (H:=w.heap.size) (p:=(b,ty)) (X:=X) (F:=F) (fun x hx=>⟨by rw[hXe];exact w_ _ hx,fun e=>(hF2 x hx).2.1 (e▸hpM)⟩) hF1;have hT:BelowT b w w:=⟨Below.refl _ _,fun w' hb'=>hR.below.tab w' (hb'.mono hBb)⟩
 refine(h w b ty us vs X hT (fun x hx=>⟨fun e=>(hX x hx).1 (e▸hpM),(hX x hx).2.1⟩) hrow hcu' hav).mono ?_;rintro e w' ⟨v,om,r,os',c',us',hpost,hr,hc',rfl,ho,hrok,hrow',hcok,hbel,hsame⟩
 
 obtain⟨w1,e1,e2⟩:∃w1:World,w1={w' with heap:=w'.heap.setIfInBounds b (.cells us.toArray ty (0,0))}∧True:=⟨_,rfl,trivial⟩
 have hsz:w1.heap.size=w'.heap.size:=by rw[e1];simp
 have hother:∀x,x≠b→w1.heap[x]? =w'.heap[x]? :=fun x hx=>by rw[e1];simp only;rw[Array.getElem?_setIfInBounds_ne (Ne.symm hx)]
 have hself:w1.heap[b]? =some (.cells us.toArray ty (0,0)):=by
  rw[e1];exact Array.getElem?_setIfInBounds_self_of_lt (hrow'.lt)
 have hB1:Below w.heap.size w w1:=by
  refine⟨by rw[e1];exact hbel.os,by rw[e1];exact hbel.tape,by rw[e1];exact hbel.output,by rw[hsz];exact hbel.size,fun x hx=> ?_⟩;by_cases e:x=b
  ·subst e;exact hself.trans hrow.symm
  ·rw[hother x e];exact hsame x hx e
 have ho1:o8 w.heap.size w1 om os':=yc ho (fun x hx=>hother x (by omega)) (a_v hsz.symm);have hA:=hR.here;have hH:∀x∈E.M,x<w.heap.size:=fun x hx=>(uT hR hx).2
 have hn:∀x,w.heap.size≤x→E.nw x:=fun x hx=>hR.tY (n_ hR.base hx)
 have hol:E.om.length=os.length:=hR.olen;have hB:=hA.zH (x:= .any) (u:=undef) hB1 ho1 none (fun _ _ _ _=>trivial);have hM2:∀x,x∈({E with om:=E.om++om}:Env).M↔x∈E.M∨x∈om.flatMap fun q=>q.1.ownBlock.toList:=fun x=>lS E om
 have hsz':w'.heap.size=w1.heap.size:=hsz.symm;have hC:=hB.Jc (k:=kc) (p:=(b,ty)) (w':=w') (ys:=c'.map (AC.fl t)) (us:=us') hk hp
  (by have:=rO (os:=os) (w1:=w1) (E':={E with om:=E.om++om}) (t:=t) hpM (fun x hx=>⟨(hX x hx).1,(hX x hx).2.2⟩) hH hn hM2 rfl rfl hol hother (a_v hsz') (xq hc') hcok
      rwa[qA hc']at this) hsz' (by rw[e1];exact⟨rfl,rfl,rfl⟩) (fun x hx=>(hother x hx).symm) hrow' none (x:= .any) (v:=undef) trivial
 refine⟨v,_,_,_,_,⟨r,os',c',hpost,rfl,rfl,rfl⟩,rfl,hC, ?_⟩;exact Iw (w1:=w') hpM (fun x hx=>⟨(hX x hx).1,(hX x hx).2.2⟩) hH hn hM2 rfl rfl hol (fun _ _=>rfl) (r_ _) hr hrok
end
theorem QT{os:List Own}{xs:List AV}{ds:List D}(h:bM os xs ds:=by first|exact⟨⟨rfl,rfl⟩,trivial⟩|exact trivial|exact⟨⟨rfl,rfl⟩,⟨rfl,rfl⟩,trivial⟩|exact⟨⟨rfl,rfl⟩,⟨rfl,rfl⟩,⟨rfl,rfl⟩,trivial⟩|(simp[St.ev,List.map_cons,List.map_nil,List.getD_cons_zero,List.getD_cons_succ,bM,dM,dJ,dY,AC.toD,aG,ak,aB,aF,Value.oneCell',bP,aU,bT,bQ,cO,aS,dh,cZ,eF,eG,aJ,aI,Uz,AV.fl,AC.fl,AV.shift,AC.shift,List.append_nil];first|done|rfl)):bM os xs ds:=h
section
variable{P:Program}{K:St→Prop}{d:Option Nat}{f:Nat}{ys:List AV}{rest:List IOp}{st:St}{ds:List D}
theorem Ul{r:AV}(ha:bM st.owns ys ds:=by exact QT)(hr:r.res:=by trivial)(hc:dN P f ds r)(h:sw P K rest (st.put d r)):mO P K d f ys rest st:=rV hc hr ha h
theorem SC{m:Bool}{r:AV}(ha:bM (mo m st) ys ds:=by exact QT)(hr:r.res:=by trivial)(hc:dN P f ds r)(h:sd P m K rest (st.put d r)):qg P m K d f ys rest st:=nM hc hr ha h
end
section
variable{P:Program}{kc:Nat}{m:Bool}{Ts:List Nat}{K:St→Prop}{d:Option Nat}{f:Nat}{xs:List Opd}{rest:List IOp}{st:St}{ds:List D}
theorem qR{xs:List Opd}(h:sn P kc m Ts K (⟨d,none,.call f xs⟩::rest) st):sn P kc m Ts K (⟨d,none,.call f xs⟩::rest) st:=h
theorem Gf{r:AV}(ha:bM (mo m st) (xs.map st.ev) ds:=by exact QT)(hr:r.res:=by trivial)(hc:dN P f ds r)(h:sn P kc m Ts K rest (st.put d r)):sn P kc m Ts K (⟨d,none,.call f xs⟩::rest) st:=by
 refine Ro ?_;rw[Es];exact nM hc hr ha h
end
def AC.rel(k v:Nat)(n:Bool)(l:List D):AC→AC
 | .own j i=>if j=k∧i=v then .sl n l else .own j i
 |x=>x
def AV.rel(k v:Nat)(n:Bool)(l:List D):AV→AV
 | .c g xs=> .c g (xs.map (AC.rel k v n l))
 |x=>x
def St.rel(st:St)(k:Nat)(o:Own):St:=⟨st.fr.map (AV.rel k o.ver o.nw.n o.l),dn st.owns k,st.boxes.map (List.map (AC.rel k o.ver o.nw.n o.l))⟩
section
variable{P:Program}{B:Nat}{Xs:List Nat}{G:Org}{w0:World}{st:St}{E:Env}{a:Act}{w:World}
end
theorem pkZ :type_of% (Va @dS.eq_1 (Va @dS.eq_2 (Va @dU.eq_1 (Va @dU.eq_2 (Va @bI.eq_1 (Va @bI.eq_2 (Va @dn.eq_1 (Va @St.put.eq_1 (Va @St.put.eq_2 (Va @St.ev.eq_1 (Va @St.ev.eq_2 (Va @dR.eq_1 (Va @dR.eq_2 (Va @dV.eq_1 (Va @dV.eq_2 (Va @D.ones.eq_1 (Va @D.ones.eq_2 (Va @D.szs.eq_1 (Va @D.szs.eq_2 (Va @undef.eq_1 (Va @aG (Va @ak (Va @aB (Va @aF (Va @aN (@aH)))))))))))))))))))))))))):=Va @dS.eq_1 (Va @dS.eq_2 (Va @dU.eq_1 (Va @dU.eq_2 (Va @bI.eq_1 (Va @bI.eq_2 (Va @dn.eq_1 (Va @St.put.eq_1 (Va @St.put.eq_2 (Va @St.ev.eq_1 (Va @St.ev.eq_2 (Va @dR.eq_1 (Va @dR.eq_2 (Va @dV.eq_1 (Va @dV.eq_2 (Va @D.ones.eq_1 (Va @D.ones.eq_2 (Va @D.szs.eq_1 (Va @D.szs.eq_2 (Va @undef.eq_1 (Va @aG (Va @ak (Va @aB (Va @aF (Va @aN (@aH)))))))))))))))))))))))))
section
variable{P:Program}{B:Nat}{Xs:List Nat}{G:Org}{w0:World}{st:St}{E:Env}{a:Act}{w:World}
end
theorem szD(xs:Array UInt8):ByteArray.size ⟨xs⟩=xs.size:=rfl
section
variable{lo:Nat×Nat}{P:Program}{K:St→Prop}{Q:Exit→St→Prop}{st:St}{m:Bool}{F H:Prop}{l:List IOp}
theorem ss(f:F)(k:H)(h:F→(sw P K l st)=H:=by intro f;conv=>lhs;simp(disch:=first|decide|omega) only[↓pkS,pkW,pkA,pkZ,List.flatMap_cons,List.flatMap_nil,List.append_nil,bJ,lvD,lcD,lvK,lcK,bK,ex,kav,gdA,opI,dK,dW,dD,AV.toD,AC.toD,AV.nw,AC.nw,AC.one,Value.oneCell',if_true,if_false,Bool.false_eq_true,dF,D.one,D.sz,Nat.reduceAdd,Nat.reduceSub,Nat.reduceLeDiff,Nat.reduceEqDiff,reduceIte,pkN,Uz,Int.reduceLT,Int.reduceLE,AV.fl,AC.fl,AV.shift,AC.shift,szD,List.size_toArray,ByteArray.size_append,yU,eqV,eqC,f]):sw P K l st:=(h f).mpr k
section
variable{d:Option Nat}{g:Nat}{w b:Bool}{i:I}{rest:List IOp}
end
end
theorem ca_{G A B:Prop}(a:A)(b:B)(h:A→B→G:=by intro a b;with_reducible exact pX a b):G:=h a b
theorem hq_{G H:Prop}(k:H)(h:H→G:=by intro k;with_reducible exact hK _ k):G:=h k
theorem rg_{G H:Prop}(k:H)(h:H→G:=by intro k;first|(with_reducible exact vY k)|((with_reducible refine II false ?_ k);rfl)|((with_reducible refine II true ?_ k);rfl)):G:=h k
section
variable{P:Program}{K:St→Prop}{st:St}{m:Bool}{l:List IOp}
end
theorem cg_{G:Prop}(k:G)(h:G→G:=by intro k;first|(with_reducible exact DU k)|(with_reducible exact xu k)):G:=h k
theorem cT_{G H:Prop}{P:Program}{f:Nat}{ds:List D}{r:AV}(hc:dN P f ds r)(k:H)(h:dN P f ds r→H→G:=by intro hc k;first|((with_reducible refine DU ?_);exact Ul (hc:=hc) (h:=k))|((with_reducible refine xu ?_);exact SC (hc:=hc) (h:=k))):G:=h hc k
def zz_(d:Nat)(i:I):IOp:=⟨some d,none,i⟩
def zy_(d t:Nat)(i:I):IOp:=⟨some d,some (t,true),i⟩
def zx_(d t:Nat)(i:I):IOp:=⟨some d,some (t,false),i⟩
def zw_(d a:Nat):IOp:=⟨some d,none,.mov (.t a)⟩
def zv_(d t a:Nat):IOp:=⟨some d,some (t,true),.mov (.t a)⟩
def zu_(d t a:Nat):IOp:=⟨some d,some (t,false),.mov (.t a)⟩
def zt_(d k a:Nat):IOp:=⟨some d,none,.fad k (.t a)⟩
def zs_(d k a:Nat):IOp:=⟨some d,none,.load k false (.t a)⟩
def zr_(d k a:Nat):IOp:=⟨some d,none,.load k true (.t a)⟩
def zq_(d f a:Nat):IOp:=⟨some d,none,.call f [.t a]⟩
def zp_(d f a b:Nat):IOp:=⟨some d,none,.call f [.t a,.t b]⟩
def zo_(d f a b c:Nat):IOp:=⟨some d,none,.call f [.t a,.t b,.t c]⟩
def zn_(d f a:Nat)(z:Int):IOp:=⟨some d,none,.call f [.t a,.k (.int .i64 z)]⟩
def zm_(d:Nat)(o:BinOp)(a:Nat)(z:Int):IOp:=⟨some d,none,.bin o (.t a) (.k (.int .i64 z))⟩
def zl_(d:Nat)(o:BinOp)(a b:Nat):IOp:=⟨some d,none,.bin o (.t a) (.t b)⟩
def zk_(d:Nat)(z:Int):IOp:=⟨some d,none,.mov (.k (.int .i64 z))⟩
def zj_(d:Nat)(v:Bool):IOp:=⟨some d,none,.mov (.k (.bool v))⟩
def zi_(d a:Nat):IOp:=⟨some d,none,.nck (.t a)⟩
def zh_(d a b:Nat)(v:Bool):IOp:=⟨some d,none,.pick (.t a) (.t b) (.k (.bool v))⟩
def zg_(d a:Nat)(v:Bool)(b:Nat):IOp:=⟨some d,none,.pick (.t a) (.k (.bool v)) (.t b)⟩
def zf_(d:Nat)(v:Bool)(a:Nat):IOp:=⟨some d,none,.len v (.t a)⟩
def ze_(d k a b:Nat):IOp:=⟨some d,none,.iad k (.t a) (.t b)⟩
def zd_(l:List IOp)(x:IC):IC:= .seq (.reg false l) x
def zc_(n:Nat)(v:Bool)(y:IC):IC:= .seq (.reg false [⟨some n,none,.mov (.k (.bool v))⟩]) y
theorem zb_{G H:Prop}(k:H)(h:G=H:=by conv=>lhs;dsimp only[zz_,zy_,zx_,zw_,zv_,zu_,zt_,zs_,zr_,zq_,zp_,zo_,zn_,zm_,zl_,zk_,zj_,zi_,zh_,zg_,zf_,ze_,zd_,zc_]):G:=h.mpr k
theorem za_{a b:Int}(h:a≠b):(a==b)=false:=beq_false_of_ne h
end Go.Proofs.YtfengkmaphbofaaGreatDoor
