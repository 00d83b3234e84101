/-
  Texts joined: IrE IrF IrT Ty IrG IrL IrS IrW IrR IrN IrU IrV IrX IrY.
-/
import Derived.Test.YtagaefgglphkgaaJD
import Derived.Test.YtagaefgglphkgaaJA
set_option linter.unusedSimpArgs false
set_option linter.unusedVariables false
namespace Go.Proofs.Ytagaefgglphkgaa
open Go.RowKit
open List renaming getElem?_eq_getElem→a_,getElem?_eq_some_iff→b_,getD_eq_getElem?_getD→c_,getElem?_take→e_,getElem?_append_left→f_,mem_map→g_,all_cons→h_,mem_flatMap→l_,mem_append→o_,length_cons→q_,mem_append_right→r_,all_eq_true→s_,mem_of_getElem? →t_,mem_append_left→u_,nodup_append→x_,getElem?_map→y_,getElem?_set_self→A_,cons_append→B_,getElem?_set_ne→C_,getElem?_append_right→G_,take_sublist→H_,getElem?_cons_zero→I_,getElem?_cons_succ→J_,length_map→K_,nil_append→L_,replicate→N_,nodup_nil→O_,map_cons→Q_,map_congr_left→R_,getD_cons_zero→S_,getD_cons_succ→T_,take_succ_cons→U_,drop_succ_cons→V_,map_nil→W_,set_cons_zero→X_,set_cons_succ→Y_,flatMap_cons→a_c,length_take→a_f,length_nil→a_h,take_zero→a_k,drop_zero→a_l,take_nil→a_m,drop_nil→a_n,flatMap→a_r,all_nil→a_u
open Bool renaming and_eq_true→d_,not_false→D_,not_true→F_,not_eq_eq_eq_not→P_,false_eq_true→Z_,not_eq_false'→a_b,not_eq_true'→a_e,and_true→a_o,true_and→a_p,and_self→a_q
open Option renaming map_eq_some_iff→i_,getD_some→m_,map_some→M_,getD_none→a_g,map_none→a_i
open Nat renaming le_refl→j_,le_trans→n_,zero_le→z_,lt_of_lt_of_le→E_,zero_add→a_s,add_zero→a_t,le_of_eq→a_v
open Value renaming oneCell'→k_
open Or renaming inr→p_,inl→v_
open Option.some renaming injEq→w_
inductive IC where
 |reg (dr:Bool) (ops:List IOp)
 |regN (b s:Bool) (Ts:List Nat) (ops:List IOp)
 |seq (x y:IC)
 |cond (c:Opd) (x y:IC)
 |block (id:Nat) (x:IC)
 |loop (x:IC)
 |exit (id:Nat)
 |ret
 |skip
def Qb(is:List IOp):List Nat:=(is.filterMap fun o=>lU o.i).filter fun t=>is.all fun o=>match o.d with|some u=>u !=t|none=>true
def Sm(is:List IOp):Bool:=is.any fun o=>match o.i with
 | .store _ (.t x) _=>is.any fun q=>q.d==some x && (match q.i with
   | .iad .. =>true
   | .fad _ (.t y)=>is.any fun r=>r.d==some y && (match r.i with| .iad .. =>true|_=>false)
   |_=>false)
 |_=>false
def QZ(is:List IOp):Bool:=(is.any fun o=>match o.i with| .brow false .. =>true|_=>false) && (is.any fun o=>match o.i with| .app .. =>true|_=>false)
def Oz(ops:List Oper)(Ts:List Nat)(is:List IOp):IC:= .regN (rO ops is) (QZ is && oI (1000001::Ts) ops is) Ts is
def PE(ops:List Oper)(is:List IOp):Option IC:=
 if(rO ops is && !(is.any fun o=>o.i.isC)) && !Sm is then(if QZ is && oI [] ops is then some (Oz ops [] is)else some (.reg true is))
 else if oI [] ops is then some (Oz ops [] is)
 else if oI (Qb is) ops is then some (Oz ops (Qb is) is)
 else if rO ops is then some (.reg true is)
 else if oI (1000000::Qb is) ops is then some (Oz ops (1000000::Qb is) is)else none
theorem kW{ops:List Oper}{is:List IOp}{c:IC}(h:PE ops is=some c):(c= .reg true is∧rO ops is=true)∨∃Ts s,c= .regN (rO ops is) s Ts is∧oI Ts ops is=true∧(s=true→oI (1000001::Ts) ops is=true):=by
 have hn:∀Ts,oI Ts ops is=true→∃Ts' s,Oz ops Ts is= .regN (rO ops is) s Ts' is∧oI Ts' ops is=true∧(s=true→oI (1000001::Ts') ops is=true):=fun Ts h=>
  ⟨Ts,_,rfl,h,fun h1=>by rw[d_]at h1;exact h1.2⟩
 unfold PE at h;split at h
 ·next h1=>
  simp only[d_]at h1;split at h
  ·next h2=>injection h with h;rw[d_]at h2;exact p_ (h▸hn _ h2.2)
  ·injection h with h;exact v_ ⟨h.symm,h1.1.1⟩
 ·split at h
  ·next h1=>injection h with h;exact p_ (h▸hn _ h1)
  ·split at h
   ·next h1=>injection h with h;exact p_ (h▸hn _ h1)
   ·split at h
    ·next h1=>injection h with h;exact v_ ⟨h.symm,h1⟩
    ·split at h
     ·next h1=>injection h with h;exact p_ (h▸hn _ h1)
     ·cases h
def au(P:Program):Code→Option IC
 | .region id ops false=>(jR P ops ops.toList).map (IC.reg false)
 | .region id ops true=>(match jR P ops ops.toList with|some is=>if P.follows .mixedOrders then PE ops.toList is else none|none=>none)
 | .seq x y=>(match au P x,au P y with|some x,some y=>some (.seq x y)|_,_=>none)
 | .cond c x y=>(match au P x,au P y with|some x,some y=>some (.cond (opd c) x y)|_,_=>none)
 | .block id x=>(au P x).map (IC.block id)
 | .loop x=>(au P x).map IC.loop
 | .exit id=>some (.exit id)
 | .ret=>some .ret
 | .skip=>some .skip
 | .label _=>some .skip
 |_=>none
theorem mY{P:Program}{id:Nat}{ops:Array Oper}{b:Bool}{c:IC}(h:au P (.region id ops b)=some c)(hc:∀d l,c≠ .reg d l)(hn:∀b s T l,c≠ .regN b s T l):False:=by
 cases b with
 | false=>
   simp only[au]at h;obtain⟨l,_,he⟩:=i_.1 h;exact hc _ _ he.symm
 | true=>
   simp only[au]at h;split at h
   ·split at h
    ·rcases kW h with⟨h,_⟩|⟨Ts,s,h,_⟩
     ·exact hc _ _ h
     ·exact hn _ _ _ _ h
    ·cases h
   ·cases h
def iV(lo:Nat×Nat)(P:Program)(c:IC)(Q:Exit→St→Prop)(st:St):Prop:=
 ∀(code:Code),au P code=some c→∀(B:Nat) (Xs:List Nat) (G:Org) (w0:World),(G.os.length≤lo.1∧G.E.bm.length≤lo.2)→∀(E:Env) (a:Act) (w:World),Rel B Xs G w0 st E a w→code.wp P (fun e a' w'=>∃st' E',Rel B Xs G w0 st' E' a' w'∧Q e st') a w
abbrev AWP(P:Program)(c:IC)(Q:Exit→St→Prop)(st:St):Prop:=iV (0,0) P c Q st
def DR(lo:Nat×Nat)(P:Program)(y:IC)(Q:Exit→St→Prop):Exit→St→Prop
 | .normal,st=>iV lo P y Q st
 |e,st=>Q e st
def wo(id:Nat)(Q:Exit→St→Prop):Exit→St→Prop
 | .exit id',st=>if id'=id then Q .normal st else Q (.exit id') st
 |e,st=>Q e st
section
variable{lo:Nat×Nat}{P:Program}{Q:Exit→St→Prop}{st:St}
theorem fO(h:Q .normal st):iV lo P .skip Q st:=fun code hc B Xs G w0 hG E a w hR=>by
 cases code with
 |skip=>exact wp_skip ⟨st,E,hR,h⟩
 |label l=>exact wp_label ⟨st,E,hR,h⟩
 |region id ops b=>exact(mY hc (by simp) (by simp)).elim
 |seq x y=>simp only[au]at hc;split at hc<;>simp at hc
 |cond c x y=>simp only[au]at hc;split at hc<;>simp at hc
 |block id x=>simp[au]at hc
 |loop x=>simp[au]at hc
 |exit id=>simp[au]at hc
 |ret=>simp[au]at hc
 |rangeFunc=>simp[au]at hc
 |scope=>simp[au]at hc
 |goto=>simp[au]at hc
 |refuse=>simp[au]at hc
theorem fP{id:Nat}(h:Q (.exit id) st):iV lo P (.exit id) Q st:=fun code hc B Xs G w0 hG E a w hR=>by
 cases code with
 |exit id=>simp[au]at hc;subst hc;exact wp_exit ⟨st,E,hR,h⟩
 |skip=>simp[au]at hc
 |label l=>simp[au]at hc
 |region id ops b=>exact(mY hc (by simp) (by simp)).elim
 |seq x y=>simp only[au]at hc;split at hc<;>simp at hc
 |cond c x y=>simp only[au]at hc;split at hc<;>simp at hc
 |block id x=>simp[au]at hc
 |loop x=>simp[au]at hc
 |ret=>simp[au]at hc
 |rangeFunc=>simp[au]at hc
 |scope=>simp[au]at hc
 |goto=>simp[au]at hc
 |refuse=>simp[au]at hc
theorem iQ(h:Q .ret st):iV lo P .ret Q st:=fun code hc B Xs G w0 hG E a w hR=>by
 cases code with
 |ret=>exact wp_ret ⟨st,E,hR,h⟩
 |exit id=>simp[au]at hc
 |skip=>simp[au]at hc
 |label l=>simp[au]at hc
 |region id ops b=>exact(mY hc (by simp) (by simp)).elim
 |seq x y=>simp only[au]at hc;split at hc<;>simp at hc
 |cond c x y=>simp only[au]at hc;split at hc<;>simp at hc
 |block id x=>simp[au]at hc
 |loop x=>simp[au]at hc
 |rangeFunc=>simp[au]at hc
 |scope=>simp[au]at hc
 |goto=>simp[au]at hc
 |refuse=>simp[au]at hc
theorem iP{x y:IC}(h:iV lo P x (DR lo P y Q) st):iV lo P (.seq x y) Q st:=fun code hc B Xs G w0 hG E a w hR=>by
 cases code with
 | seq cx cy=>
   simp only[au]at hc;split at hc
   ·next x' y' hx hy=>
    simp only[w_,IC.seq.injEq]at hc;obtain⟨rfl,rfl⟩:=hc;refine wp_seq (wp_mono (h cx hx B Xs G w0 hG E a w hR) ?_);rintro e a' w' ⟨st',E',h1,h2⟩;cases e with
    |normal=>exact h2 cy hy B Xs G w0 hG E' a' w' h1
    |_=>exact⟨st',E',h1,h2⟩
   ·cases hc
 |ret=>simp[au]at hc
 |exit id=>simp[au]at hc
 |skip=>simp[au]at hc
 |label l=>simp[au]at hc
 |region id ops b=>exact(mY hc (by simp) (by simp)).elim
 |cond c x y=>simp only[au]at hc;split at hc<;>simp at hc
 |block id x=>simp[au]at hc
 |loop x=>simp[au]at hc
 |rangeFunc=>simp[au]at hc
 |scope=>simp[au]at hc
 |goto=>simp[au]at hc
 |refuse=>simp[au]at hc
theorem zB{c:Opd}{x y:IC}{b:Bool}(hb:st.ev c= .c false [.raw (.bool b)])(h1:b=true→iV lo P x Q st)(h2:b=false→iV lo P y Q st):iV lo P (.cond c x y) Q st:=fun code hc B Xs G w0 hG E a w hR=>by
 cases code with
 | cond o cx cy=>
   simp only[au]at hc;split at hc
   ·next x' y' hx hy=>
    simp only[w_,IC.cond.injEq]at hc;obtain⟨rfl,rfl,rfl⟩:=hc;have he:=bF hR hb;cases b with
    |true=>exact wp_cond_true he (h1 rfl cx hx B Xs G w0 hG E a w hR)
    |false=>exact wp_cond_false he (h2 rfl cy hy B Xs G w0 hG E a w hR)
   ·cases hc
 |seq x y=>simp only[au]at hc;split at hc<;>simp at hc
 |ret=>simp[au]at hc
 |exit id=>simp[au]at hc
 |skip=>simp[au]at hc
 |label l=>simp[au]at hc
 |region id ops b=>exact(mY hc (by simp) (by simp)).elim
 |block id x=>simp[au]at hc
 |loop x=>simp[au]at hc
 |rangeFunc=>simp[au]at hc
 |scope=>simp[au]at hc
 |goto=>simp[au]at hc
 |refuse=>simp[au]at hc
theorem eu{id:Nat}{x:IC}(h:iV lo P x (wo id Q) st):iV lo P (.block id x) Q st:=fun code hc B Xs G w0 hG E a w hR=>by
 cases code with
 | block id' cx=>
   simp only[au]at hc;obtain⟨x',hx,he⟩:=i_.1 hc;simp only[IC.block.injEq]at he;obtain⟨rfl,rfl⟩:=he;refine wp_block (wp_mono (h cx hx B Xs G w0 hG E a w hR) ?_);rintro e a' w' ⟨st',E',h1,h2⟩;cases e with
   | exit j=>
     simp only[Exit.inBlock,wo]at h2⊢;split
     ·next e=>rw[if_pos e]at h2;exact⟨st',E',h1,h2⟩
     ·next e=>rw[if_neg e]at h2;exact⟨st',E',h1,h2⟩
   |_=>exact⟨st',E',h1,h2⟩
 |cond c x y=>simp only[au]at hc;split at hc<;>simp at hc
 |seq x y=>simp only[au]at hc;split at hc<;>simp at hc
 |ret=>simp[au]at hc
 |exit id=>simp[au]at hc
 |skip=>simp[au]at hc
 |label l=>simp[au]at hc
 |region id ops b=>exact(mY hc (by simp) (by simp)).elim
 |loop x=>simp[au]at hc
 |rangeFunc=>simp[au]at hc
 |scope=>simp[au]at hc
 |goto=>simp[au]at hc
 |refuse=>simp[au]at hc
theorem JF{ops:List IOp}(h:∀K:St→Prop,(∀st',Q .normal st'→K st')→sw P K ops st):iV lo P (.reg false ops) Q st:=fun code hc B Xs G w0 hG E a w hR=>by
 cases code with
 | region id cops b=>
   cases b with
   | true=>
     simp only[au]at hc;split at hc
     ·split at hc
      ·rcases kW hc with⟨hc,_⟩|⟨Ts,s,hc,_⟩<;>simp at hc
      ·cases hc
     ·cases hc
   | false=>
     simp only[au]at hc;obtain⟨l,hl,he⟩:=i_.1 hc;simp only[IC.reg.injEq]at he;obtain⟨_,rfl⟩:=he;exact wp_region_list (uS (K:=Q .normal) (fun st' E' a' w' h1 h2=>⟨st',E',h1,h2⟩) _ _ st E a w hl hR (h _ fun _ h=>h))
 |block id x=>simp[au]at hc
 |cond c x y=>simp only[au]at hc;split at hc<;>simp at hc
 |seq x y=>simp only[au]at hc;split at hc<;>simp at hc
 |ret=>simp[au]at hc
 |exit id=>simp[au]at hc
 |skip=>simp[au]at hc
 |label l=>simp[au]at hc
 |loop x=>simp[au]at hc
 |rangeFunc=>simp[au]at hc
 |scope=>simp[au]at hc
 |goto=>simp[au]at hc
 |refuse=>simp[au]at hc
theorem uw{ops:List IOp}(m:Bool)(hm:m=ops.any fun o=>o.i.cls==3)(h:∀K:St→Prop,(∀st',Q .normal st'→K st')→sd P m K ops st):iV lo P (.reg true ops) Q st:=fun code hc B Xs G w0 hG E a w hR=>by
 cases code with
 | region id cops b=>
   cases b with
   | false=>
     simp only[au]at hc;obtain⟨l,hl,he⟩:=i_.1 hc;simp at he
   | true=>
     simp only[au]at hc;split at hc
     ·next l hl=>
      split at hc
      ·next hd=>
       rcases kW hc with⟨hc,hb⟩|⟨Ts,s,hc,_⟩
       ·simp only[IC.reg.injEq]at hc;obtain⟨_,rfl⟩:=hc;exact QX (K:=Q .normal) hd hl hb hm (fun st' E' a' w' h1 h2=>⟨st',E',h1,h2⟩) (h _ fun _ h=>h) hR
       ·cases hc
      ·cases hc
     ·cases hc
 |block id x=>simp[au]at hc
 |cond c x y=>simp only[au]at hc;split at hc<;>simp at hc
 |seq x y=>simp only[au]at hc;split at hc<;>simp at hc
 |ret=>simp[au]at hc
 |exit id=>simp[au]at hc
 |skip=>simp[au]at hc
 |label l=>simp[au]at hc
 |loop x=>simp[au]at hc
 |rangeFunc=>simp[au]at hc
 |scope=>simp[au]at hc
 |goto=>simp[au]at hc
 |refuse=>simp[au]at hc
theorem aW{ops:List IOp}{Ts:List Nat}{s:Bool}(m:Bool)(hm:m=ops.any fun o=>o.i.cls==3)(h:∀K:St→Prop,(∀st',Q .normal st'→K st')→sd P m K ops st):iV lo P (.regN true s Ts ops) Q st:=fun code hc B Xs G w0 hG E a w hR=>by
 cases code with
 | region id cops b=>
   cases b with
   | false=>
     simp only[au]at hc;obtain⟨l,hl,he⟩:=i_.1 hc;simp at he
   | true=>
     simp only[au]at hc;split at hc
     ·next l hl=>
      split at hc
      ·next hd=>
       rcases kW hc with⟨hc,hb⟩|⟨Ts,s,hc,_⟩
       ·cases hc
       ·simp only[IC.regN.injEq]at hc;obtain⟨hb,_,_,rfl⟩:=hc;exact QX (K:=Q .normal) hd hl hb.symm hm (fun st' E' a' w' h1 h2=>⟨st',E',h1,h2⟩) (h _ fun _ h=>h) hR
      ·cases hc
     ·cases hc
 |block id x=>simp[au]at hc
 |cond c x y=>simp only[au]at hc;split at hc<;>simp at hc
 |seq x y=>simp only[au]at hc;split at hc<;>simp at hc
 |ret=>simp[au]at hc
 |exit id=>simp[au]at hc
 |skip=>simp[au]at hc
 |label l=>simp[au]at hc
 |loop x=>simp[au]at hc
 |rangeFunc=>simp[au]at hc
 |scope=>simp[au]at hc
 |goto=>simp[au]at hc
 |refuse=>simp[au]at hc
theorem FI{ops:List IOp}{Ts:List Nat}{b s:Bool}(kc:Nat)(m:Bool)(hD:wU Ts st)(h:∀K:St→Prop,(∀st',Q .normal st'→K st')→sn P kc m Ts K ops st)(hS:F9 Ts=true→∀y∈Ts,∀k off,st.ev (.t y)= .bptr k off→k=kc:=by first|(intro h;exact absurd h (by decide))|(simp[F9,St.ev,List.getD_cons_zero,List.getD_cons_succ];done))(hsm:yw Ts=true→m=true:=by first|(intro h;exact absurd h (by decide))|(intro _;rfl)):iV lo P (.regN b s Ts ops) Q st:=fun code hc B Xs G w0 hG E a w hR=>by
 cases code with
 | region id cops b=>
   cases b with
   | false=>
     simp only[au]at hc;obtain⟨l,hl,he⟩:=Option.map_eq_some_iff.1 hc;simp at he
   | true=>
     simp only[au]at hc;split at hc
     ·next l hl=>
      split at hc
      ·next hd=>
       rcases kW hc with⟨hc,hb⟩|⟨Ts,s,hc,hb,hs⟩
       ·cases hc
       ·simp only[IC.regN.injEq]at hc;obtain⟨_,_,rfl,rfl⟩:=hc;exact QW (K:=Q .normal) (kc:=kc) (m:=m) hd hl hb hsm ⟨hD,hS⟩ (fun st' E' a' w' h1 h2=>⟨st',E',h1,h2⟩) (h _ fun _ h=>h) hR
      ·cases hc
     ·cases hc
 |block id x=>simp[au]at hc
 |cond c x y=>simp only[au]at hc;split at hc<;>simp at hc
 |seq x y=>simp only[au]at hc;split at hc<;>simp at hc
 |ret=>simp[au]at hc
 |exit id=>simp[au]at hc
 |skip=>simp[au]at hc
 |label l=>simp[au]at hc
 |loop x=>simp[au]at hc
 |rangeFunc=>simp[au]at hc
 |scope=>simp[au]at hc
 |goto=>simp[au]at hc
 |refuse=>simp[au]at hc
theorem Lp{ops:List IOp}{Ts:List Nat}{b:Bool}(kc:Nat)(hD:wU (1000001::Ts) st)(h:∀K:St→Prop,(∀st',Q .normal st'→K st')→sn P kc true (1000001::Ts) K ops st)(hS:F9 (1000001::Ts)=true→∀y∈1000001::Ts,∀k off,st.ev (.t y)= .bptr k off→k=kc:=by first|(intro h;exact absurd h (by decide))|(simp[F9,St.ev,List.getD_cons_zero,List.getD_cons_succ];done)):iV lo P (.regN b true Ts ops) Q st:=fun code hc B Xs G w0 hG E a w hR=>by
 cases code with
 | region id cops b=>
   cases b with
   | false=>
     simp only[au]at hc;obtain⟨l,hl,he⟩:=Option.map_eq_some_iff.1 hc;simp at he
   | true=>
     simp only[au]at hc;split at hc
     ·next l hl=>
      split at hc
      ·next hd=>
       rcases kW hc with⟨hc,hb⟩|⟨Ts,s,hc,hb,hs⟩
       ·cases hc
       ·simp only[IC.regN.injEq]at hc;obtain⟨_,h9,rfl,rfl⟩:=hc;exact QW (K:=Q .normal) (kc:=kc) (m:=true) hd hl (hs h9.symm) (fun _=>rfl) ⟨hD,hS⟩ (fun st' E' a' w' h1 h2=>⟨st',E',h1,h2⟩) (h _ fun _ h=>h) hR
      ·cases hc
     ·cases hc
 |block id x=>simp[au]at hc
 |cond c x y=>simp only[au]at hc;split at hc<;>simp at hc
 |seq x y=>simp only[au]at hc;split at hc<;>simp at hc
 |ret=>simp[au]at hc
 |exit id=>simp[au]at hc
 |skip=>simp[au]at hc
 |label l=>simp[au]at hc
 |loop x=>simp[au]at hc
 |rangeFunc=>simp[au]at hc
 |scope=>simp[au]at hc
 |goto=>simp[au]at hc
 |refuse=>simp[au]at hc
theorem Pq{st:St}:wU [] st:=fun x hx=>by simp at hx
def AC.fits(n m:Nat):AC→Bool
 | .own k _=>decide (k<n)
 | .osub k _ _ _=>decide (k<n)
 | .cl _ caps=>caps.all fun k=>decide (k<m)
 |_=>true
def AV.fits(n m:Nat):AV→Bool
 | .c _ xs=>xs.all (AC.fits n m)
 | .ptr xs=>xs.all (AC.fits n m)
 | .bptr k _=>decide (k<m)
 | .eptr k _ _ _=>decide (k<n)
 | .tup ys=>ys.all fun y=>y.2.all (AC.fits n m)
 | .any=>true
def lg(n m:Nat):List AV→List AV→Prop
 | [],[]=>True
 |x::xs,y::ys=>(y= .any∨(x=y∧y.fits n m=true))∧lg n m xs ys
 |_,_=>False
def PW(st st':St):Prop:=lg st'.owns.length st'.boxes.length st.fr st'.fr∧(∃r,st.owns=st'.owns++r)∧(∃r,st.boxes=st'.boxes++r)∧∀xs∈st'.boxes,xs.all (AC.fits st'.owns.length st'.boxes.length)=true
def gQ :List Own→List Own→Prop
 |_,[]=>True
 |o::os,o'::os'=>(o.l=o'.l∧o.e=o'.e∧o.s=o'.s∧o.ver=o'.ver∧o.nw=o'.nw)∧gQ os os'
 | [],_::_=>False
def gU :List (List AC)→List (List AC)→Prop
 |_,[]=>True
 |x::xs,y::ys=>x=y∧gU xs ys
 | [],_::_=>False
def gK(st st':St):Prop:=lg st'.owns.length st'.boxes.length st.fr st'.fr∧gQ st.owns st'.owns∧gU st.boxes st'.boxes∧(st'.boxes.all fun xs=>xs.all (AC.fits st'.owns.length st'.boxes.length))=true
theorem yF :∀{os os':List Own},gQ os os'→∃r,os=os'++r
 |os,[],_=>⟨os,rfl⟩
 | o::os,o'::os',h=>by
   obtain⟨r,hr⟩:=yF h.2;obtain⟨⟨h1,h2,h3,h4,h5⟩,_⟩:=h;refine⟨r, ?_⟩;rw[B_,← hr];congr 1;cases o;cases o';simp_all
 | [],_::_,h=>h.elim
theorem zx :∀{xs ys:List (List AC)},gU xs ys→∃r,xs=ys++r
 |xs,[],_=>⟨xs,rfl⟩
 | x::xs,y::ys,h=>by
   obtain⟨r,hr⟩:=zx h.2;exact⟨r,by rw[B_,← hr,h.1]⟩
 | [],_::_,h=>h.elim
theorem Ih{st st':St}(h:gK st st'):PW st st':=by
 obtain⟨h1,h2,h3,h4⟩:=h;exact⟨h1,yF h2,zx h3,fun xs hx=>s_.1 h4 xs hx⟩
section
variable{E:Env}{os os':List Own}{w:World}{n m:Nat}
def Env.cut(E:Env)(n m:Nat):Env:={E with om:=E.om.take n,bm:=E.bm.take m}
theorem JB{b:Nat}(h:b∈(E.cut n m).M):b∈E.M:=by
 rcases iE.1 h with⟨k,p,h1,h2⟩|⟨k,p,h1,h2⟩
 ·refine iE.2 (v_ ⟨k,p, ?_,h2⟩);simp only[Env.cut]at h1;rw[e_]at h1;split at h1
  ·exact h1
  ·cases h1
 ·refine iE.2 (p_ ⟨k,p, ?_,h2⟩);simp only[Env.cut]at h1;rw[e_]at h1;split at h1
  ·exact h1
  ·cases h1
theorem AC.ok.cut{r:List Own}{x:AC}{v:Value}(h:x.ok E (os++r) w v)(hn:os.length=n)(hf:x.fits n m=true):x.ok (E.cut n m) os w v:=by
 cases x with
 |any=>trivial
 |raw u=>exact h
 | cl f caps=>
   obtain⟨ps,h1,h2⟩:=h;refine⟨ps, ?_,h2⟩;rw[← h1];refine R_ fun k hk=> ?_
   have:k<m:=by simpa using s_.1 hf k hk
   simp only[Env.cut];rw[e_,if_pos this]
 | sl b l=>
   obtain⟨fp,h1,h2⟩:=h;exact⟨fp,h1,fun b hb=>⟨fun hm=>(h2 b hb).1 (JB hm),(h2 b hb).2⟩⟩
 | own k i=>
   obtain⟨hv,o,p,h1,h2,h3,h4⟩:=h;have hk:k<n:=by simpa[AC.fits]using hf
   refine⟨hv,o,p, ?_, ?_,h3,h4⟩
   ·rwa[f_ (by omega)]at h1
   ·simp only[Env.cut];rw[e_,if_pos hk];exact h2
 | osub k i pa pb=>
   obtain⟨hv,o,p,h1,h2,h3,h4⟩:=h;have hk:k<n:=by simpa[AC.fits]using hf
   refine⟨hv,o,p, ?_, ?_,h3,h4⟩
   ·rwa[f_ (by omega)]at h1
   ·simp only[Env.cut];rw[e_,if_pos hk];exact h2
theorem Oks.cut{r:List Own}(hn:os.length=n):∀{xs:List AC} {vs:List Value},Oks E (os++r) w xs vs→xs.all (AC.fits n m)=true→Oks (E.cut n m) os w xs vs
 | [],[],_,_=>trivial
 | x::xs,v::vs,h,hf=>by
   simp only[h_,d_]at hf;exact⟨h.1.cut hn hf.1,Oks.cut hn h.2 hf.2⟩
 | [],_::_,h,_=>h.elim
 |_::_,[],h,_=>h.elim
theorem Gok.cut{r:List Own}(hn:os.length=n){g:Bool}{xs:List AC}{v:Value}(h:Gok E (os++r) w g xs v)(hf:xs.all (AC.fits n m)=true):Gok (E.cut n m) os w g xs v:=by
 cases g with
 |true=>obtain⟨vs,h1,h2⟩:=h;exact⟨vs,h1,h2.cut hn hf⟩
 |false=>exact Oks.cut hn (show Oks _ _ _ xs [v] from h) hf
theorem nX.cut{r:List Own}(hn:os.length=n):∀{ys:List (Bool×List AC)} {vs:List Value},nX E (os++r) w ys vs→(ys.all fun y=>y.2.all (AC.fits n m))=true→nX (E.cut n m) os w ys vs
 | [],[],_,_=>trivial
 | x::xs,v::vs,h,hf=>by
   simp only[h_,d_]at hf;exact⟨h.1.cut hn hf.1,nX.cut hn h.2 hf.2⟩
 | [],_::_,h,_=>h.elim
 |_::_,[],h,_=>h.elim
theorem AV.ok.cut{r:List Own}(hn:os.length=n){x:AV}{v:Value}(h:x.ok E (os++r) w v)(hf:x.fits n m=true):x.ok (E.cut n m) os w v:=by
 cases x with
 |any=>trivial
 |c g xs=>exact Gok.cut hn h hf
 | ptr xs=>
   obtain⟨b,o,vs,h1,h2,h3,h4,h5⟩:=h;exact⟨b,o,vs,h1,h2,fun hm=>h3 (JB hm),h4,h5.cut hn hf⟩
 | bptr k off=>
   obtain⟨p,h1,h2⟩:=h;refine⟨p, ?_,h2⟩;simp only[Env.cut];rw[e_,if_pos (by simpa[AV.fits]using hf)];exact h1
 | eptr k i j off=>
   obtain⟨o,p,h1,h2,h3,h4⟩:=h;have hk:k<n:=by simpa[AV.fits]using hf
   refine⟨o,p, ?_, ?_,h3,h4⟩
   ·rwa[f_ (by omega)]at h1
   ·simp only[Env.cut];rw[e_,if_pos hk];exact h2
 | tup ys=>
   obtain⟨vs,h1,h2⟩:=h;exact⟨vs,h1,h2.cut hn hf⟩
end
theorem EY{n m:Nat}:∀{xs ys:List AV},lg n m xs ys→xs.length=ys.length∧∀(t:Nat) (y:AV),ys[t]? =some y→y= .any∨(xs[t]? =some y∧y.fits n m=true)
 | [],[],_=>⟨rfl,fun t y h=>by simp at h⟩
 | x ::xs,y::ys,h=>by
   obtain⟨h1,h2⟩:=EY h.2;refine⟨by simp[h1],fun t z hz=> ?_⟩;cases t with
   | zero=>
     simp at hz;subst hz;rcases h.1 with h'|⟨h',h''⟩
     ·exact v_ h'
     ·exact p_ ⟨by simp[h'],h''⟩
   |succ t=>simpa using h2 t z (by simpa using hz)
 | [],_::_,h=>h.elim
 |_::_,[],h=>h.elim
theorem Rel.weak{B:Nat}{Xs:List Nat}{G:Org}{w0:World}{st st':St}{E:Env}{a:Act}{w:World}(h:Rel B Xs G w0 st E a w)(hle:PW st st')(hG1:G.os.length≤st'.owns.length)(hG2:G.E.bm.length≤st'.boxes.length):∃E',Rel B Xs G w0 st' E' a w:=by
 obtain⟨h1,⟨r1,h2⟩,⟨r2,h3⟩,h4⟩:=hle;obtain⟨hl,hf⟩:=EY h1;obtain⟨fr,os,bs⟩:=st;obtain⟨fr',os',bs'⟩:=st';simp only at h2 h3 h1 hl hf h4;subst h2 h3;have hol:=h.olen;have hbl:=h.blen;simp only[List.length_append]at hol hbl;refine⟨E.cut os'.length bs'.length, ?_⟩;exact
  { eb:=h.eb
    ex:=h.ex
    sim := { base:=h.sim.base,size:=h.sim.size,blk:=h.sim.blk,old:=fun b hb hm=>h.sim.old b hb (JB hm),
             own:=fun k o p g1 g2=>by
              obtain⟨o',p',q1,q2,q3⟩:=h.sim.own k o p g1 g2;have hk:k<os'.length:=E_ (b_.1 g1).1 hG1;refine⟨o',p', ?_, ?_,q3⟩
              ·simp only at q1⊢;rwa[f_ hk]at q1
              ·simp only[Env.cut];rw[e_,if_pos hk];exact q2
             box:=fun k p g=>by
              have hk:k<bs'.length:=E_ (b_.1 g).1 hG2;simp only[Env.cut];rw[e_,if_pos hk];exact h.sim.box k p g}
    defers:=h.defers
    size:=by rw[h.size];exact hl
    fr:=fun t y hy=>by
     rcases hf t y hy with rfl|⟨h5,h6⟩
     ·trivial
     ·exact(h.fr t y h5).cut rfl h6
    olen:=by simp only[Env.cut,a_f];omega
    own:=fun k o p g1 g2=>by
     have hk:k<os'.length:=(b_.1 g1).1;simp only[Env.cut]at g2;rw[e_,if_pos hk]at g2;obtain⟨cs,h5,h6,h7,h8⟩:=h.own k o p (by simp only;rw[f_ hk];exact g1) g2;exact⟨cs,h5,h6,h7,fun b hb=>⟨fun hm=>(h8 b hb).1 (JB hm),(h8 b hb).2⟩⟩
    blen:=by simp only[Env.cut,a_f];omega
    box:=fun k xs p g1 g2=>by
     have hk:k<bs'.length:=(b_.1 g1).1;simp only[Env.cut]at g2;rw[e_,if_pos hk]at g2;obtain⟨h5,vs,h6,h7⟩:=h.box k xs p (by simp only;rw[f_ hk];exact g1) g2;exact⟨h5,vs,h6,h7.cut rfl (h4 xs (t_ g1))⟩
    nodup:=by
     have:=h.nodup;unfold Env.M at this⊢;rw[x_]at this⊢;refine⟨this.1.sublist (by simp only[Env.cut];exact(H_ _ _).map _),this.2.1.sublist (by
      simp only[Env.cut];have e:=congrArg (a_r (fun p:Value×List Nat=>p.1.ownBlock.toList)) (List.take_append_drop os'.length E.om);rw[List.flatMap_append]at e;rw[← e];exact List.sublist_append_left _ _),fun x hx y hy=> ?_⟩
     refine this.2.2 x ?_ y ?_
     ·exact((H_ bs'.length E.bm).map _).subset hx
     ·obtain⟨p,hp,hpy⟩:=l_.1 hy;exact l_.2 ⟨p,List.mem_of_mem_take hp,hpy⟩
    lin:=by
     refine h.lin.map (fun k=>k) (fun j k e _ _=>e) fun k o p g1 g2 g3=>p_ ⟨o, ?_, ?_,g3⟩
     ·simp only;rw[f_ (b_.1 g1).1];exact g1
     ·simp only[Env.cut]at g2;rwa[e_,if_pos (b_.1 g1).1]at g2
    unf:=by
     refine h.unf.map (fun k=>k) fun k o p g1 g2 g3=>p_ ⟨o, ?_, ?_,g3⟩
     ·simp only;rw[f_ (b_.1 g1).1];exact g1
     ·simp only[Env.cut]at g2;rwa[e_,if_pos (b_.1 g1).1]at g2
    below:=h.below
    base:=h.base}
theorem JV{P:Program}{Q:Exit→Act→World→Prop}{a:Act}{w:World}{c:Code}(I:Nat→Act→World→Prop)(n:Nat)(h₀:I n a w)
 (round:∀n a w,I n a w→c.wp P (Exit.then (fun a' w'=>∃m,m<n∧I m a' w') Q) a w):(Code.loop c).wp P Q a w:=by
 intro b k cs;have key:∀n a w,I n a w→∃e a' w',Q e a' w'∧Arrives P (lone (b.at a (.code c:: .inLoop c::k)) cs w) b k cs e a' w':=by
  intro n
  induction n using Nat.strongRecOn with
  | _ n ih=>
    intro a w hI;obtain⟨e,a₁,w₁,hq,harr⟩:=round n a w hI b (.inLoop c::k) cs;cases e with
    | normal=>
      obtain⟨m,hlt,hI₁⟩:=hq;obtain⟨e₂,a₂,w₂,hq₂,harr₂⟩:=ih m hlt a₁ w₁ hI₁;exact⟨e₂,a₂,w₂,hq₂,.of_steps (Steps.trans harr (.one step_inLoop)) harr₂⟩
    |exit id=>exact⟨_,a₁,w₁,hq,.pass (x:= .inLoop c) rfl (fun _ _=> .inl (by simp)) harr⟩
    |goto l=>exact⟨_,a₁,w₁,hq,.pass (x:= .inLoop c) rfl (fun _ _=> .inl (by simp)) harr⟩
    |ret=>exact⟨_,a₁,w₁,hq,.pass (x:= .inLoop c) rfl (fun _ _=> .inl (by simp)) harr⟩
    |panic ch=>exact⟨_,a₁,w₁,hq,.pass (x:= .inLoop c) rfl (fun _ _=> .inl (by simp)) harr⟩
    |outgrown=>exact⟨_,a₁,w₁,hq,.pass (x:= .inLoop c) rfl (fun _ _=> .inl (by simp)) harr⟩
 obtain⟨e,a',w',hq,harr⟩:=key n a w h₀;exact⟨e,a',w',hq,.of_steps (.one step_loop) harr⟩
def vZ{X:Type}(F:X→St)(inv:X→Prop)(μ:X→Nat)(x:X)(Q:Exit→St→Prop):Exit→St→Prop
 | .normal,st=>∃x',PW st (F x')∧inv x'∧μ x'<μ x
 |e,st=>Q e st
theorem Lr{X:Type}{c:IC}(F:X→St)(inv:X→Prop)(μ:X→Nat)(x0:X)(h0:inv x0)(hlo:∀x,lo.1≤(F x).owns.length∧lo.2≤(F x).boxes.length)(hle:PW st (F x0))(round:∀x,inv x→iV lo P c (vZ F inv μ x Q) (F x)):iV lo P (.loop c) Q st:=fun code hc B Xs G w0 hG E a w hR=>by
 cases code with
 | loop cc=>
   simp only[au]at hc;obtain⟨c',hcc,he⟩:=i_.1 hc;simp only[IC.loop.injEq]at he;subst he;obtain⟨E',hR'⟩:=hR.weak hle (n_ hG.1 (hlo _).1) (n_ hG.2 (hlo _).2);refine JV (fun n a w=>∃x E,μ x=n∧inv x∧Rel B Xs G w0 (F x) E a w) (μ x0) ⟨x0,E',rfl,h0,hR'⟩ ?_;rintro n a w ⟨x,E,rfl,hx,hR⟩;refine wp_mono (round x hx cc hcc B Xs G w0 hG E a w hR) ?_;rintro e a' w' ⟨st',E',h1,h2⟩;cases e with
   | normal=>
     obtain⟨x',h3,h4,h5⟩:=h2;obtain⟨E'',h6⟩:=h1.weak h3 (n_ hG.1 (hlo _).1) (n_ hG.2 (hlo _).2);exact⟨μ x',h5,x',E'',rfl,h4,h6⟩
   |_=>exact⟨st',E',h1,h2⟩
 |region id cops b=>exact(mY hc (by simp) (by simp)).elim
 |block id x=>simp[au]at hc
 |cond c x y=>simp only[au]at hc;split at hc<;>simp at hc
 |seq x y=>simp only[au]at hc;split at hc<;>simp at hc
 |ret=>simp[au]at hc
 |exit id=>simp[au]at hc
 |skip=>simp[au]at hc
 |label l=>simp[au]at hc
 |rangeFunc=>simp[au]at hc
 |scope=>simp[au]at hc
 |goto=>simp[au]at hc
 |refuse=>simp[au]at hc
theorem PN{X:Type}{c:IC}(F:X→St)(inv:X→Prop)(μ:X→Nat)(x0:X)(h0:inv x0)(hle:PW st (F x0))(round:∀x,inv x→AWP P c (vZ F inv μ x Q) (F x)):AWP P (.loop c) Q st:=
 Lr F inv μ x0 h0 (fun _=>⟨z_ _,z_ _⟩) hle round
end
def stN(b:Bool)(n:Nat)(ds:List D):St:=⟨ds.map (D.avN b)++N_ (n - ds.length) (.c false [.raw undef]),[],[]⟩
def st0(n:Nat)(ds:List D):St:=⟨ds.map D.av++N_ (n - ds.length) (.c false [.raw undef]),[],[]⟩
theorem TF{w:World}{F:List Nat}{d:D}{v:Value}{H:Nat}{b:Bool}(h:RdF w F d v):(D.avN b d).ok ⟨H,[],[],if b then F else []⟩ [] w v:=by
 unfold RdF at h;show Gok _ _ _ d.isAgg (d.acs b) v;unfold Gok;have hn:∀x∈F,b=true→(⟨H,[],[],if b then F else []⟩:Env).nw x:=fun x hx e=>by subst e;exact p_ hx
 cases hg:d.isAgg with
 | true=>
   rw[hg,if_pos rfl]at h;obtain⟨fp,cs,h1,h2,h3⟩:=h;rw[if_pos rfl];exact⟨cs,h1,nG h2 (fun x hx=>⟨by simp[Env.M],hn x (h3 x hx)⟩)⟩
 | false=>
   rw[hg,if_neg (by simp)]at h;obtain⟨fp,h2,h3⟩:=h;rw[if_neg (by simp)];exact nG h2 (fun x hx=>⟨by simp[Env.M],hn x (h3 x hx)⟩)
theorem yB{w:World}{F:List Nat}:∀{ds:List D} {vs:List Value},vY w F ds vs→ds.length=vs.length∧∀(t:Nat) (d:D),ds[t]? =some d→∃v,vs[t]? =some v∧RdF w F d v
 | [],[],_=>⟨rfl,fun t d h=>by simp at h⟩
 | d::ds,v::vs,h=>by
   obtain⟨h1,h2⟩:=yB h.2;refine⟨by simp[h1],fun t x hx=> ?_⟩;cases t with
   |zero=>simp at hx;subst hx;exact⟨v,rfl,h.1⟩
   |succ t=>simpa using h2 t x (by simpa using hx)
 | [],_::_,h=>h.elim
 |_::_,[],h=>h.elim
theorem RP{w:World}{d:D}{v:Value}(h:Rd w d v):∃F,RdF w F d v:=by
 unfold Rd at h;unfold RdF;split at h
 ·obtain⟨fp,cs,h1,h2⟩:=h;exact⟨fp,by rw[if_pos ‹_›];exact⟨fp,cs,h1,h2,fun b hb=>hb⟩⟩
 ·obtain⟨fp,h2⟩:=h;exact⟨fp,by rw[if_neg ‹_›];exact⟨fp,h2,fun b hb=>hb⟩⟩
theorem Eb{w:World}:∀{ds:List D} {vs:List Value},Rds w ds vs→∃F,vY w F ds vs
 | [],[],_=>⟨[],trivial⟩
 | d::ds,v::vs,h=>by
   obtain⟨F1,h1⟩:=RP h.1;obtain⟨F2,h2⟩:=Eb h.2;exact⟨F1++F2,h1.mono (fun b hb=>u_ _ hb),h2.mono (fun b hb=>r_ _ hb)⟩
 | [],_::_,h=>h.elim
 |_::_,[],h=>h.elim
theorem Kr{w:World}{F:List Nat}{ds:List D}{vs:List Value}(b:Bool)(h:vY w F ds vs)(ht:kQ w)(n:Nat):Rel w.heap.size (if b then F else []) ⟨⟨w.heap.size,[],[],if b then F else []⟩,[],w⟩ w (stN b n ds) ⟨w.heap.size,[],[],if b then F else []⟩ {tmps:=vs.toArray++Array.replicate (n - vs.toArray.size) undef,defers:= []} w where
 eb:=j_ _
 ex:=rfl
 sim:=Sim.refl _ _ _
 defers:=rfl
 size:=by
  obtain⟨hl,_⟩:=yB h;simp[stN,hl]
 fr :=by
  obtain⟨hl,hg⟩:=yB h;intro t x hx;simp only[stN]at hx;rw[List.getElem?_append]at hx;simp only[Array.getD_eq_getD_getElem?];split at hx
  ·next ht=>
   rw[y_]at hx;obtain⟨d,hd,rfl⟩:=i_.1 hx;obtain⟨v,hv,hr⟩:=hg t d hd;rw[Array.getElem?_append_left (by simp at ht⊢;omega)];simp only[List.getElem?_toArray,hv,m_];exact TF hr
  ·next ht=>
   rw[List.getElem?_replicate]at hx;split at hx
   ·next hlt=>
    injection hx with hx
    subst hx;simp only[K_]at ht hlt;rw[Array.getElem?_append_right (by simp;omega),Array.getElem?_replicate];simp only[List.size_toArray,← hl];rw[if_pos hlt];exact⟨rfl,trivial⟩
   ·cases hx
 olen:=rfl
 own:=fun k o p h1 h2=>by simp[stN]at h1
 blen:=rfl
 box:=fun k xs p h1 h2=>by simp[stN]at h1
 nodup:=by simp[Env.M]
 lin:=Lin.nil
 unf:=Unf.nil
 below:=BelowT.start ht
 base:=j_ _
def LQ(Fin:St→Prop):Exit→St→Prop
 | .normal,st=>Fin st
 | .ret,st=>Fin st
 |_,_=>False
theorem He{P:Program}{f:Nat}{fn:Func}{code:Code}{ic:IC}{ds:List D}{Fin:St→Prop}{post:List Nat→World→Ending→World→Prop}(b:Bool)(hf:P.funcs[f]? =some fn)(hb:fn.body=some code)(hc:au P code=some ic)
 (h:AWP P ic (LQ Fin) (stN b fn.ntmps ds))
 (hfin:∀(F:List Nat) (G:Org) (w w':World) (st:St) (E:Env) (a:Act),Rel w.heap.size (if b then F else []) G w st E a w'→Fin st→∃v,(results fn a.tmps).run P w'= .ok v w'∧post F w (.returned v) w'):
 ∀(w:World) (F:List Nat) (vs:List Value),vY w F ds vs→kQ w→Calls P f vs.toArray w (post F w):=by
 intro w F vs hr ht;refine calls_of_wp hf hb ?_;have:=h code hc w.heap.size _ _ w ⟨j_ _,j_ _⟩ _ _ w (Kr b hr ht fn.ntmps);refine wp_mono this ?_;rintro e a' w' ⟨st',E',h1,h2⟩;cases e with
 | normal=>
   obtain⟨v,h3,h4⟩:=hfin F _ w w' st' E' a' h1 h2;exact⟨h1.defers,v,h3,h4⟩
 | ret=>
   obtain⟨v,h3,h4⟩:=hfin F _ w w' st' E' a' h1 h2;exact⟨h1.defers,v,h3,h4⟩
 |_=>exact h2.elim
theorem vP{P:Program}{f:Nat}{fn:Func}{code:Code}{ic:IC}{ds:List D}{Fin:St→Prop}{post:World→Ending→World→Prop}(hf:P.funcs[f]? =some fn)(hb:fn.body=some code)(hc:au P code=some ic)
 (h:AWP P ic (LQ Fin) (st0 fn.ntmps ds))
 (hfin:∀(G:Org) (w w':World) (st:St) (E:Env) (a:Act),Rel w.heap.size [] G w st E a w'→Fin st→∃v,(results fn a.tmps).run P w'= .ok v w'∧post w (.returned v) w'):
 ∀(w:World) (vs:List Value),Rds w ds vs→kQ w→Calls P f vs.toArray w (post w):=by
 intro w vs hr ht;obtain⟨F,hF⟩:=Eb hr;exact He (post:=fun _=>post) false hf hb hc h (fun F G w w' st E a hR=>hfin G w w' st E a hR) w F vs hF ht
def kR(l:List D):Prop:=∀(w:World) (f:List Nat) (cs:List Value),Rs w l f cs→f= []
def jv(os:List Own):AC→AC→Prop
 |_,.any=>True
 | .raw v,.raw u=>v=u
 | .sl n l,.sl _ l'=>n=true∧l=l'
 | .own k i,.sl _ l=>∃o,os[k]? =some o∧o.ver=i∧o.l=l∧(o.nw.n=true∨kR l)
 | .raw v,.sl _ l=>v= .slice none 0 0∧l= []
 |_,_=>False
def dM(os:List Own):List AC→List AC→Prop
 | [],[]=>True
 |x::xs,y::ys=>jv os x y∧dM os xs ys
 |_,_=>False
section
variable{B:Nat}{Xs:List Nat}{G:Org}{w0:World}{st:St}{E E':Env}{a:Act}{w:World}
def zQ(B:Nat)(Xs:List Nat)(E':Env):Prop:=∀b,(B≤b∨b∈Xs)→b∉E'.M∧E'.nw b
theorem I9(B:Nat):zQ B [] (gZ B):=fun b hb=>by
 have:B≤b:=by simpa using hb
 exact⟨kH.2 this,v_ this⟩
theorem yH(h:Rel B Xs G w0 st E a w){b:Nat}(hb:E.nw b):B≤b∨b∈Xs:=by
 unfold Env.nw at hb;rw[h.ex]at hb;exact hb.imp_left (n_ h.eb)
theorem LG(h:Rel B Xs G w0 st E a w)(hE:zQ B Xs E'){x y:AC}{v:Value}(hf:jv st.owns x y)(hx:x.ok E st.owns w v):y.ok E' [] w v:=by
 cases y with
 |any=>trivial
 | raw u=>cases x with
   |raw v'=>obtain rfl:=hf;exact hx
   |_=>exact hf.elim
 | sl n l=>cases x with
   | sl n' l'=>
     obtain⟨rfl,rfl⟩:=hf;obtain⟨fp,h1,h2⟩:=hx;refine⟨fp,h1,fun b hb=> ?_⟩;have hB:=hE b (yH h ((h2 b hb).2 rfl));exact⟨hB.1,fun _=>hB.2⟩
   | own k i=>
     obtain⟨o,h1,h2,rfl,h3⟩:=hf;obtain⟨_,o',p,g1,g2,g3,g4⟩:=hx;rw[h1]at g1;injection g1 with g1
     subst g1;obtain rfl:=g4 h2;obtain⟨cs,h5,h6,h7,h8⟩:=h.own k o p h1 g2;refine⟨_,Sl.lT h5 h6,fun b hb=> ?_⟩;have hB:E.nw b:=by
      rcases o_.1 hb with hb|hb
      ·exact h.rM (aK.lt h5 b (by simpa using hb)).1
      ·rcases h3 with h3|h3
       ·exact(h8 b hb).2 h3
       ·rw[h3 _ _ _ h6]at hb;simp at hb
     have hB:=hE b (yH h hB);exact⟨hB.1,fun _=>hB.2⟩
   | raw v'=>
     obtain⟨rfl,rfl⟩:=hf;obtain rfl:=hx;refine⟨[], ?_,fun b hb=>by simp at hb⟩;unfold Sl;rw[R];exact⟨none,0,rfl,j_ _,z_ _,v_ ⟨rfl,rfl⟩⟩
   |any=>exact hf.elim
   |osub _ _ _ _=>exact hf.elim
   |cl _ _=>exact hf.elim
 |own k i=>cases x<;>exact hf.elim
 |osub k i pa pb=>cases x<;>exact hf.elim
 |cl f caps=>cases x<;>exact hf.elim
theorem pq(h:Rel B Xs G w0 st E a w)(hE:zQ B Xs E'):∀{xs ys:List AC} {vs:List Value},dM st.owns xs ys→Oks E st.owns w xs vs→Oks E' [] w ys vs
 | [],[],[],_,_=>trivial
 |x::xs,y::ys,v::vs,hf,hx=>⟨LG h hE hf.1 hx.1,pq h hE hf.2 hx.2⟩
 | [],[],_::_,_,hx=>hx.elim
 |_::_,_::_,[],_,hx=>hx.elim
 | [],_::_,_,hf,_=>hf.elim
 |_::_,[],_,hf,_=>hf.elim
theorem EW(h:Rel B Xs G w0 st E a w)(hE:zQ B Xs E'){g:Bool}{xs ys:List AC}{v:Value}(hf:dM st.owns xs ys)(hx:Gok E st.owns w g xs v):Gok E' [] w g ys v:=by
 cases g with
 |true=>obtain⟨vs,h1,h2⟩:=hx;exact⟨vs,h1,pq h hE hf h2⟩
 |false=>exact pq h hE hf (show Oks _ _ _ xs [v] from hx)
end
theorem wQ{os:List Own}:∀{xs ys:List AC},dM os xs ys→xs.length=ys.length
 | [],[],_=>rfl
 |_::xs,_::ys,h=>by rw[q_,q_,wQ h.2]
 | [],_::_,h=>h.elim
 |_::_,[],h=>h.elim
def TK(t:Nat)(g:Bool)(ys:List AC)(st:St):Prop:=∃xs,st.fr.getD t .any= .c g xs∧dM st.owns xs ys
def TL(t:Nat)(ys:List AC)(st:St):Prop:=∃k xs,st.fr.getD t .any= .bptr k 0∧st.boxes[k]? =some xs∧dM st.owns xs ys
def TT(r:ResultVar)(g:Bool)(ys:List AC)(st:St):Prop:=match r with
 | .tmp t=>TK t g ys st
 | .cell t _=>TL t ys st
def sN(P:Program)(ty:TypeId)(n:Nat):Bool:=match P.info? ty,P.underlying ty with
 |some i,some d=>i.size==n && kU d
 |_,_=>false
def qM(P:Program)(r:ResultVar)(g:Bool)(n:Nat):Bool:=match r with
 | .tmp _=>true
 | .cell _ ty=>g && sN P ty n
def mJ(r:ResultVar)(tmps:Array Value):Sem Value:=match r with
 | .tmp t=>pure (tmps.getD t undef)
 | .cell a t=>do loadVar t (← asAddr (tmps.getD a undef))
section
variable{P:Program}{f:Nat}{fn:Func}{code:Code}{ic:IC}{ds:List D}
theorem sQ{B:Nat}{Xs:List Nat}{G:Org}{w0:World}{st:St}{E:Env}{a:Act}{w:World}(h:Rel B Xs G w0 st E a w){t:Nat}{x:AV}(hx:st.fr.getD t .any=x):x.ok E st.owns w (a.tmps.getD t undef):=by
 have:=bU h (.tmp t);simp only[opd,St.ev,Act.eval]at this;rwa[hx]at this
theorem QA{B:Nat}{Xs:List Nat}{G:Org}{w0:World}{st:St}{E E':Env}{a:Act}{w:World}(h:Rel B Xs G w0 st E a w)(hE:zQ B Xs E'){r:ResultVar}{g:Bool}{ys:List AC}(hp:qM P r g ys.length=true)(hf:TT r g ys st):
 ∃v,(mJ r a.tmps).run P w= .ok v w∧Gok E' [] w g ys v:=by
 cases r with
 | tmp t=>
   obtain⟨xs,h1,h2⟩:=hf;exact⟨_,rfl,EW h hE h2 (sQ h h1)⟩
 | cell t ty=>
   obtain⟨k,xs,h1,h2,h3⟩:=hf;simp only[qM,d_,sN]at hp;obtain⟨rfl,hp⟩:=hp;split at hp
   ·next i d hi hd=>
    simp only[d_,beq_iff_eq]at hp;obtain⟨p,g1,g2⟩:=sQ h h1;obtain⟨_,vs,h4,h5⟩:=h.box k xs p h2 g1;have hlen:vs.length=i.size:=by rw[← h5.len,wQ h3,hp.1]
    refine⟨.agg vs.toArray, ?_,vs,rfl,pq h hE h3 h5⟩;simp only[mJ];rw[g2];have:=run_loadVar_row (P:=P) w p.1 p.2 ty vs.toArray (0,0) d h4 hd (by have:=hp.2;cases d<;>simp_all [kU]) (by rw[hi];simp[hlen]);simp[asAddr,this]
   ·cases hp
theorem wC{r:ResultVar}(hr:fn.results= #[r])(tmps:Array Value){w:World}{v:Value}(h:(mJ r tmps).run P w= .ok v w):(results fn tmps).run P w= .ok v w:=by
 cases r with
 |tmp t=>simp[mJ]at h;simp[results,hr,h]
 |cell t ty=>simp[mJ]at h;simp[results,hr,h]
theorem oJ{t:Nat}{g:Bool}{ys:List AC}(hf:P.funcs[f]? =some fn:=by kernel_rfl)(hb:fn.body=some code:=by kernel_rfl)(hr:fn.results= #[.tmp t]:=by kernel_rfl)(hc:au P code=some ic)
 (h:AWP P ic (LQ (TK t g ys)) (st0 fn.ntmps ds)):aF P f ds (.c g ys):=by
 refine vP (post:=fun w e w'=>Ae (.c g ys) w e w') hf hb hc h ?_;rintro G w w' st E a hR ⟨xs,h1,h2⟩;refine⟨_,results_tmp hr a.tmps P w',_,rfl,EW hR (I9 _) h2 (sQ hR h1),hR.below.out⟩
theorem eY{t:Nat}{ty:TypeId}{ys:List AC}(hf:P.funcs[f]? =some fn:=by kernel_rfl)(hb:fn.body=some code:=by kernel_rfl)(hr:fn.results= #[.cell t ty]:=by kernel_rfl)(hp:sN P ty ys.length=true:=by kernel_rfl)(hc:au P code=some ic)
 (h:AWP P ic (LQ (TL t ys)) (st0 fn.ntmps ds)):aF P f ds (.c true ys):=by
 refine vP (post:=fun w e w'=>Ae (.c true ys) w e w') hf hb hc h ?_;rintro G w w' st E a hR hF;obtain⟨v,h1,h2⟩:=QA (P:=P) (r:= .cell t ty) (g:=true) hR (I9 _) (by simp[qM,hp]) hF;exact⟨v,wC hr _ h1,v,rfl,h2,hR.below.out⟩
def pG(os:List Own)(pk:List Nat):AC→AC→Prop
 |_,.any=>True
 | .raw v,.raw u=>v=u
 | .sl n l,.sl m l'=>n=true∧m=true∧l=l'
 | .own k i,.sl m l=>m=true∧k∉pk∧∃o,os[k]? =some o∧o.ver=i∧o.l=l∧(o.nw.n=true∨kR l)
 | .own k i,.own j z=>pk[j]? =some k∧z=0∧∃o,os[k]? =some o∧o.ver=i
 |_,_=>False
def jP(os:List Own)(pk:List Nat):List AC→List AC→Prop
 | [],[]=>True
 |x::xs,y::ys=>pG os pk x y∧jP os pk xs ys
 |_,_=>False
def wS(o o':Own):Prop:=match o'.nw.lin with
 |false=>o.nw.n=true∨kR o.l
 |true=>(o.nw.n=true∧o.nw.lin=true)∨kR o.l
def pz(os:List Own):List Nat→List Own→Prop
 | [],[]=>True
 |k::pk,o'::os'=>(∃o,os[k]? =some o∧o'=⟨o.l,o.e,o.s,0,⟨true,o'.nw.lin⟩⟩∧wS o o')∧pz os pk os'
 |_,_=>False
def RD(pk:List Nat)(r:ResultVar)(g:Bool)(ys:List AC)(st:St):Prop:=match r with
 | .tmp t=>∃xs,st.fr.getD t .any= .c g xs∧jP st.owns pk xs ys
 | .cell t _=>∃k xs,st.fr.getD t .any= .bptr k 0∧st.boxes[k]? =some xs∧jP st.owns pk xs ys
theorem uF{os:List Own}{pk:List Nat}:∀{xs ys:List AC},jP os pk xs ys→xs.length=ys.length
 | [],[],_=>rfl
 |_::xs,_::ys,h=>by rw[q_,q_,uF h.2]
 | [],_::_,h=>h.elim
 |_::_,[],h=>h.elim
theorem wS.weak{o o':Own}(h:wS o o'):o.nw.n=true∨kR o.l:=by
 unfold wS at h;split at h
 ·exact h
 ·exact h.imp And.left id
theorem wS.lin{o o':Own}(h:wS o o')(e:o'.nw.lin=true):o.nw.lin=true∨kR o.l:=by
 unfold wS at h;rw[e]at h;exact h.imp And.right id
theorem tu{os:List Own}:∀{pk:List Nat} {os':List Own},pz os pk os'→pk.length=os'.length∧∀(j k:Nat) (o':Own),pk[j]? =some k→os'[j]? =some o'→∃o,os[k]? =some o∧o'=⟨o.l,o.e,o.s,0,⟨true,o'.nw.lin⟩⟩∧wS o o'
 | [],[],_=>⟨rfl,fun j k o' h=>by simp at h⟩
 | k::pk,o'::os',h=>by
   obtain⟨h1,h2⟩:=tu h.2;refine⟨by simp[h1],fun j k' o'' g1 g2=> ?_⟩;cases j with
   |zero=>simp at g1 g2;subst g1 g2;exact h.1
   |succ j=>exact h2 j k' o'' (by simpa using g1) (by simpa using g2)
 | [],_::_,h=>h.elim
 |_::_,[],h=>h.elim
section
variable{B:Nat}{G:Org}{w0:World}{st:St}{E:Env}{a:Act}{w:World}{pk:List Nat}{os':List Own}
def tq(E:Env)(pk:List Nat):List (Value×List Nat):=pk.map fun k=>E.om.getD k (undef,[])
theorem yD{j k:Nat}(h:pk[j]? =some k):(tq E pk)[j]? =some (E.om.getD k (undef,[])):=by simp[tq,h]
theorem yC(h:Rel B [] G w0 st E a w)(ho:pz st.owns pk os'){b:Nat}(hb:b∈(tq E pk).flatMap fun q=>q.1.ownBlock.toList):∃k∈pk,∃p,E.om[k]? =some p∧p.1.ownBlock=some b:=by
 obtain⟨q,hq,hqb⟩:=l_.1 hb;obtain⟨k,hk,rfl⟩:=g_.1 hq;obtain⟨j,hj⟩:=List.mem_iff_getElem?.1 hk;obtain⟨h1,h2⟩:=tu ho;have hj':j<os'.length:=by rw[← h1];exact(b_.1 hj).1
 obtain⟨o,g1,_⟩:=h2 j k _ hj (a_ hj');have hke:k<E.om.length:=by rw[h.olen];exact(b_.1 g1).1
 exact⟨k,hk,E.om[k],a_ hke,by rw[c_,a_ hke]at hqb;simpa using hqb⟩
theorem zy(h:Rel B [] G w0 st E a w){i j:Nat}{p q:Value×List Nat}{b:Nat}(hi:E.om[i]? =some p)(hj:E.om[j]? =some q)(hp:p.1.ownBlock=some b)(hq:q.1.ownBlock=some b):i=j:=by
 have hn:=h.nodup;unfold Env.M at hn;rw[x_]at hn;have : ∀(L:List (Value×List Nat)) (i j:Nat) (p q:Value×List Nat),(L.flatMap (fun p=>p.1.ownBlock.toList)).Nodup→L[i]? =some p→L[j]? =some q→p.1.ownBlock=some b→q.1.ownBlock=some b→i=j:=by
  intro L
  induction L with
  |nil=>intro i j p q _ hi;simp at hi
  | cons z L ih=>
    intro i j p q hn hi hj hpb hqb;rw[a_c,x_]at hn;cases i with
    | zero=>
      cases j with
      |zero=>rfl
      | succ j=>
        simp at hi hj;subst hi;exact absurd rfl (hn.2.2 b (by simp[hpb]) b (l_.2 ⟨q,t_ hj,by simp[hqb]⟩))
    | succ i=>
      cases j with
      | zero=>
        simp at hi hj;subst hj;exact absurd rfl (hn.2.2 b (by simp[hqb]) b (l_.2 ⟨p,t_ hi,by simp[hpb]⟩))
      | succ j=>
        simp at hi hj;rw[ih i j p q hn.2.1 hi hj hpb hqb]
 exact this E.om i j p q hn.2.1 hi hj hp hq
theorem Ky(h:Rel B [] G w0 st E a w)(ho:pz st.owns pk os')(hnd:pk.Nodup):nY B w (tq E pk) os':=by
 obtain⟨h1,h2⟩:=tu ho;refine⟨by simp[tq,h1],fun j o' p g1 g2=> ?_, ?_⟩
 ·have hj:j<pk.length:=by rw[h1];exact(b_.1 g1).1
  have hk:=a_ hj;obtain⟨o,g3,g4e,g4o⟩:=h2 j _ o' hk g1;have g4:=g4o.weak;rw[g4e];have hke:pk[j]<E.om.length:=by rw[h.olen];exact(b_.1 g3).1
  rw[yD hk,c_,a_ hke]at g2;simp only[m_,w_]at g2;subst g2;obtain⟨cs,h5,h6,h7,h8⟩:=h.own _ o _ g3 (a_ hke);refine⟨cs,lF h5 h.eb,h6,h7,fun b hb=>⟨?_,fun hm=> ?_⟩⟩
  ·rcases g4 with g4|g4
   ·simpa using yH h ((h8 b hb).2 g4)
   ·rw[g4 _ _ _ h6]at hb;simp at hb
  ·obtain⟨k,_,p,g5,g6⟩:=yC h ho hm;exact(h8 b hb).1 (iE.2 (p_ ⟨k,p,g5,g6⟩))
 ·have hpk:∀(j:Nat) (o':Own) (p:Value×List Nat),os'[j]? =some o'→(tq E pk)[j]? =some p→o'.nw.lin=true→p.2= []∨∃o,st.owns[pk.getD j 0]? =some o∧E.om[pk.getD j 0]? =some p∧o.nw.lin=true:=by
   intro j o' p g1 g2 g3;have hj:j<pk.length:=by rw[h1];exact(b_.1 g1).1
   have hk:=a_ hj;obtain⟨o,q1,q2,q3⟩:=h2 j _ o' hk g1;have hke:pk[j]<E.om.length:=by rw[h.olen];exact(b_.1 q1).1
   rw[yD hk,c_,a_ hke]at g2;simp only[m_,w_]at g2;subst g2;rcases q3.lin g3 with e|e
   ·refine p_ ⟨o, ?_, ?_,e⟩
    ·rw[c_,hk];exact q1
    ·rw[c_,hk];exact a_ hke
   ·obtain⟨cs,_,h6,_⟩:=h.own _ o _ q1 (a_ hke);exact v_ (e _ _ _ h6)
  refine⟨?_, ?_, ?_⟩
  rotate_left
  ·refine h.lin.map (fun j=>pk.getD j 0) (fun i j hij hi hj e=>hij ?_) hpk;have hi':i<pk.length:=by omega
   have hj':j<pk.length:=by omega
   simp only[c_,a_ hi',a_ hj',m_]at e;exact(List.getElem_inj hnd).1 e
  ·exact h.unf.map (fun j=>pk.getD j 0) hpk
  have :∀(pk:List Nat) (os':List Own),pz st.owns pk os'→pk.Nodup→((tq E pk).flatMap fun q=>q.1.ownBlock.toList).Nodup:=by
   intro pk
   induction pk with
   |nil=>intro os' _ _;exact O_
   | cons k pk ih=>
     intro os' ho hnd
     match os',ho with
     | o'::os',ho=>
       rw[List.nodup_cons]at hnd;obtain⟨o,g1,_⟩:=ho.1;have hke:k<E.om.length:=by rw[h.olen];exact(b_.1 g1).1
       show(a_r _ (E.om.getD k (undef,[])::tq E pk)).Nodup;rw[a_c,x_];refine⟨by cases(E.om.getD k (undef,[])).1.ownBlock<;>simp,ih os' ho.2 hnd.2,fun x hx y hy e=> ?_⟩;subst e;obtain⟨k',hk',p,g5,g6⟩:=yC h ho.2 hy;rw[c_,a_ hke]at hx;exact hnd.1 (zy h (a_ hke) g5 (by simpa using hx) g6▸hk')
  exact this pk os' ho hnd
theorem Hr(h:Rel B [] G w0 st E a w)(ho:pz st.owns pk os'){x y:AC}{v:Value}(hf:pG st.owns pk x y)(hx:x.ok E st.owns w v):y.ok ⟨B,tq E pk,[],[]⟩ os' w v:=by
 have hnew:∀b,(B≤b)→(∀k∈pk,∀p,E.om[k]? =some p→p.1.ownBlock≠some b)→b∉(⟨B,tq E pk,[],[]⟩:Env).M∧(true=true→(⟨B,tq E pk,[],[]⟩:Env).nw b):=fun b hB hk=>⟨fun hm=>by
  simp only[Env.M,W_,L_]at hm;obtain⟨k,hk1,p,g1,g2⟩:=yC h ho hm;exact hk k hk1 p g1 g2,fun _=>v_ hB⟩
 cases y with
 |any=>trivial
 | raw u=>cases x with
   |raw v'=>obtain rfl:=hf;exact hx
   |_=>exact hf.elim
 | sl n l=>cases x with
   | sl n' l'=>
     obtain⟨rfl,rfl,rfl⟩:=hf;obtain⟨fp,h1,h2⟩:=hx;exact⟨fp,h1,fun b hb=>hnew b (by simpa using yH h ((h2 b hb).2 rfl)) (fun k _ p g1 g2=>(h2 b hb).1 (iE.2 (p_ ⟨k,p,g1,g2⟩)))⟩
   | own k i=>
     obtain⟨rfl,hk,o,h1,h2,rfl,h3⟩:=hf;obtain⟨_,o',p,g1,g2,g3,g4⟩:=hx;rw[h1]at g1;injection g1 with g1
     subst g1;obtain rfl:=g4 h2;obtain⟨cs,h5,h6,h7,h8⟩:=h.own k o p h1 g2;refine⟨_,Sl.lT h5 h6,fun b hb=> ?_⟩;rcases o_.1 hb with hb|hb
     ·have hb':p.1.ownBlock=some b:=by simpa using hb
      exact hnew b (n_ h.eb (aK.lt h5 b hb').1) (fun k' hk' p' g5 g6=>hk (zy h g2 g5 hb' g6▸hk'))
     ·refine hnew b ?_ (fun k' _ p' g5 g6=>(h8 b hb).1 (iE.2 (p_ ⟨k',p',g5,g6⟩)));rcases h3 with h3|h3
      ·simpa using yH h ((h8 b hb).2 h3)
      ·rw[h3 _ _ _ h6]at hb;simp at hb
   |raw v'=>exact hf.elim
   |any=>exact hf.elim
   |osub _ _ _ _=>exact hf.elim
   |cl _ _=>exact hf.elim
 |osub _ _ _ _=>cases x<;>exact hf.elim
 | own j z=>cases x with
   | own k i=>
     obtain⟨hj,rfl,o,h1,h2⟩:=hf;obtain⟨hv,o',p,g1,g2,g3,g4⟩:=hx;rw[h1]at g1;injection g1 with g1
     subst g1;obtain⟨l1,l2⟩:=tu ho;have hj':j<os'.length:=by rw[← l1];exact(b_.1 hj).1
     obtain⟨o2,q1,q2,_⟩:=l2 j k _ hj (a_ hj');refine⟨hv,os'[j],p,a_ hj', ?_,z_ _,fun _=>g4 h2⟩;rw[yD hj,c_,g2];rfl
   |_=>exact hf.elim
 |cl f caps=>cases x<;>exact hf.elim
theorem nO(h:Rel B [] G w0 st E a w)(ho:pz st.owns pk os'):∀{xs ys:List AC} {vs:List Value},jP st.owns pk xs ys→Oks E st.owns w xs vs→Oks ⟨B,tq E pk,[],[]⟩ os' w ys vs
 | [],[],[],_,_=>trivial
 |x::xs,y::ys,v::vs,hf,hx=>⟨Hr h ho hf.1 hx.1,nO h ho hf.2 hx.2⟩
 | [],[],_::_,_,hx=>hx.elim
 |_::_,_::_,[],_,hx=>hx.elim
 | [],_::_,_,hf,_=>hf.elim
 |_::_,[],_,hf,_=>hf.elim
theorem OW{P:Program}(h:Rel B [] G w0 st E a w)(ho:pz st.owns pk os'){r:ResultVar}{g:Bool}{ys:List AC}(hp:qM P r g ys.length=true)(hf:RD pk r g ys st):
 ∃v,(mJ r a.tmps).run P w= .ok v w∧Gok ⟨B,tq E pk,[],[]⟩ os' w g ys v:=by
 cases r with
 | tmp t=>
   obtain⟨xs,h1,h2⟩:=hf;refine⟨_,rfl, ?_⟩;have hx:=sQ h h1;cases g with
   |true=>obtain⟨vs,h3,h4⟩:=hx;exact⟨vs,h3,nO h ho h2 h4⟩
   |false=>exact nO h ho h2 (show Oks _ _ _ xs [_] from hx)
 | cell t ty=>
   obtain⟨k,xs,h1,h2,h3⟩:=hf;simp only[qM,d_,sN]at hp;obtain⟨rfl,hp⟩:=hp;split at hp
   ·next i d hi hd=>
    simp only[d_,beq_iff_eq]at hp;obtain⟨p,g1,g2⟩:=sQ h h1;obtain⟨_,vs,h4,h5⟩:=h.box k xs p h2 g1;have hlen:vs.length=i.size:=by rw[← h5.len,uF h3,hp.1]
    refine⟨.agg vs.toArray, ?_,vs,rfl,nO h ho h3 h5⟩;simp only[mJ];rw[g2];have:=run_loadVar_row (P:=P) w p.1 p.2 ty vs.toArray (0,0) d h4 hd (by have:=hp.2;cases d<;>simp_all [kU]) (by rw[hi];simp[hlen]);simp[asAddr,this]
   ·cases hp
end
theorem lJ{r:ResultVar}{g:Bool}{ys:List AC}{os':List Own}(hf:P.funcs[f]? =some fn:=by kernel_rfl)(hb:fn.body=some code:=by kernel_rfl)(hr:fn.results= #[r]:=by kernel_rfl)(hp:qM P r g ys.length=true:=by kernel_rfl)(hc:au P code=some ic)
 (h:AWP P ic (LQ (fun st=>∃pk:List Nat,pk.Nodup∧pz st.owns pk os'∧RD pk r g ys st)) (st0 fn.ntmps ds)):cZ P f ds (.c g ys) os':=by
 refine vP (post:=fun w e w'=>DI (.c g ys) os' w e w') hf hb hc h ?_;rintro G w w' st E a hR ⟨pk,hnd,ho,h1⟩;obtain⟨v,h3,h4⟩:=OW hR ho hp h1;exact⟨_,wC hr _ h3,_,tq E pk,rfl,Ky hR ho hnd,h4,hR.below.out⟩
end
section
variable{lo:Nat×Nat}{P:Program}{y:IC}{Q:Exit→St→Prop}{st:St}{i j:Nat}{c:Opd}
theorem nM(h:iV lo P y Q st):DR lo P y Q .normal st:=h
theorem fG(h:Q (.exit i) st):DR lo P y Q (.exit i) st:=h
theorem iK(h:Q .ret st):DR lo P y Q .ret st:=h
theorem bW(h:Q .normal st):wo i Q .normal st:=h
theorem fM(h:Q .ret st):wo i Q .ret st:=h
theorem dW(h:Q .normal st):wo i Q (.exit i) st:=by
 show ite _ _ _;rw[if_pos rfl];exact h
theorem dV(hij:(j==i)=false)(h:Q (.exit j) st):wo i Q (.exit j) st:=by
 show ite _ _ _;rw[if_neg (by simpa using hij)];exact h
theorem dU{X:Type}{F:X→St}{inv:X→Prop}{μ:X→Nat}{x:X}(h:Q (.exit i) st):vZ F inv μ x Q (.exit i) st:=h
theorem fH{X:Type}{F:X→St}{inv:X→Prop}{μ:X→Nat}{x:X}(h:Q .ret st):vZ F inv μ x Q .ret st:=h
theorem dJ{Fin:St→Prop}(h:Fin st):LQ Fin .ret st:=h
theorem dX{x:IC}(hb:st.ev c= .c false [.raw (.bool true)])(h:iV lo P x Q st):iV lo P (.cond c x y) Q st:=zB hb (fun _=>h) (fun e=>by cases e)
theorem dZ{x:IC}(hb:st.ev c= .c false [.raw (.bool false)])(h:iV lo P y Q st):iV lo P (.cond c x y) Q st:=zB hb (fun e=>by cases e) (fun _=>h)
end
theorem NR{x0:Opd}:I.plain (.mov x0)=true:=by simp only[I.plain]
theorem IW{x0:Opd}{x1:Opd}{x2:Opd}:I.plain (.pick x0 x1 x2)=true:=by simp only[I.plain]
theorem N9{x0:BinOp}{x1:Opd}{x2:Opd}:I.plain (.bin x0 x1 x2)=true:=by simp only[I.plain]
theorem Oa{x0:Bool}{x1:Opd}{x2:Opd}:I.plain (.beq x0 x1 x2)=true:=by simp only[I.plain]
theorem NP{x0:Opd}:I.plain (.not x0)=true:=by simp only[I.plain]
theorem IX{x0:Nat}{x1:Bool}{x2:Opd}:I.plain (.load x0 x1 x2)=true:=by simp only[I.plain]
theorem NV{x0:Nat}{x1:Opd}:I.plain (.fad x0 x1)=true:=by simp only[I.plain]
theorem NQ{x0:Opd}:I.plain (.nck x0)=true:=by simp only[I.plain]
theorem Ej{x0:List Value}:I.plain (.alloc x0)=true:=by simp only[I.plain]
theorem N7{x0:Opd}:I.plain (.box x0)=true:=by simp only[I.plain]
theorem Ei{x0:Nat}{x1:Opd}{x2:Opd}:I.plain (.store x0 x1 x2)=true:=by simp only[I.plain]
theorem IZ{x0:Bool}{x1:Nat}{x2:Nat}{x3:Nat}{x4:Bool}{x5:List Opd}:I.plain (.brow x0 x1 x2 x3 x4 x5)=true:=by simp only[I.plain]
theorem N8{x0:List Value}{x1:List (Nat×Nat×Opd)}:I.plain (.bld x0 x1)=true:=by simp only[I.plain]
theorem NU{x0:Nat}{x1:Nat}{x2:Bool}{x3:Opd}:I.plain (.fld x0 x1 x2 x3)=true:=by simp only[I.plain]
theorem IV{x0:Opd}{x1:Opd}:I.plain (.sidx x0 x1)=true:=by simp only[I.plain]
theorem NM{x0:Opd}{x1:Option Opd}{x2:Option Opd}:I.plain (.ssl x0 x1 x2)=true:=by simp only[I.plain]
theorem NW{x0:Nat}{x1:Opd}:I.plain (.ext x0 x1)=true:=by simp only[I.plain]
theorem NT{x0:Bool}{x1:Opd}:I.plain (.len x0 x1)=true:=by simp only[I.plain]
theorem Nl{x0:Opd}:I.plainW (.mov x0)=true:=by simp only[I.plainW]
theorem IG{x0:Opd}{x1:Opd}{x2:Opd}:I.plainW (.pick x0 x1 x2)=true:=by simp only[I.plainW]
theorem NH{x0:BinOp}{x1:Opd}{x2:Opd}:I.plainW (.bin x0 x1 x2)=true:=by simp only[I.plainW]
theorem NI{x0:Bool}{x1:Opd}{x2:Opd}:I.plainW (.beq x0 x1 x2)=true:=by simp only[I.plainW]
theorem Nj{x0:Opd}:I.plainW (.not x0)=true:=by simp only[I.plainW]
theorem II{x0:Nat}{x1:Bool}{x2:Opd}:I.plainW (.load x0 x1 x2)=true:=by simp only[I.plainW]
theorem Ns{x0:Nat}{x1:Opd}:I.plainW (.fad x0 x1)=true:=by simp only[I.plainW]
theorem Nk{x0:Opd}:I.plainW (.nck x0)=true:=by simp only[I.plainW]
theorem Ee{x0:List Value}:I.plainW (.alloc x0)=true:=by simp only[I.plainW]
theorem ND{x0:Opd}:I.plainW (.box x0)=true:=by simp only[I.plainW]
theorem NG{x0:List Value}{x1:List (Nat×Nat×Opd)}:I.plainW (.bld x0 x1)=true:=by simp only[I.plainW]
theorem Nr{x0:Nat}{x1:Nat}{x2:Bool}{x3:Opd}:I.plainW (.fld x0 x1 x2 x3)=true:=by simp only[I.plainW]
theorem IE{x0:Opd}{x1:Opd}:I.plainW (.sidx x0 x1)=true:=by simp only[I.plainW]
theorem Nh{x0:Opd}{x1:Option Opd}{x2:Option Opd}:I.plainW (.ssl x0 x1 x2)=true:=by simp only[I.plainW]
theorem Nu{x0:Nat}{x1:Opd}:I.plainW (.ext x0 x1)=true:=by simp only[I.plainW]
theorem Nq{x0:Bool}{x1:Opd}:I.plainW (.len x0 x1)=true:=by simp only[I.plainW]
theorem NS{f:Nat}{xs:List Opd}:I.plain (.mkf f xs)=true:=by simp only[I.plain]
theorem IY{b:Bool}{x:Opd}:I.plain (.fnil b x)=true:=by simp only[I.plain]
theorem IU{b:Bool}{x:Opd}:I.plain (.snil b x)=true:=by simp only[I.plain]
theorem I4{b:Bool}{k:List Value}{x y:Opd}:I.plain (.beqS b k x y)=true:=by simp only[I.plain]
theorem IK{b:Bool}{k:List Value}{x y:Opd}:I.plainW (.beqS b k x y)=true:=by simp only[I.plainW]
theorem Jz{b:Bool}{k:List Value}{x y:Opd}:eff (.beqS b k x y)=false:=by simp[eff,I.cls]
theorem NZ{k:IntKind}{x:Opd}:I.plain (.cvi k x)=true:=by simp only[I.plain]
theorem NY{x:Opd}:I.plain (.cvs x)=true:=by simp only[I.plain]
theorem I5{e:Nat}{x y:Opd}:I.plain (.apps e x y)=true:=by simp only[I.plain]
theorem Nz{k:IntKind}{x:Opd}:I.plainW (.cvi k x)=true:=by simp only[I.plainW]
theorem Ny{x:Opd}:I.plainW (.cvs x)=true:=by simp only[I.plainW]
theorem IL{e:Nat}{x y:Opd}:I.plainW (.apps e x y)=true:=by simp only[I.plainW]
theorem Ph{k:IntKind}{x:Opd}:eff (.cvi k x)=false:=by simp[eff,I.cls]
theorem Pg{x:Opd}:eff (.cvs x)=false:=by simp[eff,I.cls]
theorem JA{e:Nat}{x y:Opd}:eff (.apps e x y)=true:=by simp[eff,I.cls]
theorem Q8{e:Nat}{z:Value}{x:Opd}:I.plain (.mk e z x)=true:=by simp only[I.plain]
theorem Np{f:Nat}{xs:List Opd}:I.plainW (.mkf f xs)=true:=by simp only[I.plainW]
theorem IJ{b:Bool}{x:Opd}:I.plainW (.fnil b x)=true:=by simp only[I.plainW]
theorem IB{b:Bool}{x:Opd}:I.plainW (.snil b x)=true:=by simp only[I.plainW]
theorem Q7{e:Nat}{z:Value}{x:Opd}:I.plainW (.mk e z x)=true:=by simp only[I.plainW]
theorem O6{f:Nat}{xs:List Opd}:eff (.mkf f xs)=false:=by simp[eff,I.cls]
theorem Jv{b:Bool}{x:Opd}:eff (.fnil b x)=false:=by simp[eff,I.cls]
theorem Jr{b:Bool}{x:Opd}:eff (.snil b x)=false:=by simp[eff,I.cls]
theorem Rn{e:Nat}{z:Value}{x:Opd}:eff (.mk e z x)=true:=by simp[eff,I.cls]
theorem O5{x0:Opd}:eff (.mov x0)=false:=by simp[eff,I.cls]
theorem Jt{x0:Opd}{x1:Opd}{x2:Opd}:eff (.pick x0 x1 x2)=false:=by simp[eff,I.cls]
theorem Pn{x0:BinOp}{x1:Opd}{x2:Opd}:eff (.bin x0 x1 x2)=false:=by simp[eff,I.cls]
theorem Po{x0:Bool}{x1:Opd}{x2:Opd}:eff (.beq x0 x1 x2)=false:=by simp[eff,I.cls]
theorem O1{x0:Opd}:eff (.not x0)=false:=by simp[eff,I.cls]
theorem Ju{x0:Nat}{x1:Bool}{x2:Opd}:eff (.load x0 x1 x2)=false:=by simp[eff,I.cls]
theorem O9{x0:Nat}{x1:Opd}:eff (.fad x0 x1)=false:=by simp[eff,I.cls]
theorem O4{x0:Opd}:eff (.nck x0)=false:=by simp[eff,I.cls]
theorem Fg{x0:List Value}:eff (.alloc x0)=true:=by simp[eff,I.cls]
theorem Pj{x0:Opd}:eff (.box x0)=true:=by simp[eff,I.cls]
theorem Fe{x0:Nat}{x1:Opd}{x2:Opd}:eff (.store x0 x1 x2)=true:=by simp[eff,I.cls]
theorem Pm{x0:List Value}{x1:List (Nat×Nat×Opd)}:eff (.bld x0 x1)=false:=by simp[eff,I.cls]
theorem O8{x0:Nat}{x1:Nat}{x2:Bool}{x3:Opd}:eff (.fld x0 x1 x2 x3)=false:=by simp[eff,I.cls]
theorem Js{x0:Opd}{x1:Opd}:eff (.sidx x0 x1)=false:=by simp[eff,I.cls]
theorem OZ{x0:Opd}{x1:Option Opd}{x2:Option Opd}:eff (.ssl x0 x1 x2)=false:=by simp[eff,I.cls]
theorem Pe{x0:Nat}{x1:Opd}:eff (.ext x0 x1)=false:=by simp[eff,I.cls]
theorem O7{x0:Bool}{x1:Opd}:eff (.len x0 x1)=false:=by simp[eff,I.cls]
theorem Jw{e s n:Nat}{g:Bool}{xs:List Opd}:eff (.brow false e s n g xs)=false:=by simp[eff,I.cls]
theorem Jy{e s n:Nat}{g:Bool}{xs:List Opd}:eff (.brow true e s n g xs)=true:=by simp[eff,I.cls]
theorem pW{st:St}:mo true st= []:=by simp[mo]
theorem pX{st:St}:mo false st=st.owns:=by simp[mo]
inductive Sp where
 |k
 |d
 |v (x:AV)
def gG :List Sp→List AV→List AV
 | .k::ss,x::xs=>x::gG ss xs
 | .d::ss,_::xs=> .any::gG ss xs
 | .v y::ss,_::xs=>y::gG ss xs
 | [],_::xs=> .any::gG [] xs
 |_,[]=> []
def FB{X:Type}(fr0:List AV)(bs0:List (List AC))(sp:X→List Sp)(ow:X→List Own)(bx:X→List (List AC)→List (List AC))(x:X):St:=⟨gG (sp x) fr0,ow x,bx x bs0⟩
theorem jE{P:Program}{Q:Exit→St→Prop}{X:Type}{c:IC}{fr0:List AV}{os0:List Own}{bs0:List (List AC)}(sp:X→List Sp)(ow:X→List Own)(bx:X→List (List AC)→List (List AC))(inv:X→Prop)(μ:X→Nat)(x0:X)(h0:inv x0)
 (hle:gK ⟨fr0,os0,bs0⟩ (FB fr0 bs0 sp ow bx x0)) (round:∀x,inv x→AWP P c (vZ (FB fr0 bs0 sp ow bx) inv μ x Q) (FB fr0 bs0 sp ow bx x)):AWP P (.loop c) Q ⟨fr0,os0,bs0⟩:=
 PN (FB fr0 bs0 sp ow bx) inv μ x0 h0 (Ih hle) round
theorem kE{Q:Exit→St→Prop}{st:St}{X:Type}{F:X→St}{inv:X→Prop}{μ:X→Nat}{x:X}(x':X)(h1:gK st (F x'))(h2:inv x')(h3:μ x'<μ x):vZ F inv μ x Q .normal st:=⟨x',Ih h1,h2,h3⟩
theorem vH(b:Bool)(n:Int):(li n).acs b= [.raw (.int .i64 n)]:=rfl
theorem vG(b:Bool)(s:ByteArray):(ls s).acs b= [.raw (.string s)]:=rfl
theorem tJ(b:Bool)(v:Value):(D.leaf v).acs b= [.raw v]:=rfl
theorem Cj(b:Bool)(l:List D):(D.sl l).acs b= [.sl b l]:=rfl
theorem fK(l:List Int):El 1 (l.map li):=fun d h=>by obtain⟨x,_,rfl⟩:=g_.1 h;exact⟨rfl,rfl⟩
theorem gq(l:List ByteArray):El 1 (l.map ls):=fun d h=>by obtain⟨x,_,rfl⟩:=g_.1 h;exact⟨rfl,rfl⟩
theorem OY(s:Nat):El s []:=fun d h=>by simp at h
theorem Jp{s:Nat}{d:D}{l:List D}:El s (d::l)=((d.one∧d.sz=s)∧El s l):=by
 apply propext;constructor
 ·intro h;exact⟨h d (by simp),fun x hx=>h x (by simp[hx])⟩
 ·rintro⟨h1,h2⟩ x hx;rcases List.mem_cons.1 hx with rfl|hx
  ·exact h1
  ·exact h2 x hx
theorem kV{α:Type}{g:α→D}(hg:∀(x:α) (w:World) (f:List Nat) (cs:List Value),R w (g x) f cs→f= []):∀(l:List α),kR (l.map g)
 | [],w,f,cs,h=>h.1
 | x::l,w,f,cs,h=>by
   rw[Q_,Rs]at h;obtain⟨f1,f2,c1,c2,rfl,rfl,h1,h2⟩:=h;rw[hg x w f1 c1 h1,kV hg l w f2 c2 h2];rfl
theorem KZ(l:List Int):kR (l.map li):=kV (g:=li) (fun x w f cs h=>(show f= []∧_ from h).1) l
theorem mQ(l:List ByteArray):kR (l.map ls):=kV (g:=ls) (fun x w f cs h=>(show f= []∧_ from h).1) l
theorem Jg(l:List D)(k:Nat):idx l (some (k:Int))=l[k]? :=by simp[idx]
theorem Jh{α:Type}(f:α→D)(l:List α){k:Nat}(h:k<l.length):idx (l.map f) (some (k:Int))=some (f l[k]):=by
 rw[Jg,y_,a_ h];rfl
theorem DT{n:Nat}(h:n≤9223372036854775806):IntKind.i64.wrap ((n:Int)+1)=((n+1:Nat):Int):=by
 rw[IntWalk.i64_in _ (by omega)];rfl
theorem xY.tos{l:List D}{e s:Nat}{w:World}{en:Ending}{w':World}(h:xY false l e s w en w')(hf:kR l):jG l w en w':=by
 obtain⟨v,cs,f,rfl,h1,h2,h3,h4⟩:=h;have:=hf _ _ _ h2;subst this;exact⟨_,v,rfl,Sl.lT h1 h2,aN.lT h1 aN.nil (fun g hg=>by simp),h4⟩
theorem Ad.to{P:Program}{f:Nat}{ds l:List D}{e s:Nat}(h:Ad P f ds l e s)(hf:kR l):aF P f ds (.c false [.sl true l]):=by
 intro w vs hr ht;refine(h w vs hr ht).mono ?_;rintro en w' ⟨v,cs,f',rfl,h1,h2,h3,h4⟩;have:=hf _ _ _ h2;subst this;refine⟨v,rfl,⟨⟨_,Sl.lT h1 h2,fun b hb=> ?_⟩,trivial⟩,h4⟩;rw[List.append_nil]at hb;have:=(aK.lt h1 b (by simpa using hb)).1;exact⟨kH.2 this,fun _=>v_ this⟩
theorem GOrigin.aC(x:GOrigin):x.toD.flat= [.leaf (.int .i64 x.cell),.leaf (.int .i64 x.row)]:=by
 simp[GOrigin.aj,D.flat,D.iG,li,ls]
theorem GOrigin.aQ(x:GOrigin)(b:Bool):x.toD.acs b= [.raw (.int .i64 x.cell),.raw (.int .i64 x.row)]:=by
 simp[D.acs,GOrigin.aC,D.ac]
theorem GOrigin.bg(x:GOrigin):x.toD.isAgg=true:=by rw[GOrigin.aj];rfl
theorem GOrigin.fQ(x:GOrigin):x.toD.one:=by
 simp[GOrigin.aj,D.one,D.ones,li,ls,k_]
theorem GOrigin.el(l:List GOrigin):El 2 (l.map GOrigin.toD):=fun d h=>by obtain⟨x,_,rfl⟩:=g_.1 h;exact⟨x.fQ,x.sz_eq⟩
theorem GOrigin.Jk(l:List GOrigin):kR (l.map GOrigin.toD):=kV (fun x w f cs h=>(GOrigin.opened.1 h).1) l
theorem GRow.aC(x:GRow):x.toD.flat= [.sl (x.cells.map li),.sl (x.src.map GOrigin.toD)]:=by
 simp[GRow.aj,D.flat,D.iG,li,ls]
theorem GRow.aQ(x:GRow)(b:Bool):x.toD.acs b= [.sl b (x.cells.map li),.sl b (x.src.map GOrigin.toD)]:=by
 simp[D.acs,GRow.aC,D.ac]
theorem GRow.bg(x:GRow):x.toD.isAgg=true:=by rw[GRow.aj];rfl
theorem GRow.fQ(x:GRow):x.toD.one:=by
 simp[GRow.aj,D.one,D.ones,li,ls,k_]
theorem GRow.el(l:List GRow):El 2 (l.map GRow.toD):=fun d h=>by obtain⟨x,_,rfl⟩:=g_.1 h;exact⟨x.fQ,x.sz_eq⟩
theorem GVal.aC(x:GVal):x.toD.flat= [.leaf (.int .i64 x.kind),.leaf (.int .i64 x.n),.leaf (.int .i64 x.step),.leaf (.string x.text),.sl (x.list.map GVal.toD),.sl (x.cols.map ls),.sl (x.rows.map GRow.toD)]:=by
 simp[GVal.aj,D.flat,D.iG,li,ls]
theorem GVal.aQ(x:GVal)(b:Bool):x.toD.acs b= [.raw (.int .i64 x.kind),.raw (.int .i64 x.n),.raw (.int .i64 x.step),.raw (.string x.text),.sl b (x.list.map GVal.toD),.sl b (x.cols.map ls),.sl b (x.rows.map GRow.toD)]:=by
 simp[D.acs,GVal.aC,D.ac]
theorem GVal.bg(x:GVal):x.toD.isAgg=true:=by rw[GVal.aj];rfl
theorem GVal.fQ(x:GVal):x.toD.one:=by
 simp[GVal.aj,D.one,D.ones,li,ls,k_]
theorem GVal.el(l:List GVal):El 7 (l.map GVal.toD):=fun d h=>by obtain⟨x,_,rfl⟩:=g_.1 h;exact⟨x.fQ,x.sz_eq⟩
theorem GTok.aC(x:GTok):x.toD.flat= [.leaf (.int .i64 x.kind),.leaf (.int .i64 x.n),.leaf (.int .i64 x.pos),.leaf (.string x.text)]:=by
 simp[GTok.aj,D.flat,D.iG,li,ls]
theorem GTok.aQ(x:GTok)(b:Bool):x.toD.acs b= [.raw (.int .i64 x.kind),.raw (.int .i64 x.n),.raw (.int .i64 x.pos),.raw (.string x.text)]:=by
 simp[D.acs,GTok.aC,D.ac]
theorem GTok.bg(x:GTok):x.toD.isAgg=true:=by rw[GTok.aj];rfl
theorem GTok.fQ(x:GTok):x.toD.one:=by
 simp[GTok.aj,D.one,D.ones,li,ls,k_]
theorem GTok.el(l:List GTok):El 4 (l.map GTok.toD):=fun d h=>by obtain⟨x,_,rfl⟩:=g_.1 h;exact⟨x.fQ,x.sz_eq⟩
theorem GTok.Jk(l:List GTok):kR (l.map GTok.toD):=kV (fun x w f cs h=>(GTok.opened.1 h).1) l
theorem GExpr.aC(x:GExpr):x.toD.flat= [.leaf (.int .i64 x.kind),.leaf (.int .i64 x.n),.leaf (.string x.text),.sl (x.args.map GExpr.toD)]:=by
 simp[GExpr.aj,D.flat,D.iG,li,ls]
theorem GExpr.aQ(x:GExpr)(b:Bool):x.toD.acs b= [.raw (.int .i64 x.kind),.raw (.int .i64 x.n),.raw (.string x.text),.sl b (x.args.map GExpr.toD)]:=by
 simp[D.acs,GExpr.aC,D.ac]
theorem GExpr.bg(x:GExpr):x.toD.isAgg=true:=by rw[GExpr.aj];rfl
theorem GExpr.fQ(x:GExpr):x.toD.one:=by
 simp[GExpr.aj,D.one,D.ones,li,ls,k_]
theorem GExpr.el(l:List GExpr):El 4 (l.map GExpr.toD):=fun d h=>by obtain⟨x,_,rfl⟩:=g_.1 h;exact⟨x.fQ,x.sz_eq⟩
theorem GCell.aC(x:GCell):x.toD.flat= [.leaf (.int .i64 x.id),.leaf (.int .i64 x.ver),.leaf (.int .i64 x.kind),.leaf (.string x.name),.leaf (.string x.code),.leaf (.int .i64 x.n)]:=by
 simp[GCell.aj,D.flat,D.iG,li,ls]
theorem GCell.aQ(x:GCell)(b:Bool):x.toD.acs b= [.raw (.int .i64 x.id),.raw (.int .i64 x.ver),.raw (.int .i64 x.kind),.raw (.string x.name),.raw (.string x.code),.raw (.int .i64 x.n)]:=by
 simp[D.acs,GCell.aC,D.ac]
theorem GCell.bg(x:GCell):x.toD.isAgg=true:=by rw[GCell.aj];rfl
theorem GCell.fQ(x:GCell):x.toD.one:=by
 simp[GCell.aj,D.one,D.ones,li,ls,k_]
theorem GCell.el(l:List GCell):El 6 (l.map GCell.toD):=fun d h=>by obtain⟨x,_,rfl⟩:=g_.1 h;exact⟨x.fQ,x.sz_eq⟩
theorem GCell.Jk(l:List GCell):kR (l.map GCell.toD):=kV (fun x w f cs h=>(GCell.opened.1 h).1) l
theorem GNb.aC(x:GNb):x.toD.flat= [.sl (x.cells.map GCell.toD)]:=by
 simp[GNb.aj,D.flat,D.iG,li,ls]
theorem GNb.aQ(x:GNb)(b:Bool):x.toD.acs b= [.sl b (x.cells.map GCell.toD)]:=by
 simp[D.acs,GNb.aC,D.ac]
theorem GNb.bg(x:GNb):x.toD.isAgg=true:=by rw[GNb.aj];rfl
theorem GNb.fQ(x:GNb):x.toD.one:=by
 simp[GNb.aj,D.one,D.ones,li,ls,k_]
theorem GNb.el(l:List GNb):El 1 (l.map GNb.toD):=fun d h=>by obtain⟨x,_,rfl⟩:=g_.1 h;exact⟨x.fQ,x.sz_eq⟩
theorem GPart.aC(x:GPart):x.toD.flat= [.leaf (.int .i64 x.kind),.leaf (.string x.name),.leaf (.int .i64 x.expr.kind),.leaf (.int .i64 x.expr.n),.leaf (.string x.expr.text),.sl (x.expr.args.map GExpr.toD),.leaf (.int .i64 x.value.kind),.leaf (.int .i64 x.value.n),.leaf (.int .i64 x.value.step),.leaf (.string x.value.text),.sl (x.value.list.map GVal.toD),.sl (x.value.cols.map ls),.sl (x.value.rows.map GRow.toD),.leaf (.int .i64 x.pos)]:=by
 simp[GPart.aj,GExpr.aj,GVal.aj,D.flat,D.iG,li,ls]
theorem GPart.aQ(x:GPart)(b:Bool):x.toD.acs b= [.raw (.int .i64 x.kind),.raw (.string x.name),.raw (.int .i64 x.expr.kind),.raw (.int .i64 x.expr.n),.raw (.string x.expr.text),.sl b (x.expr.args.map GExpr.toD),.raw (.int .i64 x.value.kind),.raw (.int .i64 x.value.n),.raw (.int .i64 x.value.step),.raw (.string x.value.text),.sl b (x.value.list.map GVal.toD),.sl b (x.value.cols.map ls),.sl b (x.value.rows.map GRow.toD),.raw (.int .i64 x.pos)]:=by
 simp[D.acs,GPart.aC,D.ac]
theorem GPart.bg(x:GPart):x.toD.isAgg=true:=by rw[GPart.aj];rfl
theorem GPart.fQ(x:GPart):x.toD.one:=by
 simp[GPart.aj,GExpr.aj,GVal.aj,D.one,D.ones,li,ls,k_]
theorem GPart.el(l:List GPart):El 14 (l.map GPart.toD):=fun d h=>by obtain⟨x,_,rfl⟩:=g_.1 h;exact⟨x.fQ,x.sz_eq⟩
theorem GEdit.aC(x:GEdit):x.toD.flat= [.leaf (.int .i64 x.kind),.leaf (.int .i64 x.pos),.leaf (.int .i64 x.cell.id),.leaf (.int .i64 x.cell.ver),.leaf (.int .i64 x.cell.kind),.leaf (.string x.cell.name),.leaf (.string x.cell.code),.leaf (.int .i64 x.cell.n)]:=by
 simp[GEdit.aj,GCell.aj,D.flat,D.iG,li,ls]
theorem GEdit.aQ(x:GEdit)(b:Bool):x.toD.acs b= [.raw (.int .i64 x.kind),.raw (.int .i64 x.pos),.raw (.int .i64 x.cell.id),.raw (.int .i64 x.cell.ver),.raw (.int .i64 x.cell.kind),.raw (.string x.cell.name),.raw (.string x.cell.code),.raw (.int .i64 x.cell.n)]:=by
 simp[D.acs,GEdit.aC,D.ac]
theorem GEdit.bg(x:GEdit):x.toD.isAgg=true:=by rw[GEdit.aj];rfl
theorem GEdit.fQ(x:GEdit):x.toD.one:=by
 simp[GEdit.aj,GCell.aj,D.one,D.ones,li,ls,k_]
theorem GEdit.el(l:List GEdit):El 8 (l.map GEdit.toD):=fun d h=>by obtain⟨x,_,rfl⟩:=g_.1 h;exact⟨x.fQ,x.sz_eq⟩
theorem GEdit.Jk(l:List GEdit):kR (l.map GEdit.toD):=kV (fun x w f cs h=>(GEdit.opened.1 h).1) l
theorem GRead.aC(x:GRead):x.toD.flat= [.leaf (.int .i64 x.kind),.leaf (.int .i64 x.n),.leaf (.int .i64 x.time),.leaf (.string x.text),.leaf (.int .i64 x.result.kind),.leaf (.int .i64 x.result.n),.leaf (.int .i64 x.result.step),.leaf (.string x.result.text),.sl (x.result.list.map GVal.toD),.sl (x.result.cols.map ls),.sl (x.result.rows.map GRow.toD)]:=by
 simp[GRead.aj,GVal.aj,D.flat,D.iG,li,ls]
theorem GRead.aQ(x:GRead)(b:Bool):x.toD.acs b= [.raw (.int .i64 x.kind),.raw (.int .i64 x.n),.raw (.int .i64 x.time),.raw (.string x.text),.raw (.int .i64 x.result.kind),.raw (.int .i64 x.result.n),.raw (.int .i64 x.result.step),.raw (.string x.result.text),.sl b (x.result.list.map GVal.toD),.sl b (x.result.cols.map ls),.sl b (x.result.rows.map GRow.toD)]:=by
 simp[D.acs,GRead.aC,D.ac]
theorem GRead.bg(x:GRead):x.toD.isAgg=true:=by rw[GRead.aj];rfl
theorem GRead.fQ(x:GRead):x.toD.one:=by
 simp[GRead.aj,GVal.aj,D.one,D.ones,li,ls,k_]
theorem GRead.el(l:List GRead):El 11 (l.map GRead.toD):=fun d h=>by obtain⟨x,_,rfl⟩:=g_.1 h;exact⟨x.fQ,x.sz_eq⟩
theorem GTape.aC(x:GTape):x.toD.flat= [.leaf (.int .i64 x.cell),.leaf (.int .i64 x.ver),.sl (x.reads.map GRead.toD)]:=by
 simp[GTape.aj,D.flat,D.iG,li,ls]
theorem GTape.aQ(x:GTape)(b:Bool):x.toD.acs b= [.raw (.int .i64 x.cell),.raw (.int .i64 x.ver),.sl b (x.reads.map GRead.toD)]:=by
 simp[D.acs,GTape.aC,D.ac]
theorem GTape.bg(x:GTape):x.toD.isAgg=true:=by rw[GTape.aj];rfl
theorem GTape.fQ(x:GTape):x.toD.one:=by
 simp[GTape.aj,D.one,D.ones,li,ls,k_]
theorem GTape.el(l:List GTape):El 3 (l.map GTape.toD):=fun d h=>by obtain⟨x,_,rfl⟩:=g_.1 h;exact⟨x.fQ,x.sz_eq⟩
theorem JZ :type_of% (TU @GOrigin.aC (TU @GOrigin.aQ (TU @GOrigin.bg (TU @GRow.aC (TU @GRow.aQ (TU @GRow.bg (TU @GVal.aC (TU @GVal.aQ (TU @GVal.bg (TU @GTok.aC (TU @GTok.aQ (TU @GTok.bg (TU @GExpr.aC (TU @GExpr.aQ (TU @GExpr.bg (TU @GCell.aC (TU @GCell.aQ (TU @GCell.bg (TU @GNb.aC (TU @GNb.aQ (TU @GNb.bg (TU @GPart.aC (TU @GPart.aQ (TU @GPart.bg (TU @GEdit.aC (TU @GEdit.aQ (TU @GEdit.bg (TU @GRead.aC (TU @GRead.aQ (TU @GRead.bg (TU @GTape.aC (TU @GTape.aQ (@GTape.bg))))))))))))))))))))))))))))))))):=TU @GOrigin.aC (TU @GOrigin.aQ (TU @GOrigin.bg (TU @GRow.aC (TU @GRow.aQ (TU @GRow.bg (TU @GVal.aC (TU @GVal.aQ (TU @GVal.bg (TU @GTok.aC (TU @GTok.aQ (TU @GTok.bg (TU @GExpr.aC (TU @GExpr.aQ (TU @GExpr.bg (TU @GCell.aC (TU @GCell.aQ (TU @GCell.bg (TU @GNb.aC (TU @GNb.aQ (TU @GNb.bg (TU @GPart.aC (TU @GPart.aQ (TU @GPart.bg (TU @GEdit.aC (TU @GEdit.aQ (TU @GEdit.bg (TU @GRead.aC (TU @GRead.aQ (TU @GRead.bg (TU @GTape.aC (TU @GTape.aQ (@GTape.bg))))))))))))))))))))))))))))))))
theorem iZ(l:List D):(D.sl l).isAgg=false:=rfl
theorem dP(v:Value):(D.leaf v).isAgg=false:=rfl
theorem ji(n:Int):(li n).isAgg=false:=rfl
theorem jh(s:ByteArray):(ls s).isAgg=false:=rfl
theorem gW(l:List D):(D.sl l).flat= [.sl l]:=by rw[D.flat]
theorem dn(v:Value):(D.leaf v).flat= [.leaf v]:=by rw[D.flat]
theorem iy(n:Int):(li n).flat= [.leaf (.int .i64 n)]:=dn _
theorem iw(s:ByteArray):(ls s).flat= [.leaf (.string s)]:=dn _
section
variable{P:Program}{f:Nat}{w:World}
theorem S9{d:D}{vs:List Value}(h:Rds w [d] vs):∃v,vs= [v]∧Rd w d v:=by
 match vs,h with
 | [v],h=>exact⟨v,rfl,h.1⟩
theorem SY{d e:D}{vs:List Value}(h:Rds w [d,e] vs):∃v u,vs= [v,u]∧Rd w d v∧Rd w e u:=by
 match vs,h with
 | [v,u],h=>exact⟨v,u,rfl,h.1,h.2.1⟩
theorem Q5{l:List D}{v:Value}(h:Rd w (.sl l) v):∃fp,Sl w l fp v:=by
 obtain⟨fp,h⟩:=h;exact⟨fp,h⟩
theorem Iz{u v:Value}(h:Rd w (.leaf u) v):v=u:=by
 obtain⟨fp,h⟩:=h;have h2:fp= []∧[v]= [u]:=h;simpa using h2.2
theorem MS{d:D}{v:Value}(hd:d.isAgg=true)(h:Rd w d v):∃fp cs,v= .agg cs.toArray∧R w d fp cs:=by
 unfold Rd at h;rw[if_pos hd]at h;exact h
theorem oz{l:List D}{fp:List Nat}{v:Value}(h:Sl w l fp v):Rd w (.sl l) v:=⟨fp,h⟩
theorem kT(u:Value):Rd w (.leaf u) u:=⟨[],rfl,rfl⟩
theorem H8{ds:List D}{u:Value}(h:∀w vs,Rds w ds vs→Calls P f vs.toArray w (SK u w)):aF P f ds (.c false [.raw u]):=fun w vs hr _=>(h w vs hr).mono fun e w' ⟨h1,h2⟩=>⟨u,h1,⟨rfl,trivial⟩,h2⟩
theorem of_own{ds l:List D}{e s:Nat}(h:Ad P f ds l e s)(hf:kR l){w:World}{vs:List Value}(hr:Rds w ds vs)(ht:kQ w:=by first|exact trivial|assumption):Calls P f vs.toArray w (jG l w):=(h w vs hr ht).mono fun en w' h1=>xY.tos h1 hf
def LH(l:List D)(u:Value)(w:World)(e:Ending)(w':World):Prop:=∃fp v,e= .returned (.tuple #[.agg #[v],u])∧Sl w' l fp v∧aN w' w.heap.size fp∧Below w.heap.size w w'
theorem Qr{ds l:List D}{e s:Nat}{u:Value}(h:cZ P f ds (.tup [(true,[.own 0 0]),(false,[.raw u])]) [⟨l,e,s,0,true⟩])(hf:kR l){w:World}{vs:List Value}(hr:Rds w ds vs)(ht:kQ w:=by first|exact trivial|assumption):Calls P f vs.toArray w (LH l u w):=(h w vs hr ht).mono fun en w' ⟨v,om,h1,h2,h3,h4⟩=>by
 obtain⟨us,rfl,h5⟩:=h3
 match us,h5 with
 | [a,b],⟨h6,h7,_⟩=>
   obtain⟨xs,rfl,h8⟩:=h6;obtain rfl:=h7.1
   match xs,h8 with
   | [x],⟨⟨_,o,p,g1,g2,g3,g4⟩,_⟩=>
     simp at g1;subst g1;obtain rfl:=g4 rfl;obtain⟨_,o2,_⟩:=h2;obtain⟨cs,k1,k2,k3,k4⟩:=o2 0 _ p rfl g2;have:=hf _ _ _ k2;rw[this]at k2;exact⟨_,p.1,h1,Sl.lT k1 k2,aN.lT k1 aN.nil (fun g hg=>by simp),h4⟩
theorem cZ.to{ds l:List D}{e s:Nat}{u:Value}(h:cZ P f ds (.tup [(true,[.own 0 0]),(false,[.raw u])]) [⟨l,e,s,0,true⟩])(hf:kR l):aF P f ds (.tup [(true,[.sl true l]),(false,[.raw u])]):=fun w vs hr ht=>(Qr h hf hr ht).mono fun en w' ⟨fp,v,h1,h2,h3,h4⟩=>
 ⟨_,h1,⟨[.agg #[v],u],rfl,⟨[v],rfl,⟨fp,h2,fun b hb=>⟨kH.2 (h3.2 b hb).1,fun _=>v_ (h3.2 b hb).1⟩⟩,trivial⟩,⟨rfl,trivial⟩,trivial⟩,h4⟩
end
section
variable{P:Program}{f:Nat}{w:World}
def qH(w:World)(base:Nat)(fp:List Nat):Prop:=True∧∀b∈fp,base≤b∧True
theorem qH.mono{w:World}{base base':Nat}{fp:List Nat}(h:qH w base fp)(hb:base'≤base):qH w base' fp:=⟨trivial,fun b hm=>⟨n_ hb (h.2 b hm).1,trivial⟩⟩
theorem qH.below{w w':World}{base:Nat}{fp:List Nat}(h:qH w base fp)(hl:∀b∈fp,b<w.heap.size)(hb:Below w.heap.size w w'):qH w' base fp:=⟨trivial,h.2⟩
theorem qH.touch{fp:List Nat}{a b:World}{base:Nat}{g:List Nat}(hF:qH a base g)(hl:∀x∈g,x<a.heap.size)(h:Touch fp a b):qH b base g:=⟨trivial,hF.2⟩
theorem of_flat{E:Env}{os:List Own}{w:World}:∀{l:List D} {n:Bool} {vs:List Value},(∀d∈l,d.isAgg=false)→Oks E os w (l.map (D.ac n)) vs→∃fp,Rs w l fp vs∧∀b∈fp,b∉E.M∧(n=true→E.nw b)
 | [],_,[],_,_=>⟨[],⟨rfl,rfl⟩,fun b hb=>by simp at hb⟩
 | d ::l,n,v::vs,ha,h=>by
   obtain⟨f2,r2,m2⟩:=of_flat (fun x hx=>ha x (by simp[hx])) h.2;have h1:=h.1;cases d with
   | leaf u=>
     obtain rfl:v=u:=h1;exact⟨f2,⟨[],f2,[v],vs,rfl,rfl,⟨rfl,rfl⟩,r2⟩,m2⟩
   | sl l'=>
     obtain⟨fp,g1,g2⟩:=h1;refine⟨fp++f2,⟨fp,f2,[v],vs,rfl,rfl,g1,r2⟩,fun b hb=> ?_⟩;rcases o_.1 hb with hb|hb
     ·exact g2 b hb
     ·exact m2 b hb
   |agg l'=>have:=ha (.agg l') (by simp);cases this
 | [],_,_::_,_,h=>h.elim
 |_::_,_,[],_,h=>h.elim
def sH(d:D)(w:World)(e:Ending)(w':World):Prop:=∃fp cs,e= .returned (.agg cs.toArray)∧R w' d fp cs∧aN w' w.heap.size fp∧Below w.heap.size w w'
theorem Og{w w':World}{om:List (Value×List Nat)}{os:List Own}(h:nY w.heap.size w' om os)(hb:Below w.heap.size w w')(ht:kQ w):
 Rel w.heap.size [] ⟨⟨w.heap.size,om,[],[]⟩,os,w'⟩ w ⟨[],os,[]⟩ ⟨w.heap.size,om,[],[]⟩ {tmps:= #[],defers:= []} w' where
 eb:=j_ _
 ex:=rfl
 sim:=Sim.refl _ _ _
 defers:=rfl
 size:=rfl
 fr:=fun t y hy=>by simp at hy
 olen:=h.1
 own:=fun k o p g1 g2=>by
  obtain⟨cs,q1,q2,q3,q4⟩:=h.2.1 k o p g1 g2;exact⟨cs,q1,q2,q3,fun b hb=>⟨fun hm=>(q4 b hb).2 (by simpa[Env.M]using hm),fun _=>v_ (q4 b hb).1⟩⟩
 blen:=rfl
 box:=fun k xs p g1 g2=>by simp at g1
 nodup:=by simpa[Env.M]using h.2.2.1
 lin:=h.2.2.2.1
 unf:=h.2.2.2.2
 below:=(BelowT.start ht).trans hb
 base:=hb.size
theorem Ba{w w':World}{om:List (Value×List Nat)}{os:List Own}(h:nY w.heap.size w' om os)(hb:Below w.heap.size w w')(ht:kQ w){xs:List AC}{dd:List D}{cs:List Value}(hd:iU os xs=some dd)
 (hn:(xs.flatMap lcK).Nodup) (hk:∀k∈xs.flatMap lcK,dF os k) (hx:Oks ⟨w.heap.size,om,[],[]⟩ os w' xs cs):∃fp,R w' (.agg dd) fp cs∧aN w' w.heap.size fp:=by
 have hR:=Og h hb ht;obtain⟨E',q1,q2,q3,q4,q5,q6,q7⟩:=Rel.MG _ hR hn hk;obtain⟨_,_,r⟩:=CY hR hd hx;refine⟨_,by rw[bI];exact r,q4,fun b hb1=>⟨?_,fun o=> ?_⟩⟩
 ·have:=(q5 b hb1).2;simpa[Env.nw]using this
 ·obtain⟨k,hk1,hk2⟩:=l_.1 hb1;exact hR.FH (hk k hk1) b hk2 o
theorem Oq{ds:List D}{xs:List AC}{os:List Own}{dd:List D}(h:cZ P f ds (.c true xs) os)(hd:iU os xs=some dd)(hn:(xs.flatMap lcK).Nodup)(hk:∀k∈xs.flatMap lcK,dF os k)
 {w:World} {vs:List Value} (hr:Rds w ds vs) (ht:kQ w):Calls P f vs.toArray w (sH (.agg dd) w):=(h w vs hr ht).mono fun e w' ⟨v,om,h1,h2,h3,h4⟩=>by
 obtain⟨cs,rfl,h8⟩:=h3;obtain⟨fp,r,m⟩:=Ba h2 h4 ht hd hn hk h8;exact⟨fp,cs,h1,r,m,h4⟩
end
def stS(n:Nat)(avs:List AV)(os:List Own)(bs:List (List AC)):St:=⟨avs++N_ (n - avs.length) (.c false [.raw undef]),os,bs⟩
section
variable{lo:Nat×Nat}{P:Program}{K:St→Prop}{Q:Exit→St→Prop}{st:St}{m:Bool}
theorem dY{c:Opd}{x y:IC}{b:Bool}(hb:st.ev c= .c false [.raw (.bool b)])(h1:b=true→iV lo P x Q st)(h2:b=false→iV lo P y Q st):iV lo P (.cond c x y) Q st:=zB hb h1 h2
theorem iR{os:List Own}{xs:List AV}{ds:List D}(h:aO os xs ds):aO os xs ds:=h
theorem iL{f:Nat}(h:zk P f=true):zk P f=true:=h
theorem LD{a b:Prop}(h1:a)(h2:b):a∧b:=⟨h1,h2⟩
theorem Rt{d:Option Nat}{f:Nat}{avs:List AV}{rest:List IOp}(h:kP P K d f avs rest st):kP P K d f avs rest st:=h
theorem Pz{d:Option Nat}{f:Nat}{avs:List AV}{rest:List IOp}(h:oU P m K d f avs rest st):oU P m K d f avs rest st:=h
theorem og{l:List IOp}(h:sw P K l st):sw P K l st:=h
theorem oq{l:List IOp}(h:sd P m K l st):sd P m K l st:=h
theorem uV{d:Option Nat}{g:Nat}{w:Bool}{i:I}{rest:List IOp}(hg:gdA st (some (g,w))=some true)(h:sw P K (⟨d,none,i⟩::rest) st):sw P K (⟨d,some (g,w),i⟩::rest) st:=by
 rw[DY,hg];exact h
theorem uX{d:Option Nat}{g:Nat}{w:Bool}{i:I}{rest:List IOp}(hg:gdA st (some (g,w))=some false)(h:sw P K rest (st.put d (.c false [.raw undef]))):sw P K (⟨d,some (g,w),i⟩::rest) st:=by
 rw[DY,hg];exact h
theorem uZ{d:Option Nat}{g:Nat}{w:Bool}{i:I}{rest:List IOp}(hg:gdA st (some (g,w))=some true)(h:sd P m K (⟨d,none,i⟩::rest) st):sd P m K (⟨d,some (g,w),i⟩::rest) st:=by
 rw[D8,hg];exact h
theorem vg{d:Option Nat}{g:Nat}{w:Bool}{i:I}{rest:List IOp}(hg:gdA st (some (g,w))=some false)(h:sd P m K rest (st.put d (.c false [.raw undef]))):sd P m K (⟨d,some (g,w),i⟩::rest) st:=by
 rw[D8,hg];exact h
theorem nI{g:Nat}{w b:Bool}(h:st.fr.getD g .any= .c false [.raw (.bool b)]):gdA st (some (g,w))=some (b==w):=by
 simp only[gdA,h]
theorem J3{d:Option Nat}{g:Nat}{w b:Bool}{i:I}{rest:List IOp}(hg:st.fr.getD g .any= .c false [.raw (.bool b)])(h1:b=w→sw P K (⟨d,none,i⟩::rest) st)(h2:b= !w→sw P K rest (st.put d (.c false [.raw undef]))):
 sw P K (⟨d,some (g,w),i⟩::rest) st:=by
 cases b<;>cases w
 ·exact uV (nI hg) (h1 rfl)
 ·exact uX (nI hg) (h2 rfl)
 ·exact uX (nI hg) (h2 rfl)
 ·exact uV (nI hg) (h1 rfl)
theorem J9{d:Option Nat}{g:Nat}{w b:Bool}{i:I}{rest:List IOp}(hg:st.fr.getD g .any= .c false [.raw (.bool b)])(h1:b=w→sd P m K (⟨d,none,i⟩::rest) st)(h2:b= !w→sd P m K rest (st.put d (.c false [.raw undef]))):
 sd P m K (⟨d,some (g,w),i⟩::rest) st:=by
 cases b<;>cases w
 ·exact uZ (nI hg) (h1 rfl)
 ·exact vg (nI hg) (h2 rfl)
 ·exact vg (nI hg) (h2 rfl)
 ·exact uZ (nI hg) (h1 rfl)
end
theorem HY{z:Int}(h1: -9223372036854775808≤z)(h2:z≤9223372036854775807):IntKind.i64.wrap z=z:=IntWalk.i64_in _ ⟨h1,h2⟩
theorem Rf{α:Type}{a b:Nat}{x y:α}(h:a<b):(if a<b then x else y)=x:=if_pos h
theorem Rh{α:Type}{a b:Nat}{x y:α}(h:a≤b):(if a≤b then x else y)=x:=if_pos h
theorem Ro{p:Prop}[Decidable p](h:p):decide p=true:=decide_eq_true h
theorem Rq{p:Prop}[Decidable p](h:¬p):decide p=false:=decide_eq_false h
theorem Rx{a b:Int}(h:a=b):(a==b)=true:=by simp[h]
theorem Ry{a b:Int}(h:a≠b):(a==b)=false:=by simp[h]
theorem Ru{a b:Int}(h:a≠b):(a !=b)=true:=by simp[h]
theorem Rw{a b:Int}(h:a=b):(a !=b)=false:=by simp[h]
theorem OD{l:List D}{k:Nat}(h:k<l.length):idx l (some (k:Int))=some l[k]:=by
 rw[Jg,a_ h]
theorem EL{α:Type}(f:α→D)(l:List α){z:Int}(h0:0≤z)(h:z.toNat<l.length):idx (l.map f) (some z)=some (f l[z.toNat]):=by
 simp only[idx];rw[if_pos h0,y_,a_ h];rfl
theorem Ig{k n:Nat}(h:k≤n):kD none (some (k:Int)) n=some (0,k):=by
 simp[kD,h]
theorem uY{k n:Nat}(h:k≤n):kD (some (k:Int)) none n=some (k,n):=by
 simp[kD,h]
theorem AX{j k n:Nat}(h:j≤k)(h':k≤n):kD (some (j:Int)) (some (k:Int)) n=some (j,k):=by
 simp only[kD,m_];rw[if_pos (by omega)];simp
theorem D5{n:Nat}(h:1≤n):kD (some (1:Int)) none n=some (1,n):=by
 have:=uY h;simpa using this
theorem D6{n:Nat}:kD none none n=some (0,n):=by
 simp[kD]
section
variable{α:Type}
end
theorem FQ{n m n' m':Nat}(h:n≤n')(h':m≤m'){x:AC}(hx:x.fits n m=true):x.fits n' m'=true:=by
 cases x with
 |own k i=>simp[AC.fits]at hx⊢;omega
 |osub k i a b=>simp[AC.fits]at hx⊢;omega
 | cl f caps=>
   simp only[AC.fits,s_,decide_eq_true_eq]at hx⊢;exact fun k hk=>E_ (hx k hk) h'
 |_=>rfl
def JR(n m:Nat)(bx:List (List AC)):Prop:=(bx.all fun xs=>xs.all (AC.fits n m))=true
theorem JR.mono{n m n' m':Nat}{bx:List (List AC)}(h:JR n m bx)(h1:n≤n')(h2:m≤m'):JR n' m' bx:=by
 simp only[JR,s_]at h⊢;exact fun xs hx x hxx=>FQ h1 h2 (h xs hx x hxx)
theorem pkA :type_of% (TU @Q_.{0,0} (TU @W_.{0,0} (TU @B_.{0} (TU @L_.{0} (TU @q_.{0} (TU @a_h.{0} (TU @K_.{0,0} (TU @S_.{0} (TU @T_.{0} (TU @I_.{0} (TU @J_.{0} (TU @X_.{0} (TU @Y_.{0} (TU @U_.{0} (TU @a_k.{0} (TU @V_.{0} (TU @a_l.{0} (TU @a_m.{0} (TU @a_n.{0} (TU @a_s (TU @a_t (TU @a_u.{0} (TU @h_.{0} (TU @a_o (TU @a_p (TU @a_q (TU @F_ (TU @D_ (TU @beq_self_eq_true.{0} (TU @if_true.{1} (TU @if_false.{1} (TU @ite_true.{1} (TU @ite_false.{1} (TU @Z_ (TU @true_and (TU @and_true (TU @decide_true (TU @decide_false (TU @m_.{0} (TU @a_g.{0} (TU @j_ (TU @z_ (TU @Int.toNat_natCast (TU @Int.natCast_nonneg (TU @BEq.rfl.{0} (TU @M_.{0,0} (TU @a_i.{0,0} (TU @PI (TU @PG (TU @vH (TU @vG (TU @tJ (TU @Cj (TU @fK (TU @gq (TU @OY (@Jp))))))))))))))))))))))))))))))))))))))))))))))))))))))))):=TU @Q_.{0,0} (TU @W_.{0,0} (TU @B_.{0} (TU @L_.{0} (TU @q_.{0} (TU @a_h.{0} (TU @K_.{0,0} (TU @S_.{0} (TU @T_.{0} (TU @I_.{0} (TU @J_.{0} (TU @X_.{0} (TU @Y_.{0} (TU @U_.{0} (TU @a_k.{0} (TU @V_.{0} (TU @a_l.{0} (TU @a_m.{0} (TU @a_n.{0} (TU @a_s (TU @a_t (TU @a_u.{0} (TU @h_.{0} (TU @a_o (TU @a_p (TU @a_q (TU @F_ (TU @D_ (TU @beq_self_eq_true.{0} (TU @if_true.{1} (TU @if_false.{1} (TU @ite_true.{1} (TU @ite_false.{1} (TU @Z_ (TU @true_and (TU @and_true (TU @decide_true (TU @decide_false (TU @m_.{0} (TU @a_g.{0} (TU @j_ (TU @z_ (TU @Int.toNat_natCast (TU @Int.natCast_nonneg (TU @BEq.rfl.{0} (TU @M_.{0,0} (TU @a_i.{0,0} (TU @PI (TU @PG (TU @vH (TU @vG (TU @tJ (TU @Cj (TU @fK (TU @gq (TU @OY (@Jp))))))))))))))))))))))))))))))))))))))))))))))))))))))))
theorem pkN :type_of% (TU @Rf (TU @Rh (TU @Ro (TU @Rq (TU @Rx (TU @Ry (TU @Ru (TU @Rw (TU @DT (TU @HY (TU @OD (TU @Jh (TU @EL (TU @Ig (TU @uY (TU @AX (TU @D5 (@D6)))))))))))))))))):=TU @Rf (TU @Rh (TU @Ro (TU @Rq (TU @Rx (TU @Ry (TU @Ru (TU @Rw (TU @DT (TU @HY (TU @OD (TU @Jh (TU @EL (TU @Ig (TU @uY (TU @AX (TU @D5 (@D6)))))))))))))))))
theorem pkC :type_of% (TU @decide_eq_true_eq (TU @decide_eq_false_iff_not (TU @beq_iff_eq.{0} (TU @bne_iff_ne.{0} (TU @ne_eq.{1} (TU @beq_eq_false_iff_ne.{0} (TU @bne_eq_false_iff_eq.{0} (TU @a_e (TU @a_b (TU @P_ (TU @F_ (@D_)))))))))))):=TU @decide_eq_true_eq (TU @decide_eq_false_iff_not (TU @beq_iff_eq.{0} (TU @bne_iff_ne.{0} (TU @ne_eq.{1} (TU @beq_eq_false_iff_ne.{0} (TU @bne_eq_false_iff_eq.{0} (TU @a_e (TU @a_b (TU @P_ (TU @F_ (@D_)))))))))))
theorem pkW :type_of% (TU @Nl (TU @IG (TU @NH (TU @NI (TU @Nj (TU @II (TU @Ns (TU @Nk (TU @Ee (TU @ND (TU @NG (TU @Nr (TU @IE (TU @Nh (TU @Nu (TU @Nq (TU @Np (TU @IJ (TU @IB (TU @Q7 (TU @Nz (TU @Ny (TU @IL (@IK)))))))))))))))))))))))):=TU @Nl (TU @IG (TU @NH (TU @NI (TU @Nj (TU @II (TU @Ns (TU @Nk (TU @Ee (TU @ND (TU @NG (TU @Nr (TU @IE (TU @Nh (TU @Nu (TU @Nq (TU @Np (TU @IJ (TU @IB (TU @Q7 (TU @Nz (TU @Ny (TU @IL (@IK)))))))))))))))))))))))
theorem pkS :type_of% (TU @Mc (TU @Me (TU @Md (TU @Ic (TU @DZ (TU @MB (TU @DX (TU @Ie (@QY))))))))):=TU @Mc (TU @Me (TU @Md (TU @Ic (TU @DZ (TU @MB (TU @DX (TU @Ie (@QY))))))))
theorem pkD :type_of% (TU @NR (TU @IW (TU @N9 (TU @Oa (TU @NP (TU @IX (TU @NV (TU @NQ (TU @Ej (TU @N7 (TU @Ei (TU @IZ (TU @N8 (TU @NU (TU @IV (TU @NM (TU @NW (TU @NT (TU @NS (TU @IY (TU @IU (TU @Q8 (TU @NZ (TU @NY (TU @I5 (TU @I4 (TU @O5 (TU @Jt (TU @Pn (TU @Po (TU @O1 (TU @Ju (TU @O9 (TU @O4 (TU @Fg (TU @Pj (TU @Fe (TU @Jw (TU @Pm (TU @O8 (TU @Js (TU @OZ (TU @Pe (TU @O7 (TU @O6 (TU @Jv (TU @Jr (TU @Rn (TU @Ph (TU @Pg (TU @JA (TU @Jz (TU @Jy (TU @pW (@pX))))))))))))))))))))))))))))))))))))))))))))))))))))))):=TU @NR (TU @IW (TU @N9 (TU @Oa (TU @NP (TU @IX (TU @NV (TU @NQ (TU @Ej (TU @N7 (TU @Ei (TU @IZ (TU @N8 (TU @NU (TU @IV (TU @NM (TU @NW (TU @NT (TU @NS (TU @IY (TU @IU (TU @Q8 (TU @NZ (TU @NY (TU @I5 (TU @I4 (TU @O5 (TU @Jt (TU @Pn (TU @Po (TU @O1 (TU @Ju (TU @O9 (TU @O4 (TU @Fg (TU @Pj (TU @Fe (TU @Jw (TU @Pm (TU @O8 (TU @Js (TU @OZ (TU @Pe (TU @O7 (TU @O6 (TU @Jv (TU @Jr (TU @Rn (TU @Ph (TU @Pg (TU @JA (TU @Jz (TU @Jy (TU @pW (@pX))))))))))))))))))))))))))))))))))))))))))))))))))))))
theorem pkR :type_of% (TU @MI (TU @MK (TU @MJ (TU @Ij (TU @D9 (TU @MO (TU @ML (@MN)))))))):=TU @MI (TU @MK (TU @MJ (TU @Ij (TU @D9 (TU @MO (TU @ML (@MN)))))))
def AC.ren(pk:List Nat):AC→AC
 | .own k i=> .own (pk.getD k 0) i
 | .osub k i a b=> .osub (pk.getD k 0) i a b
 |x=>x
def AV.ren(pk:List Nat):AV→AV
 | .c g xs=> .c g (xs.map (AC.ren pk))
 | .ptr xs=> .ptr (xs.map (AC.ren pk))
 | .eptr k i j off=> .eptr (pk.getD k 0) i j off
 | .tup ys=> .tup (ys.map fun y=>(y.1,y.2.map (AC.ren pk)))
 |x=>x
def Rz(pk:List Nat)(n m:Nat):List AV→List AV→Prop
 | [],[]=>True
 |x::xs,y::ys=>(y= .any∨(x=y.ren pk∧y.fits n m=true))∧Rz pk n m xs ys
 |_,_=>False
def PZ(os:List Own):List Nat→List Own→Prop
 | [],[]=>True
 |k::pk,o'::os'=>(match os[k]? with|some o=>o.l=o'.l∧o.e=o'.e∧o.s=o'.s∧o.ver=o'.ver∧o.nw=o'.nw|none=>False)∧PZ os pk os'
 |_,_=>False
def P6(pk:List Nat):List (List AC)→List (List AC)→Prop
 |_,[]=>True
 |x::xs,y::ys=>x=y.map (AC.ren pk)∧P6 pk xs ys
 | [],_::_=>False
def TI(pk:List Nat)(st st':St):Prop:=pk.Nodup∧Rz pk st'.owns.length st'.boxes.length st.fr st'.fr∧PZ st.owns pk st'.owns∧P6 pk st.boxes st'.boxes∧(st'.boxes.all fun xs=>xs.all (AC.fits st'.owns.length st'.boxes.length))=true
def Env.pick(E:Env)(pk:List Nat)(m:Nat):Env:={E with om:=pk.map fun k=>E.om.getD k (undef,[]),bm:=E.bm.take m}
theorem Ob{L:List (Value×List Nat)}{pk:List Nat}(hlt:∀k∈pk,k<L.length){b:Nat}(hb:b∈(pk.map fun k=>L.getD k (undef,[])).flatMap fun p=>p.1.ownBlock.toList):∃k∈pk,∃p,L[k]? =some p∧p.1.ownBlock=some b:=by
 obtain⟨q,hq,hqb⟩:=l_.1 hb;obtain⟨k,hk,rfl⟩:=g_.1 hq;have hkl:=hlt k hk;rw[c_,a_ hkl]at hqb;exact⟨k,hk,L[k],a_ hkl,by simpa using hqb⟩
section
variable{B:Nat}{Xs:List Nat}{G:Org}{w0:World}{st st':St}{E:Env}{a:Act}{w:World}{pk:List Nat}{m:Nat}{os os':List Own}
theorem Oc(hlt:∀k∈pk,k<E.om.length){b:Nat}(h:b∈(E.pick pk m).M):b∈E.M:=by
 unfold Env.M at h⊢;rcases o_.1 h with h|h
 ·refine u_ _ ?_;exact((H_ m E.bm).map _).subset h
 ·refine r_ _ ?_;obtain⟨k,hk,p,g1,g2⟩:=Ob hlt h;exact l_.2 ⟨p,t_ g1,by simp[g2]⟩
theorem CS{j k:Nat}(hk:pk[j]? =some k){p:Value×List Nat}(hp:E.om[k]? =some p):(E.pick pk m).om[j]? =some p:=by
 simp only[Env.pick,y_,hk,M_,c_,hp,m_]
theorem AC.ok.pick(hlt:∀k∈pk,k<E.om.length)(hl:pk.length=os'.length)(ho:∀(j:Nat) (o':Own),os'[j]? =some o'→∃k,pk[j]? =some k∧os[k]? =some o'){x:AC}{v:Value}(h:(x.ren pk).ok E os w v)(hf:x.fits os'.length m=true):x.ok (E.pick pk m) os' w v:=by
 cases x with
 |any=>trivial
 |raw u=>exact h
 | cl f caps=>
   obtain⟨ps,h1,h2⟩:=h;refine⟨ps, ?_,h2⟩;rw[← h1];refine R_ fun k hk=> ?_
   have:k<m:=by simpa using s_.1 hf k hk
   simp only[Env.pick];rw[e_,if_pos this]
 | sl b l=>
   obtain⟨fp,h1,h2⟩:=h;exact⟨fp,h1,fun b hb=>⟨fun hm=>(h2 b hb).1 (Oc hlt hm),(h2 b hb).2⟩⟩
 | own k i=>
   obtain⟨hv,o,p,h1,h2,h3,h4⟩:=h;have hk:k<os'.length:=by simpa[AC.fits]using hf
   obtain⟨k0,g1,g2⟩:=ho k _ (a_ hk);have e:pk.getD k 0=k0:=by rw[c_,g1];rfl
   rw[e]at h1 h2;rw[h1]at g2;injection g2 with g2
   exact⟨hv,o,p,by rw[a_ hk,← g2],CS g1 h2,h3,h4⟩
 | osub k i pa pb=>
   obtain⟨hv,o,p,h1,h2,h3,h4⟩:=h;have hk:k<os'.length:=by simpa[AC.fits]using hf
   obtain⟨k0,g1,g2⟩:=ho k _ (a_ hk);have e:pk.getD k 0=k0:=by rw[c_,g1];rfl
   rw[e]at h1 h2;rw[h1]at g2;injection g2 with g2
   exact⟨hv,o,p,by rw[a_ hk,← g2],CS g1 h2,h3,h4⟩
theorem Oks.pick(hlt:∀k∈pk,k<E.om.length)(hl:pk.length=os'.length)(ho:∀(j:Nat) (o':Own),os'[j]? =some o'→∃k,pk[j]? =some k∧os[k]? =some o'):∀{xs:List AC} {vs:List Value},Oks E os w (xs.map (AC.ren pk)) vs→xs.all (AC.fits os'.length m)=true→Oks (E.pick pk m) os' w xs vs
 | [],[],_,_=>trivial
 | x::xs,v::vs,h,hf=>by
   simp only[h_,d_]at hf;exact⟨AC.ok.pick hlt hl ho h.1 hf.1,Oks.pick hlt hl ho h.2 hf.2⟩
 | [],_::_,h,_=>h.elim
 |_::_,[],h,_=>h.elim
theorem Gok.pick(hlt:∀k∈pk,k<E.om.length)(hl:pk.length=os'.length)(ho:∀(j:Nat) (o':Own),os'[j]? =some o'→∃k,pk[j]? =some k∧os[k]? =some o'){g:Bool}{xs:List AC}{v:Value}(h:Gok E os w g (xs.map (AC.ren pk)) v)(hf:xs.all (AC.fits os'.length m)=true):Gok (E.pick pk m) os' w g xs v:=by
 cases g with
 |true=>obtain⟨vs,h1,h2⟩:=h;exact⟨vs,h1,h2.pick hlt hl ho hf⟩
 |false=>exact Oks.pick hlt hl ho (show Oks _ _ _ _ [v] from h) hf
theorem nX.pick(hlt:∀k∈pk,k<E.om.length)(hl:pk.length=os'.length)(ho:∀(j:Nat) (o':Own),os'[j]? =some o'→∃k,pk[j]? =some k∧os[k]? =some o'):∀{ys:List (Bool×List AC)} {vs:List Value},nX E os w (ys.map fun y=>(y.1,y.2.map (AC.ren pk))) vs→(ys.all fun y=>y.2.all (AC.fits os'.length m))=true→nX (E.pick pk m) os' w ys vs
 | [],[],_,_=>trivial
 | y::ys,v::vs,h,hf=>by
   simp only[h_,d_]at hf;exact⟨Gok.pick hlt hl ho h.1 hf.1,nX.pick hlt hl ho h.2 hf.2⟩
 | [],_::_,h,_=>h.elim
 |_::_,[],h,_=>h.elim
theorem AV.ok.pick(hlt:∀k∈pk,k<E.om.length)(hl:pk.length=os'.length)(ho:∀(j:Nat) (o':Own),os'[j]? =some o'→∃k,pk[j]? =some k∧os[k]? =some o'){x:AV}{v:Value}(h:(x.ren pk).ok E os w v)(hf:x.fits os'.length m=true):x.ok (E.pick pk m) os' w v:=by
 cases x with
 |any=>trivial
 |c g xs=>exact Gok.pick hlt hl ho h hf
 | ptr xs=>
   obtain⟨b,o,vs,h1,h2,h3,h4,h5⟩:=h;exact⟨b,o,vs,h1,h2,fun hm=>h3 (Oc hlt hm),h4,h5.pick hlt hl ho hf⟩
 | bptr k off=>
   obtain⟨p,h1,h2⟩:=h;refine⟨p, ?_,h2⟩;simp only[Env.pick];rw[e_,if_pos (by simpa[AV.fits]using hf)];exact h1
 | eptr k i j off=>
   obtain⟨o,p,h1,h2,h3,h4⟩:=h;have hk:k<os'.length:=by simpa[AV.fits]using hf
   obtain⟨k0,g1,g2⟩:=ho k _ (a_ hk);have e:pk.getD k 0=k0:=by rw[c_,g1];rfl
   rw[e]at h1 h2;rw[h1]at g2;injection g2 with g2
   exact⟨o,p,by rw[a_ hk,← g2],CS g1 h2,h3,h4⟩
 | tup ys=>
   obtain⟨vs,h1,h2⟩:=h;exact⟨vs,h1,h2.pick hlt hl ho hf⟩
end
def JU{X:Type}(F:X→St)(inv:X→Prop)(μ:X→Nat)(x:X)(Q:Exit→St→Prop):Exit→St→Prop
 | .normal,st=>∃x' pk,TI pk st (F x')∧inv x'∧μ x'<μ x
 |e,st=>Q e st
section
variable{P:Program}{Q:Exit→St→Prop}{st:St}{i:Nat}
theorem dD{X:Type}{F:X→St}{inv:X→Prop}{μ:X→Nat}{x:X}(h:Q (.exit i) st):JU F inv μ x Q (.exit i) st:=h
theorem dS{X:Type}{F:X→St}{inv:X→Prop}{μ:X→Nat}{x:X}(h:Q .ret st):JU F inv μ x Q .ret st:=h
end
section
variable{B H:Nat}{X:List Nat}{bm0:List (Nat×TypeId)}{G:Org}{w0:World}{st:St}{E:Env}{a:Act}{w:World}{pk:List Nat}{os':List Own}
structure OutAt (B H:Nat) (X:List Nat) (bm0:List (Nat×TypeId)) (E:Env) (pk:List Nat) (os:List Own) (os':List Own):Prop where
 nw:∀x,E.nw x→H≤x∨x∈X
 own:∀(k:Nat) (p:Value×List Nat) (x:Nat),E.om[k]? =some p→p.1.ownBlock=some x→H≤x
 bm:∀q:Nat×TypeId,q∈bm0→∃k':Nat,E.bm[k']? =some q
 get:∀(j k:Nat),pk[j]? =some k→∃o',os'[j]? =some o'
 lt:∀k∈pk,k<E.om.length
end
section
variable{P:Program}{f:Nat}{fn:Func}{code:Code}{ic:IC}{ds:List D}
end
section
variable{P:Program}{B:Nat}{Xs:List Nat}{G:Org}{w0:World}{fr:List AV}{os:List Own}{bs:List (List AC)}{E:Env}{a:Act}{w w':World}
theorem Dp{t:Bool}:∀{xs:List AC} {ds:List D} {vs:List Value},fV [] xs=some ds→(t=true→xs.all AC.nw=true)→Oks E os w xs vs→∃fp,Rs w ds fp vs∧∀b∈fp,b<w.heap.size∧b∉E.M∧(t=true→E.nw b)
 | [],ds,[],hd,_,_=>by
   injection hd with hd
   subst hd;exact⟨[],⟨rfl,rfl⟩,fun b hb=>by simp at hb⟩
 | x::xs,ds,v::vs,hd,hn,hx=>by
   rw[fV]at hd;split at hd
   ·next d ds' h1 h2=>
    injection hd with hd
    subst hd;have h1':x.toD=some d:=by cases x<;>simp_all [jM]
    obtain⟨_,_,f1,r1,m1⟩:=toD_ok h1' hx.1;obtain⟨f2,r2,m2⟩:=Dp h2 (fun e=>by have:=hn e;simp only[h_,d_]at this;exact this.2) hx.2;refine⟨f1++f2,⟨f1,f2,[v],vs,rfl,rfl,r1,r2⟩,fun b hb=> ?_⟩;rcases o_.1 hb with hb|hb
    ·exact⟨R.lt r1 b hb,(m1 b hb).1,fun e=>(m1 b hb).2 (by have:=hn e;simp only[h_,d_]at this;exact this.1)⟩
    ·exact m2 b hb
   ·cases hd
 | [],_,_::_,_,_,h=>h.elim
 |_::_,_,[],_,_,h=>h.elim
theorem TG{t:Bool}{x:AV}{dd:D}{v:Value}(hd:ku [] x dd)(hn:t=true→x.nw=true)(hx:x.ok E os w v):∃F,RdF w F dd v∧∀b∈F,b<w.heap.size∧b∉E.M∧(t=true→E.nw b):=by
 cases x with
 | c g xs=>
   obtain⟨h1,rfl⟩:=hd;unfold RdF;cases hg:dd.isAgg with
   | true=>
     rw[hg]at hx;obtain⟨vs,h2,h3⟩:=hx;obtain⟨fp,h4,h5⟩:=Dp h1 hn h3;exact⟨fp,by rw[if_pos rfl];exact⟨fp,vs,h2,jU.2 h4,fun b hb=>hb⟩,h5⟩
   | false=>
     rw[hg]at hx;obtain⟨fp,h4,h5⟩:=Dp h1 hn (show Oks E os w xs [v] from hx);exact⟨fp,by rw[if_neg (by simp)];exact⟨fp,jU.2 h4,fun b hb=>hb⟩,h5⟩
 |any=>exact hd.elim
 |ptr _=>exact hd.elim
 |bptr _ _=>exact hd.elim
 |eptr _ _ _ _=>exact hd.elim
 |tup _=>exact hd.elim
theorem Ho{t:Bool}:∀{xs:List AV} {ds:List D} {vs:List Value},aO [] xs ds→(t=true→xs.all AV.nw=true)→ng E os w xs vs→∃F,vY w F ds vs∧∀b∈F,b<w.heap.size∧b∉E.M∧(t=true→E.nw b)
 | [],[],[],_,_,_=>⟨[],trivial,fun b hb=>by simp at hb⟩
 | x::xs,d::ds,v::vs,hd,hn,hv=>by
   obtain⟨F1,h1,h2⟩:=TG hd.1 (fun e=>by have:=hn e;simp only[h_,d_]at this;exact this.1) hv.1;obtain⟨F2,h3,h4⟩:=Ho hd.2 (fun e=>by have:=hn e;simp only[h_,d_]at this;exact this.2) hv.2;refine⟨F1++F2,⟨h1.mono (fun b hb=>u_ _ hb),h3.mono (fun b hb=>r_ _ hb)⟩,fun b hb=> ?_⟩;rcases o_.1 hb with hb|hb
   ·exact h2 b hb
   ·exact h4 b hb
 | [],_::_,_,hd,_,_=>hd.elim
 |_::_,[],_,hd,_,_=>hd.elim
 | [],[],_::_,_,_,hv=>hv.elim
 |_::_,_::_,[],_,_,hv=>hv.elim
def AC.lM :AC→Bool
 | .raw _=>true
 | .any=>true
 | .sl n _=>n
 |_=>false
def AV.lM :AV→Bool
 | .any=>true
 | .c _ xs=>xs.all AC.lM
 | .tup ys=>ys.all fun y=>y.2.all AC.lM
 |_=>false
theorem RU{F:List Nat}{t:Bool}{st:St}(h:Rel B Xs G w0 st E a w)(hF:∀b∈F,b∉E.M∧(t=true→E.nw b)){x:AC}{v:Value}(ho:x.lM=true)(hx:x.ok (jT w.heap.size F) [] w' v):(x.fl t).ok E st.owns w' v:=by
 cases x with
 |any=>trivial
 |raw u=>exact hx
 | sl n l=>
   obtain rfl:n=true:=ho;obtain⟨fp,h1,h2⟩:=hx;refine⟨fp,h1,fun b hb=>⟨fun hm=> ?_,fun e=> ?_⟩⟩
   ·rcases yG.1 (h2 b hb).1 with h3|h3
    ·have:=(sJ h hm).2;omega
    ·exact(hF b h3).1 hm
   ·rcases yG.1 (h2 b hb).1 with h3|h3
    ·exact h.rM (n_ h.base h3)
    ·exact(hF b h3).2 e
 |own k i=>simp[AC.lM]at ho
 |osub k i a b=>simp[AC.lM]at ho
 |cl f caps=>simp[AC.lM]at ho
theorem CW{F:List Nat}{t:Bool}{st:St}(h:Rel B Xs G w0 st E a w)(hF:∀b∈F,b∉E.M∧(t=true→E.nw b)):∀{xs:List AC} {vs:List Value},xs.all AC.lM=true→Oks (jT w.heap.size F) [] w' xs vs→Oks E st.owns w' (xs.map (AC.fl t)) vs
 | [],[],_,_=>trivial
 | x::xs,v::vs,ho,hx=>by
   simp only[h_,d_]at ho;exact⟨RU h hF ho.1 hx.1,CW h hF ho.2 hx.2⟩
 | [],_::_,_,hx=>hx.elim
 |_::_,[],_,hx=>hx.elim
theorem Qq{F:List Nat}{t:Bool}{st:St}(h:Rel B Xs G w0 st E a w)(hF:∀b∈F,b∉E.M∧(t=true→E.nw b)){r:AV}{v:Value}(ho:r.lM=true)(hx:r.ok (jT w.heap.size F) [] w' v):(r.fl t).ok E st.owns w' v:=by
 have key:∀{g:Bool} {xs:List AC} {v:Value},xs.all AC.lM=true→Gok (jT w.heap.size F) [] w' g xs v→Gok E st.owns w' g (xs.map (AC.fl t)) v:=by
  intro g xs v hx hv;cases g with
  |true=>obtain⟨vs,h1,h2⟩:=hv;exact⟨vs,h1,CW h hF hx h2⟩
  |false=>exact CW h hF hx (show Oks _ _ _ xs [v] from hv)
 cases r with
 |any=>trivial
 |c g xs=>exact key ho hx
 | tup ys=>
   obtain⟨vs,h1,h2⟩:=hx;refine⟨vs,h1, ?_⟩;clear h1;have ho':(ys.all fun y=>y.2.all AC.lM)=true:=ho;clear ho
   induction ys generalizing vs with
   | nil=>cases vs with
     |nil=>trivial
     |cons v vs=>exact h2.elim
   | cons y ys ih=>cases vs with
     |nil=>exact h2.elim
     | cons v vs=>
       simp only[h_,d_]at ho';exact⟨key ho'.1 h2.1,ih vs h2.2 ho'.2⟩
 |ptr _=>cases ho
 |bptr _ _=>cases ho
 |eptr _ _ _ _=>cases ho
theorem lK.toE(t:Bool){f:Nat}{ds:List D}{ys:List AV}{r:AV}(h:lK P f ds r)(hr:r.lM=true)(ha:aO [] ys ds)(hn:t=true→ys.all AV.nw=true):jW P f ys os bs (fun r2 os2 bs2=>r2=r.fl t∧os2=os∧bs2=bs):=by
 intro B Xs G w0 fr E a w vs hR hv;obtain⟨F,h1,h2⟩:=Ho ha hn hv;refine(h w F vs (fun b hb=>(h2 b hb).1) h1 hR.below.now).mono ?_;rintro e w' ⟨v,rfl,hx,hb⟩;have hA:=hR.here;have hB:=hA.kY hb (d:=none) (x:= .any) (v:=undef) trivial;exact⟨v,E,_,_,_,⟨rfl,rfl,rfl⟩,rfl,hB,Qq hR (fun b hb=>⟨(h2 b hb).2.1,(h2 b hb).2.2⟩) hr hx⟩
def JQ(P:Program)(f:Nat)(ds:List D)(c:List AC)(post:AV→List Own→List AC→Prop):Prop:=
 ∀(w:World) (b:Nat) (ty:TypeId) (us vs:List Value) (X:List Nat),BelowT b w w→(∀x∈X,x≠b∧x<w.heap.size)→Row w b ty us→Oks ⟨w.heap.size,[],[(b,ty)],X⟩ [] w c us→
  ng ⟨w.heap.size,[],[(b,ty)],X⟩ [] w (ds.map (D.avN true)) vs→Calls P f (.pointer (some ⟨b,0,none⟩)::vs).toArray w (RF X b ty post w)
theorem SG{H:Nat}{p:Nat×TypeId}{X F:List Nat}{d:D}{v:Value}(hF:∀b∈F,b∈X∧b≠p.1)(h:RdF w F d v):(D.avN true d).ok ⟨H,[],[p],X⟩ [] w v:=by
 have hM:∀b,b∈(⟨H,[],[p],X⟩:Env).M→b=p.1:=fun b hb=>by simpa[Env.M]using hb
 unfold D.avN AV.ok Gok;unfold RdF at h;cases hg:d.isAgg with
 | true=>
   rw[hg,if_pos rfl]at h;obtain⟨fp,cs,h1,h2,h3⟩:=h;exact⟨cs,h1,nG h2 (fun b hb=>⟨fun hm=>(hF b (h3 b hb)).2 (hM b hm),fun _=>p_ (hF b (h3 b hb)).1⟩)⟩
 | false=>
   rw[hg,if_neg (by simp)]at h;obtain⟨fp,h2,h3⟩:=h;exact nG h2 (fun b hb=>⟨fun hm=>(hF b (h3 b hb)).2 (hM b hm),fun _=>p_ (hF b (h3 b hb)).1⟩)
theorem JG{H:Nat}{p:Nat×TypeId}{X F:List Nat}(hF:∀b∈F,b∈X∧b≠p.1):∀{ds:List D} {vs:List Value},vY w F ds vs→ng ⟨H,[],[p],X⟩ [] w (ds.map (D.avN true)) vs
 | [],[],_=>trivial
 |d::ds,v::vs,h=>⟨SG hF h.1,JG hF h.2⟩
 | [],_::_,h=>h.elim
 |_::_,[],h=>h.elim
theorem JQ.toE(t:Bool){f:Nat}{ds:List D}{ys:List AV}{c c0:List AC}{kc:Nat}{post:AV→List Own→List AC→Prop}(h:JQ P f ds c post)(hk:bs[kc]? =some c0)(hc0:c0.all (AC.cin t)=true)(hc:c0.map (AC.fl true)=c)(ha:aO [] ys ds)(hn:t=true→ys.all AV.nw=true):
 jW P f (.bptr kc 0::ys) os bs (fun r2 os2 bs2=>∃r os' c',post r os' c'∧r2=(r.fl t).shift os.length∧os2=os++os'∧bs2=bs.set kc (c'.map (AC.fl t))):=by
 subst hc;intro B Xs G w0 fr E a w vs hR hv;cases vs with
 |nil=>exact hv.elim
 |cons pv vs=>
 obtain⟨⟨p,hp,rfl⟩,hv⟩:=hv;obtain⟨b,ty⟩:=p;have hpM:b∈E.M:=iE.2 (v_ ⟨kc,_,hp,rfl⟩);obtain⟨hBb,us,hrow,hok⟩:=hR.box kc c0 (b,ty) hk hp;simp only at hBb hrow;have hbH:b<w.heap.size:=hrow.lt;obtain⟨X1,hX1,hcu⟩:=GZ (H:=w.heap.size) (p:=(b,ty)) t hpM hc0 hok;obtain⟨F,hF1,hF2⟩:=Ho ha hn hv;obtain⟨X,hXe⟩:∃X,X=X1++F:=⟨_,rfl⟩
 have hX:∀x∈X,x∉E.M∧x<w.heap.size∧(t=true→E.nw x):=fun x hx=>by
  rw[hXe]at hx;rcases o_.1 hx with hx|hx
  ·exact hX1 x hx
  ·exact⟨(hF2 x hx).2.1,(hF2 x hx).1,(hF2 x hx).2.2⟩
 have hcu':Oks ⟨w.heap.size,[],[(b,ty)],X⟩ [] w (c0.map (AC.fl true)) us:=Oks.Es (fun x hx=>by rw[hXe];exact u_ _ hx) hcu;have hav:=JG (H:=w.heap.size) (p:=(b,ty)) (X:=X) (F:=F) (fun x hx=>⟨by rw[hXe];exact r_ _ hx,fun e=>(hF2 x hx).2.1 (e▸hpM)⟩) hF1;have hT:BelowT b w w:=⟨Below.refl _ _,fun w' hb'=>hR.below.tab w' (hb'.mono hBb)⟩
 refine(h w b ty us vs X hT (fun x hx=>⟨fun e=>(hX x hx).1 (e▸hpM),(hX x hx).2.1⟩) hrow hcu' hav).mono ?_;rintro e w' ⟨v,om,r,os',c',us',hpost,hr,hc',rfl,ho,hrok,hrow',hcok,hbel,hsame⟩
 
 obtain⟨w1,e1,e2⟩:∃w1:World,w1={w' with heap:=w'.heap.setIfInBounds b (.cells us.toArray ty (0,0))}∧True:=⟨_,rfl,trivial⟩
 have hsz:w1.heap.size=w'.heap.size:=by rw[e1];simp
 have hother:∀x,x≠b→w1.heap[x]? =w'.heap[x]? :=fun x hx=>by rw[e1];simp only;rw[Array.getElem?_setIfInBounds_ne (Ne.symm hx)]
 have hself:w1.heap[b]? =some (.cells us.toArray ty (0,0)):=by
  rw[e1];exact Array.getElem?_setIfInBounds_self_of_lt (hrow'.lt)
 have hB1:Below w.heap.size w w1:=by
  refine⟨by rw[e1];exact hbel.os,by rw[e1];exact hbel.tape,by rw[e1];exact hbel.output,by rw[hsz];exact hbel.size,fun x hx=> ?_⟩;by_cases e:x=b
  ·subst e;exact hself.trans hrow.symm
  ·rw[hother x e];exact hsame x hx e
 have ho1:nY w.heap.size w1 om os':=wE ho (fun x hx=>hother x (by omega)) (a_v hsz.symm);have hA:=hR.here;have hH:∀x∈E.M,x<w.heap.size:=fun x hx=>(sJ hR hx).2
 have hn:∀x,w.heap.size≤x→E.nw x:=fun x hx=>hR.rM (n_ hR.base hx)
 have hol:E.om.length=os.length:=hR.olen;have hB:=hA.uD (x:= .any) (u:=undef) hB1 ho1 none (fun _ _ _ _=>trivial);have hM2:∀x,x∈({E with om:=E.om++om}:Env).M↔x∈E.M∨x∈om.flatMap fun q=>q.1.ownBlock.toList:=fun x=>kZ E om
 have hsz':w'.heap.size=w1.heap.size:=hsz.symm;have hC:=hB.Gi (k:=kc) (p:=(b,ty)) (w':=w') (ys:=c'.map (AC.fl t)) (us:=us') hk hp
  (by have:=qy (os:=os) (w1:=w1) (E':={E with om:=E.om++om}) (t:=t) hpM (fun x hx=>⟨(hX x hx).1,(hX x hx).2.2⟩) hH hn hM2 rfl rfl hol hother (a_v hsz') (vM hc') hcok
      rwa[o9 hc']at this) hsz' (by rw[e1];exact⟨rfl,rfl,rfl⟩) (fun x hx=>(hother x hx).symm) hrow' none (x:= .any) (v:=undef) trivial
 refine⟨v,_,_,_,_,⟨r,os',c',hpost,rfl,rfl,rfl⟩,rfl,hC, ?_⟩;exact Fq (w1:=w') hpM (fun x hx=>⟨(hX x hx).1,(hX x hx).2.2⟩) hH hn hM2 rfl rfl hol (fun _ _=>rfl) (j_ _) hr hrok
end
theorem JH{os:List Own}{xs:List AV}{ds:List D}(h:aO os xs ds:=by first|exact⟨⟨rfl,rfl⟩,trivial⟩|exact trivial|exact⟨⟨rfl,rfl⟩,⟨rfl,rfl⟩,trivial⟩|exact⟨⟨rfl,rfl⟩,⟨rfl,rfl⟩,⟨rfl,rfl⟩,trivial⟩|(simp[St.ev,List.map_cons,List.map_nil,List.getD_cons_zero,List.getD_cons_succ,aO,ku,fV,jM,AC.toD,aI,aA,aB,aH,Value.oneCell',gW,dn,iy,iw,iZ,dP,ji,jh,pW,pX,vH,vG,JZ,AV.fl,AC.fl,AV.shift,AC.shift,List.append_nil];first|done|rfl)):aO os xs ds:=h
section
variable{P:Program}{K:St→Prop}{d:Option Nat}{f:Nat}{ys:List AV}{rest:List IOp}{st:St}{ds:List D}
theorem SB{r:AV}(ha:aO st.owns ys ds:=by exact JH)(hr:r.res:=by trivial)(hc:aF P f ds r)(h:sw P K rest (st.put d r)):kP P K d f ys rest st:=PK hc hr ha h
theorem QM{m:Bool}{r:AV}(ha:aO (mo m st) ys ds:=by exact JH)(hr:r.res:=by trivial)(hc:aF P f ds r)(h:sd P m K rest (st.put d r)):oU P m K d f ys rest st:=Ll hc hr ha h
theorem SA{post:AV→List Own→Prop}(ha:aO st.owns ys ds:=by exact JH)(h:jH P f ds post)
 (hK:∀r os',post r os'→sw P K rest (St.put ⟨st.fr,st.owns++os',st.boxes⟩ d (r.shift st.owns.length))):kP P K d f ys rest st:=by
 refine Tz (h.toE ha) ?_;rintro _ _ _ ⟨r,os',hp,rfl,rfl,rfl⟩;exact hK r os' hp
end
section
variable{P:Program}{kc:Nat}{m:Bool}{Ts:List Nat}{K:St→Prop}{d:Option Nat}{f:Nat}{xs:List Opd}{rest:List IOp}{st:St}{ds:List D}
theorem RJ{xs:List Opd}(h:sn P kc m Ts K (⟨d,none,.call f xs⟩::rest) st):sn P kc m Ts K (⟨d,none,.call f xs⟩::rest) st:=h
theorem TN{pst:AV→List Own→Prop}(ha:aO st.owns (xs.map st.ev) ds:=by exact JH)(h:jH P f ds pst)(hne:∃r os',pst r os'∧r.out=true)(hm:∀r os',pst r os'→m=false→os'= []:=by first|(rintro _ _ ⟨_,h⟩ _;exact h)|(intro _ _ _ hm;cases hm))
 (hr:∀r os',pst r os'→sn P kc m Ts K rest (St.put ⟨st.fr,st.owns++os',st.boxes⟩ d (r.shift st.owns.length))):sn P kc m Ts K (⟨d,none,.call f xs⟩::rest) st:=
 Qd h ha hne hm hr
end
def AC.rel(k v:Nat)(n:Bool)(l:List D):AC→AC
 | .own j i=>if j=k∧i=v then .sl n l else .own j i
 |x=>x
def AV.rel(k v:Nat)(n:Bool)(l:List D):AV→AV
 | .c g xs=> .c g (xs.map (AC.rel k v n l))
 |x=>x
def St.rel(st:St)(k:Nat)(o:Own):St:=⟨st.fr.map (AV.rel k o.ver o.nw.n o.l),bD st.owns k,st.boxes.map (List.map (AC.rel k o.ver o.nw.n o.l))⟩
section
variable{P:Program}{B:Nat}{Xs:List Nat}{G:Org}{w0:World}{st:St}{E:Env}{a:Act}{w:World}
end
theorem pkZ :type_of% (TU @iq.eq_1 (TU @iq.eq_2 (TU @iU.eq_1 (TU @iU.eq_2 (TU @aX.eq_1 (TU @aX.eq_2 (TU @bD.eq_1 (TU @St.put.eq_1 (TU @St.put.eq_2 (TU @St.ev.eq_1 (TU @St.ev.eq_2 (TU @gI.eq_1 (TU @gI.eq_2 (TU @jF.eq_1 (TU @jF.eq_2 (TU @D.ones.eq_1 (TU @D.ones.eq_2 (TU @D.szs.eq_1 (TU @D.szs.eq_2 (TU @undef.eq_1 (TU @aI (TU @aA (TU @aB (TU @aH (TU @aV (@aP)))))))))))))))))))))))))):=TU @iq.eq_1 (TU @iq.eq_2 (TU @iU.eq_1 (TU @iU.eq_2 (TU @aX.eq_1 (TU @aX.eq_2 (TU @bD.eq_1 (TU @St.put.eq_1 (TU @St.put.eq_2 (TU @St.ev.eq_1 (TU @St.ev.eq_2 (TU @gI.eq_1 (TU @gI.eq_2 (TU @jF.eq_1 (TU @jF.eq_2 (TU @D.ones.eq_1 (TU @D.ones.eq_2 (TU @D.szs.eq_1 (TU @D.szs.eq_2 (TU @undef.eq_1 (TU @aI (TU @aA (TU @aB (TU @aH (TU @aV (@aP)))))))))))))))))))))))))
section
variable{P:Program}{B:Nat}{Xs:List Nat}{G:Org}{w0:World}{st:St}{E:Env}{a:Act}{w:World}
theorem Ja{os:List Own}{x:AC}{u:Value}:∀{xs:List AC} {vs:List Value} {j:Nat},Oks E os w xs vs→(∀v,vs[j]? =some v→x.ok E os w v)→Oks E os w (xs.set j x) vs
 | [],[],_,_,_=>trivial
 |y::xs,v::vs,0,h,hx=>⟨hx v rfl,h.2⟩
 |y::xs,v::vs,j+1,h,hx=>⟨h.1,Ja (u:=u) h.2 (fun z hz=>hx z (by simpa using hz))⟩
 | [],_::_,_,h,_=>h.elim
 |_::_,[],_,h,_=>h.elim
theorem Jb{os:List Own}{x:AC}:∀{xs:List AC} {vs:List Value} {j:Nat},Oks E os w xs vs→xs[j]? =some x→∀v,vs[j]? =some v→x.ok E os w v
 | [],[],_,_,hx,_,_=>by simp at hx
 | y::xs,v::vs,0,h,hx,z,hz=>by
   simp at hx hz;subst hx hz;exact h.1
 |y::xs,v::vs,j+1,h,hx,z,hz=>Jb h.2 (by simpa using hx) z (by simpa using hz)
 | [],_::_,_,h,_,_,_=>h.elim
 |_::_,[],_,h,_,_,_=>h.elim
def St.Ep(st:St)(kb j e s:Nat)(m:Bool):St:=⟨st.fr,st.owns++ [⟨[],e,s,0,⟨true,m⟩⟩],st.boxes.set kb ((st.boxes.getD kb []).set j (.own st.owns.length 0))⟩
theorem Rel.Ep(h:Rel B Xs G w0 st E a w){kb j e s:Nat}{m:Bool}{xs:List AC}(hb:st.boxes[kb]? =some xs)(hx:xs[j]? =some (.raw (.slice none 0 0))):
 Rel B Xs G w0 (st.Ep kb j e s m) {E with om:=E.om++ [(.slice none 0 0,[])]} a w:=by
 have h1:Rel B Xs G w0 ⟨st.fr,st.owns++ [⟨[],e,s,0,⟨true,m⟩⟩],st.boxes⟩ {E with om:=E.om++ [(.slice none 0 0,[])]} a w:=
  Rel.uD (fr:=st.fr) (os:=st.owns) (bs:=st.boxes) (x:= .any) (u:=undef) h (Below.refl _ _)
   ⟨rfl,fun k o p hk hp=>by
     cases k with
     | zero=>
       simp at hk hp;subst hk hp;exact⟨[],aK.nil,⟨rfl,rfl⟩,fun d hd=>by simp at hd,fun b hb=>by simp at hb⟩
     |succ k=>simp at hk,by simp[Value.ownBlock],Lin.one (fun _=>O_),Unf.one (fun _ b hb=>by simp at hb)⟩ none (fun _ _ _ _=>trivial)
 have hol:=h.olen;exact
  { eb:=h1.eb,ex:=h1.ex,sim:=h1.sim,defers:=h1.defers,size:=h1.size,fr:=h1.fr,olen:=h1.olen,own:=h1.own
    blen:=by rw[h1.blen];simp[St.Ep]
    box:=fun k ys p hy hp=>by
     by_cases e1:kb=k
     ·subst e1;have hlt:kb<st.boxes.length:=(b_.1 hb).1;simp only[St.Ep]at hy;rw[A_ hlt]at hy;injection hy with hy
      subst hy;have hg:st.boxes.getD kb []=xs:=by rw[c_,hb];rfl
      rw[hg];obtain⟨g1,vs,g2,g3⟩:=h1.box kb xs p hb hp;refine⟨g1,vs,g2,Ja (u:=undef) g3 fun v hv=> ?_⟩;have hv2:v= .slice none 0 0:=Jb g3 hx v hv;subst hv2;have e2:(st.owns++ [(⟨[],e,s,0,⟨true,m⟩⟩:Own)])[st.owns.length]? =some ⟨[],e,s,0,⟨true,m⟩⟩:=by rw[G_ (j_ _)];simp
      have e3:(E.om++ [(Value.slice none 0 0,([]:List Nat))])[st.owns.length]? =some (.slice none 0 0,[]):=by rw[G_ (by omega),hol];simp
      exact⟨⟨none,0,0,rfl⟩,⟨[],e,s,0,⟨true,m⟩⟩,(.slice none 0 0,[]),e2,e3,j_ _,fun _=>rfl⟩
     ·simp only[St.Ep]at hy;rw[C_ e1]at hy;exact h1.box k ys p hy hp
    nodup:=h1.nodup,lin:=h1.lin,unf:=h1.unf,below:=h1.below,base:=h1.base}
theorem PL{lo:Nat×Nat}{c:IC}{Q:Exit→St→Prop}(kb j e s:Nat)(m:Bool){xs:List AC}(hb:st.boxes[kb]? =some xs)(hx:xs[j]? =some (.raw (.slice none 0 0)))(h:iV lo P c Q (st.Ep kb j e s m)):iV lo P c Q st:=
 fun code hc B Xs G w0 hG E a w hR=>h code hc B Xs G w0 hG _ a w (hR.Ep hb hx)
def KF(os:List Own)(k:Nat):List Own:=match os[k]? with|some o=>os.set k ⟨o.l,o.e,o.s,o.ver,⟨true,true⟩⟩|none=>os
theorem Rel.TQ(h:Rel B Xs G w0 st E a w)(k:Nat)(hb:∀o,st.owns[k]? =some o→mZ o.l):Rel B Xs G w0 ⟨st.fr,KF st.owns k,st.boxes⟩ E a w:=by
 unfold KF;cases ho:st.owns[k]? with
 |none=>exact h
 | some o=>
   have hlt:k<st.owns.length:=(b_.1 ho).1;have hlt2:k<E.om.length:=by rw[h.olen];exact hlt
   have hget:∀(j:Nat) (o':Own),(st.owns.set k ⟨o.l,o.e,o.s,o.ver,⟨true,true⟩⟩)[j]? =some o'→∃o2,st.owns[j]? =some o2∧o'.l=o2.l∧o'.e=o2.e∧o'.s=o2.s∧o'.ver=o2.ver∧(o'.nw.n=o2.nw.n∨mZ o'.l):=fun j o' hj=>by
    by_cases e1:k=j
    ·subst e1;rw[A_ hlt]at hj;injection hj with hj
     subst hj;exact⟨o,ho,rfl,rfl,rfl,rfl,p_ (hb o ho)⟩
    ·rw[C_ e1]at hj;exact⟨o',hj,rfl,rfl,rfl,rfl,v_ rfl⟩
   have hS:Sim E st.owns w E (st.owns.set k ⟨o.l,o.e,o.s,o.ver,⟨true,true⟩⟩) w:=
    { base:=rfl,size:=j_ _,blk:=fun b _ _=>rfl,old:=fun b _ hm=>hm,box:=fun j p hp=>hp
      own:=fun j o' p hj hp=>by
       by_cases e1:k=j
       ·subst e1;rw[ho]at hj;injection hj with hj
        subst hj;exact⟨_,p,A_ hlt,hp,j_ _,fun _=>⟨rfl,rfl⟩⟩
       ·exact⟨o',p,by rw[C_ e1];exact hj,hp,j_ _,fun _=>⟨rfl,rfl⟩⟩}
   have hnil:∀p,E.om[k]? =some p→p.2= []:=fun p hp=>by
    obtain⟨cs,_,h2,_⟩:=h.own k o p ho hp;exact hb o ho _ _ _ h2
   have hp0:=a_ hlt2;have hset:E.om.set k E.om[k]=E.om:=List.set_getElem_self hlt2;exact
    { eb:=h.eb,ex:=h.ex,sim:=h.sim.trans hS,defers:=h.defers,size:=h.size
      fr:=fun t y hy=>(h.fr t y hy).sim hS
      olen:=by simp[h.olen]
      own:=fun j o' p hj hp=>by
       obtain⟨o2,g1,g2,g3,g4,g5,g6⟩:=hget j o' hj;obtain⟨cs,k1,k2,k3,k4⟩:=h.own j o2 p g1 hp;refine⟨cs,by rw[g2,g3,g4];exact k1,by rw[g2];exact k2,by rw[g2,g4];exact k3,fun b hb'=> ?_⟩;rcases g6 with g6|g6
       ·rw[g6];exact k4 b hb'
       ·have:=g6 w p.2 cs (by rw[g2];exact k2);rw[this]at hb';simp at hb'
      blen:=h.blen
      box:=fun j ys p hy hp=>by
       obtain⟨g1,vs,g2,g3⟩:=h.box j ys p hy hp;exact⟨g1,vs,g2,g3.sim hS⟩
      nodup:=h.nodup
      lin:=by
       have h9:=h.lin.set (k:=k) (o1:=⟨o.l,o.e,o.s,o.ver,⟨true,true⟩⟩) (q:=E.om[k]) (fun _=>by rw[hnil _ hp0];exact⟨O_,fun _ _ _ _ _ _ _ b hb=>by simp at hb⟩);rwa[hset]at h9
      unf:=by
       have h9:=h.unf.set (k:=k) (o1:=⟨o.l,o.e,o.s,o.ver,⟨true,true⟩⟩) (q:=E.om[k]) (fun _=>by rw[hnil _ hp0];exact fun b hb=>by simp at hb);rwa[hset]at h9
      below:=h.below,base:=h.base}
theorem zA{lo:Nat×Nat}{c:IC}{Q:Exit→St→Prop}(k:Nat){fr0:List AV}{os0:List Own}{bs0:List (List AC)}{os1:List Own}(hb:∀o,os0[k]? =some o→mZ o.l)(he:KF os0 k=os1)(h:iV lo P c Q ⟨fr0,os1,bs0⟩):iV lo P c Q ⟨fr0,os0,bs0⟩:=
 fun code hc B Xs G w0 hG E a w hR=>h code hc B Xs G w0 hG E a w (he▸hR.TQ k hb)
theorem Bc :mZ []:=fun w fp cs h=>h.1
end
theorem szD(xs:Array UInt8):ByteArray.size ⟨xs⟩=xs.size:=rfl
theorem nv{G H:Prop}(k:H)(h:H→G:=by first|(with_reducible first|exact iP|exact eu|exact fO|exact fP|exact iQ|exact nM|exact fG|exact iK|exact bW|exact dW|exact fM|exact dU|exact fH|exact dD|exact dS)|((with_reducible refine dV ?_);rfl)|((with_reducible refine dX ?_);rfl)|((with_reducible refine dZ ?_);rfl)):G:=h k
section
variable{lo:Nat×Nat}{P:Program}{K:St→Prop}{Q:Exit→St→Prop}{st:St}{m:Bool}{F H:Prop}{l:List IOp}
theorem ss(f:F)(k:H)(h:F→(sw P K l st)=H:=by intro f;conv=>lhs;simp(disch:=first|decide|omega) only[↓pkS,pkW,pkA,pkZ,List.flatMap_cons,List.flatMap_nil,List.append_nil,bV,lvD,lcD,lvK,lcK,bQ,ex,kav,gdA,opI,bJ,jy,dh,AV.toD,AC.toD,AV.nw,AC.nw,AC.one,Value.oneCell',if_true,if_false,Bool.false_eq_true,dB,D.one,D.sz,Nat.reduceAdd,Nat.reduceSub,Nat.reduceLeDiff,Nat.reduceEqDiff,reduceIte,pkN,JZ,Int.reduceLT,Int.reduceLE,AV.fl,AC.fl,AV.shift,AC.shift,szD,List.size_toArray,ByteArray.size_append,sZ,eqV,eqC,f]):sw P K l st:=(h f).mpr k
theorem nN{G:Prop}(k:H)(h:H→G:=by intro k;first|((with_reducible refine Qg ?_ k);(intro off;simp only[↓pkR,St.ev,List.getD_cons_zero,List.getD_cons_succ];first|done|(intro hx;cases hx)|(simp;done)))|((with_reducible refine Qe ?_ k);rfl)|((with_reducible refine MF ?_ k);rfl)|(with_reducible exact Qh k)):G:=h k
theorem rD{G:Prop}(k:H)(h:H→G:=by intro k;first|(with_reducible exact JF k)|((with_reducible refine uw false ?_ k);rfl)|((with_reducible refine uw true ?_ k);rfl)|((with_reducible refine aW false ?_ k);rfl)|((with_reducible refine aW true ?_ k);rfl)):G:=h k
theorem sS{G:Prop}(f:F)(k:H)(h:F→G=H:=by intro f;conv=>lhs;simp only[undef,stS,st0,stN,D.av,D.avN,iZ,dP,ji,jh,Cj,tJ,vH,vG,JZ,List.map_cons,List.map_nil,List.replicate,List.cons_append,List.nil_append,List.length_cons,List.length_nil,Nat.reduceAdd,Nat.reduceSub,f]):G:=(h f).mpr k
theorem cS{c:Opd}{x y:IC}{b:Bool}{p q:Prop}(hb:st.ev c= .c false [.raw (.bool b)])(h1:b=true→p→iV lo P x Q st)(h2:b=false→q→iV lo P y Q st)(hp:(b=true)=p:=by conv=>lhs;(try simp only[pkC]))(hq:(b=false)=q:=by conv=>lhs;(try simp only[pkC])):iV lo P (.cond c x y) Q st:=
 dY hb (fun h=>h1 h (hp.mp h)) (fun h=>h2 h (hq.mp h))
section
variable{d:Option Nat}{g:Nat}{w b:Bool}{i:I}{rest:List IOp}
theorem gi(k:sw P K (⟨d,some (g,w),i⟩::rest) st):sw P K (⟨d,some (g,w),i⟩::rest) st:=k
theorem gxi(k:sd P m K (⟨d,some (g,w),i⟩::rest) st):sd P m K (⟨d,some (g,w),i⟩::rest) st:=k
theorem gF(k:H)(h:(sw P K rest (st.put d (.c false [.raw undef])))=H:=by conv=>lhs;(try simp only[St.put,undef,pkA,Nat.reduceAdd,Nat.reduceSub,Nat.reduceLeDiff,Nat.reduceEqDiff])):sw P K rest (st.put d (.c false [.raw undef])):=h.mpr k
theorem gS{p q:Prop}(hg:st.fr.getD g .any= .c false [.raw (.bool b)])(h1:b=w→p→sw P K (⟨d,none,i⟩::rest) st)(h2:b= !w→q→sw P K rest (st.put d (.c false [.raw undef])))(hp:(b=w)=p:=by conv=>lhs;(try simp only[pkC]))(hq:(b= !w)=q:=by conv=>lhs;(try simp only[pkC])):
 sw P K (⟨d,some (g,w),i⟩::rest) st:=J3 hg (fun h=>h1 h (hp.mp h)) (fun h=>h2 h (hq.mp h))
theorem gxF(k:H)(h:(sd P m K rest (st.put d (.c false [.raw undef])))=H:=by conv=>lhs;(try simp only[St.put,undef,pkA,Nat.reduceAdd,Nat.reduceSub,Nat.reduceLeDiff,Nat.reduceEqDiff])):sd P m K rest (st.put d (.c false [.raw undef])):=h.mpr k
theorem gxS{p q:Prop}(hg:st.fr.getD g .any= .c false [.raw (.bool b)])(h1:b=w→p→sd P m K (⟨d,none,i⟩::rest) st)(h2:b= !w→q→sd P m K rest (st.put d (.c false [.raw undef])))(hp:(b=w)=p:=by conv=>lhs;(try simp only[pkC]))(hq:(b= !w)=q:=by conv=>lhs;(try simp only[pkC])):
 sd P m K (⟨d,some (g,w),i⟩::rest) st:=J9 hg (fun h=>h1 h (hp.mp h)) (fun h=>h2 h (hq.mp h))
end
end
theorem gq_{G H:Prop}(k:H)(h:H→G:=by intro k;first|((with_reducible refine gi ?_);first|exact uV rfl k|(refine uX rfl ?_;refine gF ?_;exact k))|((with_reducible refine gxi ?_);first|exact uZ rfl k|(refine vg rfl ?_;refine gxF ?_;exact k))):G:=h k
theorem cq_{lo:Nat×Nat}{P:Program}{c:Opd}{x y:IC}{Q:Exit→St→Prop}{st:St}(k:iV lo P (.cond c x y) Q st):iV lo P (.cond c x y) Q st:=k
theorem c2_{G A B:Prop}(a:A)(b:B)(h:A→B→G:=by intro a b;first|(with_reducible exact gS rfl a b)|(with_reducible exact gxS rfl a b)|((with_reducible refine cq_ ?_);(fail_if_success refine nv ?_);with_reducible exact cS rfl a b)):G:=h a b
theorem ca_{G A B:Prop}(a:A)(b:B)(h:A→B→G:=by intro a b;with_reducible exact LD a b):G:=h a b
theorem hq_{G H:Prop}(k:H)(h:H→G:=by intro k;with_reducible exact hK _ k):G:=h k
theorem rg_{G H:Prop}(k:H)(h:H→G:=by intro k;first|(with_reducible exact JF k)|((with_reducible refine uw false ?_ k);rfl)|((with_reducible refine uw true ?_ k);rfl)):G:=h k
section
variable{P:Program}{K:St→Prop}{st:St}{m:Bool}{l:List IOp}
theorem TM{H:Prop}(h:sw P K l st=H):sw P K l st=H:=h
theorem TP{H:Prop}(h:sd P m K l st=H):sd P m K l st=H:=h
end
theorem sz_{G H F:Prop}(f:F)(k:H)(h:F→G=H:=by intro f;first|((with_reducible apply TM);conv=>lhs;simp(disch:=first|decide|omega) only[↓pkS,pkW,pkA,pkZ,List.flatMap_cons,List.flatMap_nil,List.append_nil,bV,lvD,lcD,lvK,lcK,bQ,ex,kav,gdA,opI,bJ,jy,dh,AV.toD,AC.toD,AV.nw,AC.nw,AC.one,Value.oneCell',if_true,if_false,Bool.false_eq_true,dB,D.one,D.sz,Nat.reduceAdd,Nat.reduceSub,Nat.reduceLeDiff,Nat.reduceEqDiff,reduceIte,pkN,JZ,Int.reduceLT,Int.reduceLE,AV.fl,AC.fl,AV.shift,AC.shift,szD,List.size_toArray,ByteArray.size_append,sZ,eqV,eqC,f])|((with_reducible apply TP);conv=>lhs;simp(disch:=first|decide|omega) only[↓pkR,pkD,pkA,pkZ,List.flatMap_cons,List.flatMap_nil,List.append_nil,bV,lvD,lcD,lvK,lcK,bQ,ex,kav,gdA,opI,bJ,jy,dh,AV.toD,AC.toD,AV.nw,AC.nw,AC.one,Value.oneCell',if_true,if_false,Bool.false_eq_true,dB,D.one,D.sz,Nat.reduceAdd,Nat.reduceSub,Nat.reduceLeDiff,Nat.reduceEqDiff,reduceIte,pkN,JZ,Int.reduceLT,Int.reduceLE,AV.fl,AC.fl,AV.shift,AC.shift,szD,List.size_toArray,ByteArray.size_append,sZ,eqV,eqC,f])):G:=(h f).mpr k
theorem cg_{G:Prop}(k:G)(h:G→G:=by intro k;first|(with_reducible exact Rt k)|(with_reducible exact Pz k)):G:=h k
theorem cT_{G H:Prop}{P:Program}{f:Nat}{ds:List D}{r:AV}(hc:aF P f ds r)(k:H)(h:aF P f ds r→H→G:=by intro hc k;first|((with_reducible refine Rt ?_);exact SB (hc:=hc) (h:=k))|((with_reducible refine Pz ?_);exact QM (hc:=hc) (h:=k))):G:=h hc k
theorem bq_{G:Prop}(h:G:=by first|(first|(with_reducible rfl)|(with_reducible refine iL ?_;kernel_rfl)|exact gq _|exact fK _|exact el_ln _|exact el_tk _ _|exact el_td _ _ _|omega|(simp;done)|(simp;omega))|((with_reducible refine iR ?_);first|exact⟨⟨rfl,rfl⟩,trivial⟩|exact trivial|exact⟨⟨rfl,rfl⟩,⟨rfl,rfl⟩,trivial⟩|exact⟨⟨rfl,rfl⟩,⟨rfl,rfl⟩,⟨rfl,rfl⟩,trivial⟩|(simp[St.ev,List.map_cons,List.map_nil,List.getD_cons_zero,List.getD_cons_succ,aO,ku,fV,jM,AC.toD,aI,aA,aB,aH,Value.oneCell',gW,dn,iy,iw,iZ,dP,ji,jh,pW,pX,vH,vG,JZ,AV.fl,AC.fl,AV.shift,AC.shift,List.append_nil];first|done|rfl))):G:=h
theorem a3_{A B C:Prop}(a:A)(b:B)(c:C):A∧(B∧C):=⟨a,b,c⟩
theorem a4_{A B C D:Prop}(a:A)(b:B)(c:C)(d:D):A∧(B∧(C∧D)):=⟨a,b,c,d⟩
theorem a5_{A B C D E:Prop}(a:A)(b:B)(c:C)(d:D)(e:E):A∧(B∧(C∧(D∧E))):=⟨a,b,c,d,e⟩
theorem a6_{A B C D E F:Prop}(a:A)(b:B)(c:C)(d:D)(e:E)(f:F):A∧(B∧(C∧(D∧(E∧F)))):=⟨a,b,c,d,e,f⟩
def zz_(d:Nat)(i:I):IOp:=⟨some d,none,i⟩
def zy_(d t:Nat)(i:I):IOp:=⟨some d,some (t,true),i⟩
def zx_(d t:Nat)(i:I):IOp:=⟨some d,some (t,false),i⟩
def zw_(d a:Nat):IOp:=⟨some d,none,.mov (.t a)⟩
def zv_(d t a:Nat):IOp:=⟨some d,some (t,true),.mov (.t a)⟩
def zu_(d t a:Nat):IOp:=⟨some d,some (t,false),.mov (.t a)⟩
def zt_(d k a:Nat):IOp:=⟨some d,none,.fad k (.t a)⟩
def zs_(d k a:Nat):IOp:=⟨some d,none,.load k false (.t a)⟩
def zr_(d k a:Nat):IOp:=⟨some d,none,.load k true (.t a)⟩
def zq_(d f a:Nat):IOp:=⟨some d,none,.call f [.t a]⟩
def zp_(d f a b:Nat):IOp:=⟨some d,none,.call f [.t a,.t b]⟩
def zo_(d f a b c:Nat):IOp:=⟨some d,none,.call f [.t a,.t b,.t c]⟩
def zn_(d f a:Nat)(z:Int):IOp:=⟨some d,none,.call f [.t a,.k (.int .i64 z)]⟩
def zm_(d:Nat)(o:BinOp)(a:Nat)(z:Int):IOp:=⟨some d,none,.bin o (.t a) (.k (.int .i64 z))⟩
def zl_(d:Nat)(o:BinOp)(a b:Nat):IOp:=⟨some d,none,.bin o (.t a) (.t b)⟩
def zk_(d:Nat)(z:Int):IOp:=⟨some d,none,.mov (.k (.int .i64 z))⟩
def zj_(d:Nat)(v:Bool):IOp:=⟨some d,none,.mov (.k (.bool v))⟩
def zi_(d a:Nat):IOp:=⟨some d,none,.nck (.t a)⟩
def zh_(d a b:Nat)(v:Bool):IOp:=⟨some d,none,.pick (.t a) (.t b) (.k (.bool v))⟩
def zg_(d a:Nat)(v:Bool)(b:Nat):IOp:=⟨some d,none,.pick (.t a) (.k (.bool v)) (.t b)⟩
def zf_(d:Nat)(v:Bool)(a:Nat):IOp:=⟨some d,none,.len v (.t a)⟩
def ze_(d k a b:Nat):IOp:=⟨some d,none,.iad k (.t a) (.t b)⟩
def zd_(l:List IOp)(x:IC):IC:= .seq (.reg false l) x
def zc_(n:Nat)(v:Bool)(y:IC):IC:= .seq (.reg false [⟨some n,none,.mov (.k (.bool v))⟩]) y
theorem zb_{G H:Prop}(k:H)(h:G=H:=by conv=>lhs;dsimp only[zz_,zy_,zx_,zw_,zv_,zu_,zt_,zs_,zr_,zq_,zp_,zo_,zn_,zm_,zl_,zk_,zj_,zi_,zh_,zg_,zf_,ze_,zd_,zc_]):G:=h.mpr k
theorem za_{a b:Int}(h:a≠b):(a==b)=false:=beq_false_of_ne h
end Go.Proofs.Ytagaefgglphkgaa
