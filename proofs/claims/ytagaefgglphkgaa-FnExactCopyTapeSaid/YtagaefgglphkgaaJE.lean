/-
  Texts joined: IrE IrF IrT Ty IrG IrL IrS IrW IrR IrN IrU IrV IrX IrY.
-/
import Derived.Test.YtagaefgglphkgaaJD
import Derived.Test.YtagaefgglphkgaaJA
set_option linter.unusedSimpArgs false
set_option linter.unusedVariables false
namespace Go.Proofs.Ytagaefgglphkgaa
open Go.RowKit
open List renaming getElem?_eq_getElem→a_,getElem?_eq_some_iff→b_,getD_eq_getElem?_getD→c_,getElem?_take→e_,mem_map→f_,getElem?_append_left→g_,mem_flatMap→i_,mem_of_getElem? →k_,all_cons→l_,mem_append→o_,nodup_append→p_,getElem?_map→s_,length_cons→t_,getElem?_set_self→u_,mem_append_right→v_,all_eq_true→w_,mem_append_left→x_,cons_append→B_,getElem?_set_ne→C_,getElem?_append_right→G_,take_sublist→H_,flatMap_cons→I_,getElem?_cons_zero→J_,getElem?_cons_succ→K_,length_map→L_,nil_append→M_,replicate→O_,nodup_nil→P_,map_cons→R_,map_congr_left→S_,getD_cons_zero→T_,getD_cons_succ→U_,take_succ_cons→V_,drop_succ_cons→W_,map_nil→X_,set_cons_zero→Y_,set_cons_succ→Z_,length_take→a_f,length_nil→a_h,take_zero→a_k,drop_zero→a_l,take_nil→a_m,drop_nil→a_n,flatMap→a_r,all_nil→a_u
open Bool renaming and_eq_true→d_,not_false→D_,not_true→F_,not_eq_eq_eq_not→Q_,false_eq_true→a_a,not_eq_false'→a_c,not_eq_true'→a_e,and_true→a_o,true_and→a_p,and_self→a_q
open Option renaming map_eq_some_iff→h_,getD_some→n_,map_some→N_,getD_none→a_g,map_none→a_i
open Value renaming oneCell'→j_
open Nat renaming le_refl→m_,le_trans→q_,zero_le→A_,lt_of_lt_of_le→E_,zero_add→a_s,add_zero→a_t,le_of_eq→a_v
open Or renaming inr→r_,inl→y_
open Option.some renaming injEq→z_
inductive IC where
 |reg (dr:Bool) (ops:List IOp)
 |regN (b s:Bool) (Ts:List Nat) (ops:List IOp)
 |seq (x y:IC)
 |cond (c:Opd) (x y:IC)
 |block (id:Nat) (x:IC)
 |loop (x:IC)
 |exit (id:Nat)
 |ret
 |skip
def Rf(is:List IOp):List Nat:=(is.filterMap fun o=>mQ o.i).filter fun t=>is.all fun o=>match o.d with|some u=>u !=t|none=>true
def TV(is:List IOp):Bool:=is.any fun o=>match o.i with
 | .store _ (.t x) _=>is.any fun q=>q.d==some x && (match q.i with
   | .iad .. =>true
   | .fad _ (.t y)=>is.any fun r=>r.d==some y && (match r.i with| .iad .. =>true|_=>false)
   |_=>false)
 |_=>false
def SS(is:List IOp):Bool:=(is.any fun o=>match o.i with| .brow false .. =>true|_=>false) && (is.any fun o=>match o.i with| .app .. =>true|_=>false)
def PS(ops:List Oper)(Ts:List Nat)(is:List IOp):IC:= .regN (sO ops is) (SS is && oW (1000001::Ts) ops is) Ts is
def QF(ops:List Oper)(is:List IOp):Option IC:=
 if(sO ops is && !(is.any fun o=>o.i.isC)) && !TV is then(if SS is && oW [] ops is then some (PS ops [] is)else some (.reg true is))
 else if oW [] ops is then some (PS ops [] is)
 else if oW (Rf is) ops is then some (PS ops (Rf is) is)
 else if sO ops is then some (.reg true is)
 else if oW (1000000::Rf is) ops is then some (PS ops (1000000::Rf is) is)else none
theorem lI{ops:List Oper}{is:List IOp}{c:IC}(h:QF ops is=some c):(c= .reg true is∧sO ops is=true)∨∃Ts s,c= .regN (sO ops is) s Ts is∧oW Ts ops is=true∧(s=true→oW (1000001::Ts) ops is=true):=by
 have hn:∀Ts,oW Ts ops is=true→∃Ts' s,PS ops Ts is= .regN (sO ops is) s Ts' is∧oW Ts' ops is=true∧(s=true→oW (1000001::Ts') ops is=true):=fun Ts h=>
  ⟨Ts,_,rfl,h,fun h1=>by rw[d_]at h1;exact h1.2⟩
 unfold QF at h;split at h
 ·next h1=>
  simp only[d_]at h1;split at h
  ·next h2=>injection h with h;rw[d_]at h2;exact r_ (h▸hn _ h2.2)
  ·injection h with h;exact y_ ⟨h.symm,h1.1.1⟩
 ·split at h
  ·next h1=>injection h with h;exact r_ (h▸hn _ h1)
  ·split at h
   ·next h1=>injection h with h;exact r_ (h▸hn _ h1)
   ·split at h
    ·next h1=>injection h with h;exact y_ ⟨h.symm,h1⟩
    ·split at h
     ·next h1=>injection h with h;exact r_ (h▸hn _ h1)
     ·cases h
def au(P:Program):Code→Option IC
 | .region id ops false=>(jZ P ops ops.toList).map (IC.reg false)
 | .region id ops true=>(match jZ P ops ops.toList with|some is=>if P.follows .mixedOrders then QF ops.toList is else none|none=>none)
 | .seq x y=>(match au P x,au P y with|some x,some y=>some (.seq x y)|_,_=>none)
 | .cond c x y=>(match au P x,au P y with|some x,some y=>some (.cond (opd c) x y)|_,_=>none)
 | .block id x=>(au P x).map (IC.block id)
 | .loop x=>(au P x).map IC.loop
 | .exit id=>some (.exit id)
 | .ret=>some .ret
 | .skip=>some .skip
 | .label _=>some .skip
 |_=>none
theorem nK{P:Program}{id:Nat}{ops:Array Oper}{b:Bool}{c:IC}(h:au P (.region id ops b)=some c)(hc:∀d l,c≠ .reg d l)(hn:∀b s T l,c≠ .regN b s T l):False:=by
 cases b with
 | false=>
   simp only[au]at h;obtain⟨l,_,he⟩:=h_.1 h;exact hc _ _ he.symm
 | true=>
   simp only[au]at h;split at h
   ·split at h
    ·rcases lI h with⟨h,_⟩|⟨Ts,s,h,_⟩
     ·exact hc _ _ h
     ·exact hn _ _ _ _ h
    ·cases h
   ·cases h
def jv(lo:Nat×Nat)(P:Program)(c:IC)(Q:Exit→St→Prop)(st:St):Prop:=
 ∀(code:Code),au P code=some c→∀(B:Nat) (Xs:List Nat) (G:Org) (w0:World),(G.os.length≤lo.1∧G.E.bm.length≤lo.2)→∀(E:Env) (a:Act) (w:World),Rel B Xs G w0 st E a w→code.wp P (fun e a' w'=>∃st' E',Rel B Xs G w0 st' E' a' w'∧Q e st') a w
abbrev AWP(P:Program)(c:IC)(Q:Exit→St→Prop)(st:St):Prop:=jv (0,0) P c Q st
def Fq(lo:Nat×Nat)(P:Program)(y:IC)(Q:Exit→St→Prop):Exit→St→Prop
 | .normal,st=>jv lo P y Q st
 |e,st=>Q e st
def xY(id:Nat)(Q:Exit→St→Prop):Exit→St→Prop
 | .exit id',st=>if id'=id then Q .normal st else Q (.exit id') st
 |e,st=>Q e st
section
variable{lo:Nat×Nat}{P:Program}{Q:Exit→St→Prop}{st:St}
theorem dS(h:Q .normal st):jv lo P .skip Q st:=fun code hc B Xs G w0 hG E a w hR=>by
 cases code with
 |skip=>exact wp_skip ⟨st,E,hR,h⟩
 |label l=>exact wp_label ⟨st,E,hR,h⟩
 |region id ops b=>exact(nK hc (by simp) (by simp)).elim
 |seq x y=>simp only[au]at hc;split at hc<;>simp at hc
 |cond c x y=>simp only[au]at hc;split at hc<;>simp at hc
 |block id x=>simp[au]at hc
 |loop x=>simp[au]at hc
 |exit id=>simp[au]at hc
 |ret=>simp[au]at hc
 |rangeFunc=>simp[au]at hc
 |scope=>simp[au]at hc
 |goto=>simp[au]at hc
 |refuse=>simp[au]at hc
theorem dU{id:Nat}(h:Q (.exit id) st):jv lo P (.exit id) Q st:=fun code hc B Xs G w0 hG E a w hR=>by
 cases code with
 |exit id=>simp[au]at hc;subst hc;exact wp_exit ⟨st,E,hR,h⟩
 |skip=>simp[au]at hc
 |label l=>simp[au]at hc
 |region id ops b=>exact(nK hc (by simp) (by simp)).elim
 |seq x y=>simp only[au]at hc;split at hc<;>simp at hc
 |cond c x y=>simp only[au]at hc;split at hc<;>simp at hc
 |block id x=>simp[au]at hc
 |loop x=>simp[au]at hc
 |ret=>simp[au]at hc
 |rangeFunc=>simp[au]at hc
 |scope=>simp[au]at hc
 |goto=>simp[au]at hc
 |refuse=>simp[au]at hc
theorem fE(h:Q .ret st):jv lo P .ret Q st:=fun code hc B Xs G w0 hG E a w hR=>by
 cases code with
 |ret=>exact wp_ret ⟨st,E,hR,h⟩
 |exit id=>simp[au]at hc
 |skip=>simp[au]at hc
 |label l=>simp[au]at hc
 |region id ops b=>exact(nK hc (by simp) (by simp)).elim
 |seq x y=>simp only[au]at hc;split at hc<;>simp at hc
 |cond c x y=>simp only[au]at hc;split at hc<;>simp at hc
 |block id x=>simp[au]at hc
 |loop x=>simp[au]at hc
 |rangeFunc=>simp[au]at hc
 |scope=>simp[au]at hc
 |goto=>simp[au]at hc
 |refuse=>simp[au]at hc
theorem fD{x y:IC}(h:jv lo P x (Fq lo P y Q) st):jv lo P (.seq x y) Q st:=fun code hc B Xs G w0 hG E a w hR=>by
 cases code with
 | seq cx cy=>
   simp only[au]at hc;split at hc
   ·next x' y' hx hy=>
    simp only[z_,IC.seq.injEq]at hc;obtain⟨rfl,rfl⟩:=hc;refine wp_seq (wp_mono (h cx hx B Xs G w0 hG E a w hR) ?_);rintro e a' w' ⟨st',E',h1,h2⟩;cases e with
    |normal=>exact h2 cy hy B Xs G w0 hG E' a' w' h1
    |_=>exact⟨st',E',h1,h2⟩
   ·cases hc
 |ret=>simp[au]at hc
 |exit id=>simp[au]at hc
 |skip=>simp[au]at hc
 |label l=>simp[au]at hc
 |region id ops b=>exact(nK hc (by simp) (by simp)).elim
 |cond c x y=>simp only[au]at hc;split at hc<;>simp at hc
 |block id x=>simp[au]at hc
 |loop x=>simp[au]at hc
 |rangeFunc=>simp[au]at hc
 |scope=>simp[au]at hc
 |goto=>simp[au]at hc
 |refuse=>simp[au]at hc
theorem Bc{c:Opd}{x y:IC}{b:Bool}(hb:st.ev c= .c false [.raw (.bool b)])(h1:b=true→jv lo P x Q st)(h2:b=false→jv lo P y Q st):jv lo P (.cond c x y) Q st:=fun code hc B Xs G w0 hG E a w hR=>by
 cases code with
 | cond o cx cy=>
   simp only[au]at hc;split at hc
   ·next x' y' hx hy=>
    simp only[z_,IC.cond.injEq]at hc;obtain⟨rfl,rfl,rfl⟩:=hc;have he:=bT hR hb;cases b with
    |true=>exact wp_cond_true he (h1 rfl cx hx B Xs G w0 hG E a w hR)
    |false=>exact wp_cond_false he (h2 rfl cy hy B Xs G w0 hG E a w hR)
   ·cases hc
 |seq x y=>simp only[au]at hc;split at hc<;>simp at hc
 |ret=>simp[au]at hc
 |exit id=>simp[au]at hc
 |skip=>simp[au]at hc
 |label l=>simp[au]at hc
 |region id ops b=>exact(nK hc (by simp) (by simp)).elim
 |block id x=>simp[au]at hc
 |loop x=>simp[au]at hc
 |rangeFunc=>simp[au]at hc
 |scope=>simp[au]at hc
 |goto=>simp[au]at hc
 |refuse=>simp[au]at hc
theorem dA{id:Nat}{x:IC}(h:jv lo P x (xY id Q) st):jv lo P (.block id x) Q st:=fun code hc B Xs G w0 hG E a w hR=>by
 cases code with
 | block id' cx=>
   simp only[au]at hc;obtain⟨x',hx,he⟩:=h_.1 hc;simp only[IC.block.injEq]at he;obtain⟨rfl,rfl⟩:=he;refine wp_block (wp_mono (h cx hx B Xs G w0 hG E a w hR) ?_);rintro e a' w' ⟨st',E',h1,h2⟩;cases e with
   | exit j=>
     simp only[Exit.inBlock,xY]at h2⊢;split
     ·next e=>rw[if_pos e]at h2;exact⟨st',E',h1,h2⟩
     ·next e=>rw[if_neg e]at h2;exact⟨st',E',h1,h2⟩
   |_=>exact⟨st',E',h1,h2⟩
 |cond c x y=>simp only[au]at hc;split at hc<;>simp at hc
 |seq x y=>simp only[au]at hc;split at hc<;>simp at hc
 |ret=>simp[au]at hc
 |exit id=>simp[au]at hc
 |skip=>simp[au]at hc
 |label l=>simp[au]at hc
 |region id ops b=>exact(nK hc (by simp) (by simp)).elim
 |loop x=>simp[au]at hc
 |rangeFunc=>simp[au]at hc
 |scope=>simp[au]at hc
 |goto=>simp[au]at hc
 |refuse=>simp[au]at hc
theorem LH{ops:List IOp}(h:∀K:St→Prop,(∀st',Q .normal st'→K st')→sw P K ops st):jv lo P (.reg false ops) Q st:=fun code hc B Xs G w0 hG E a w hR=>by
 cases code with
 | region id cops b=>
   cases b with
   | true=>
     simp only[au]at hc;split at hc
     ·split at hc
      ·rcases lI hc with⟨hc,_⟩|⟨Ts,s,hc,_⟩<;>simp at hc
      ·cases hc
     ·cases hc
   | false=>
     simp only[au]at hc;obtain⟨l,hl,he⟩:=h_.1 hc;simp only[IC.reg.injEq]at he;obtain⟨_,rfl⟩:=he;exact wp_region_list (wJ (K:=Q .normal) (fun st' E' a' w' h1 h2=>⟨st',E',h1,h2⟩) _ _ st E a w hl hR (h _ fun _ h=>h))
 |block id x=>simp[au]at hc
 |cond c x y=>simp only[au]at hc;split at hc<;>simp at hc
 |seq x y=>simp only[au]at hc;split at hc<;>simp at hc
 |ret=>simp[au]at hc
 |exit id=>simp[au]at hc
 |skip=>simp[au]at hc
 |label l=>simp[au]at hc
 |loop x=>simp[au]at hc
 |rangeFunc=>simp[au]at hc
 |scope=>simp[au]at hc
 |goto=>simp[au]at hc
 |refuse=>simp[au]at hc
theorem vO{ops:List IOp}(m:Bool)(hm:m=ops.any fun o=>o.i.cls==3)(h:∀K:St→Prop,(∀st',Q .normal st'→K st')→sd P m K ops st):jv lo P (.reg true ops) Q st:=fun code hc B Xs G w0 hG E a w hR=>by
 cases code with
 | region id cops b=>
   cases b with
   | false=>
     simp only[au]at hc;obtain⟨l,hl,he⟩:=h_.1 hc;simp at he
   | true=>
     simp only[au]at hc;split at hc
     ·next l hl=>
      split at hc
      ·next hd=>
       rcases lI hc with⟨hc,hb⟩|⟨Ts,s,hc,_⟩
       ·simp only[IC.reg.injEq]at hc;obtain⟨_,rfl⟩:=hc;exact SL (K:=Q .normal) hd hl hb hm (fun st' E' a' w' h1 h2=>⟨st',E',h1,h2⟩) (h _ fun _ h=>h) hR
       ·cases hc
      ·cases hc
     ·cases hc
 |block id x=>simp[au]at hc
 |cond c x y=>simp only[au]at hc;split at hc<;>simp at hc
 |seq x y=>simp only[au]at hc;split at hc<;>simp at hc
 |ret=>simp[au]at hc
 |exit id=>simp[au]at hc
 |skip=>simp[au]at hc
 |label l=>simp[au]at hc
 |loop x=>simp[au]at hc
 |rangeFunc=>simp[au]at hc
 |scope=>simp[au]at hc
 |goto=>simp[au]at hc
 |refuse=>simp[au]at hc
theorem aQ{ops:List IOp}{Ts:List Nat}{s:Bool}(m:Bool)(hm:m=ops.any fun o=>o.i.cls==3)(h:∀K:St→Prop,(∀st',Q .normal st'→K st')→sd P m K ops st):jv lo P (.regN true s Ts ops) Q st:=fun code hc B Xs G w0 hG E a w hR=>by
 cases code with
 | region id cops b=>
   cases b with
   | false=>
     simp only[au]at hc;obtain⟨l,hl,he⟩:=h_.1 hc;simp at he
   | true=>
     simp only[au]at hc;split at hc
     ·next l hl=>
      split at hc
      ·next hd=>
       rcases lI hc with⟨hc,hb⟩|⟨Ts,s,hc,_⟩
       ·cases hc
       ·simp only[IC.regN.injEq]at hc;obtain⟨hb,_,_,rfl⟩:=hc;exact SL (K:=Q .normal) hd hl hb.symm hm (fun st' E' a' w' h1 h2=>⟨st',E',h1,h2⟩) (h _ fun _ h=>h) hR
      ·cases hc
     ·cases hc
 |block id x=>simp[au]at hc
 |cond c x y=>simp only[au]at hc;split at hc<;>simp at hc
 |seq x y=>simp only[au]at hc;split at hc<;>simp at hc
 |ret=>simp[au]at hc
 |exit id=>simp[au]at hc
 |skip=>simp[au]at hc
 |label l=>simp[au]at hc
 |loop x=>simp[au]at hc
 |rangeFunc=>simp[au]at hc
 |scope=>simp[au]at hc
 |goto=>simp[au]at hc
 |refuse=>simp[au]at hc
theorem o7{ops:List IOp}{Ts:List Nat}{b s:Bool}(kc:Nat)(m:Bool)(hD:qE Ts st)(h:∀K:St→Prop,(∀st',Q .normal st'→K st')→sn P kc m Ts K ops st)(hS:IU Ts=true→∀y∈Ts,∀k off,st.ev (.t y)= .bptr k off→k=kc:=by first|(intro h;exact absurd h (by decide))|(simp[IU,St.ev,List.getD_cons_zero,List.getD_cons_succ];done))(hsm:zO Ts=true→m=true:=by first|(intro h;exact absurd h (by decide))|(intro _;rfl)):jv lo P (.regN b s Ts ops) Q st:=fun code hc B Xs G w0 hG E a w hR=>by
 cases code with
 | region id cops b=>
   cases b with
   | false=>
     simp only[au]at hc;obtain⟨l,hl,he⟩:=Option.map_eq_some_iff.1 hc;simp at he
   | true=>
     simp only[au]at hc;split at hc
     ·next l hl=>
      split at hc
      ·next hd=>
       rcases lI hc with⟨hc,hb⟩|⟨Ts,s,hc,hb,hs⟩
       ·cases hc
       ·simp only[IC.regN.injEq]at hc;obtain⟨_,_,rfl,rfl⟩:=hc;exact SK (K:=Q .normal) (kc:=kc) (m:=m) hd hl hb hsm ⟨hD,hS⟩ (fun st' E' a' w' h1 h2=>⟨st',E',h1,h2⟩) (h _ fun _ h=>h) hR
      ·cases hc
     ·cases hc
 |block id x=>simp[au]at hc
 |cond c x y=>simp only[au]at hc;split at hc<;>simp at hc
 |seq x y=>simp only[au]at hc;split at hc<;>simp at hc
 |ret=>simp[au]at hc
 |exit id=>simp[au]at hc
 |skip=>simp[au]at hc
 |label l=>simp[au]at hc
 |loop x=>simp[au]at hc
 |rangeFunc=>simp[au]at hc
 |scope=>simp[au]at hc
 |goto=>simp[au]at hc
 |refuse=>simp[au]at hc
theorem xI{ops:List IOp}{Ts:List Nat}{b:Bool}(kc:Nat)(hD:qE (1000001::Ts) st)(h:∀K:St→Prop,(∀st',Q .normal st'→K st')→sn P kc true (1000001::Ts) K ops st)(hS:IU (1000001::Ts)=true→∀y∈1000001::Ts,∀k off,st.ev (.t y)= .bptr k off→k=kc:=by first|(intro h;exact absurd h (by decide))|(simp[IU,St.ev,List.getD_cons_zero,List.getD_cons_succ];done)):jv lo P (.regN b true Ts ops) Q st:=fun code hc B Xs G w0 hG E a w hR=>by
 cases code with
 | region id cops b=>
   cases b with
   | false=>
     simp only[au]at hc;obtain⟨l,hl,he⟩:=Option.map_eq_some_iff.1 hc;simp at he
   | true=>
     simp only[au]at hc;split at hc
     ·next l hl=>
      split at hc
      ·next hd=>
       rcases lI hc with⟨hc,hb⟩|⟨Ts,s,hc,hb,hs⟩
       ·cases hc
       ·simp only[IC.regN.injEq]at hc;obtain⟨_,h9,rfl,rfl⟩:=hc;exact SK (K:=Q .normal) (kc:=kc) (m:=true) hd hl (hs h9.symm) (fun _=>rfl) ⟨hD,hS⟩ (fun st' E' a' w' h1 h2=>⟨st',E',h1,h2⟩) (h _ fun _ h=>h) hR
      ·cases hc
     ·cases hc
 |block id x=>simp[au]at hc
 |cond c x y=>simp only[au]at hc;split at hc<;>simp at hc
 |seq x y=>simp only[au]at hc;split at hc<;>simp at hc
 |ret=>simp[au]at hc
 |exit id=>simp[au]at hc
 |skip=>simp[au]at hc
 |label l=>simp[au]at hc
 |loop x=>simp[au]at hc
 |rangeFunc=>simp[au]at hc
 |scope=>simp[au]at hc
 |goto=>simp[au]at hc
 |refuse=>simp[au]at hc
theorem AU{st:St}:qE [] st:=fun x hx=>by simp at hx
def AC.fits(n m:Nat):AC→Bool
 | .own k _=>decide (k<n)
 | .osub k _ _ _=>decide (k<n)
 | .cl _ caps=>caps.all fun k=>decide (k<m)
 |_=>true
def AV.fits(n m:Nat):AV→Bool
 | .c _ xs=>xs.all (AC.fits n m)
 | .ptr xs=>xs.all (AC.fits n m)
 | .bptr k _=>decide (k<m)
 | .eptr k _ _ _=>decide (k<n)
 | .tup ys=>ys.all fun y=>y.2.all (AC.fits n m)
 | .any=>true
def gJ(n m:Nat):List AV→List AV→Prop
 | [],[]=>True
 |x::xs,y::ys=>(y= .any∨(x=y∧y.fits n m=true))∧gJ n m xs ys
 |_,_=>False
def QU(st st':St):Prop:=gJ st'.owns.length st'.boxes.length st.fr st'.fr∧(∃r,st.owns=st'.owns++r)∧(∃r,st.boxes=st'.boxes++r)∧∀xs∈st'.boxes,xs.all (AC.fits st'.owns.length st'.boxes.length)=true
def dG :List Own→List Own→Prop
 |_,[]=>True
 |o::os,o'::os'=>(o.l=o'.l∧o.e=o'.e∧o.s=o'.s∧o.ver=o'.ver∧o.nw=o'.nw)∧dG os os'
 | [],_::_=>False
def dI :List (List AC)→List (List AC)→Prop
 |_,[]=>True
 |x::xs,y::ys=>x=y∧dI xs ys
 | [],_::_=>False
def dF(st st':St):Prop:=gJ st'.owns.length st'.boxes.length st.fr st'.fr∧dG st.owns st'.owns∧dI st.boxes st'.boxes∧(st'.boxes.all fun xs=>xs.all (AC.fits st'.owns.length st'.boxes.length))=true
theorem zY :∀{os os':List Own},dG os os'→∃r,os=os'++r
 |os,[],_=>⟨os,rfl⟩
 | o::os,o'::os',h=>by
   obtain⟨r,hr⟩:=zY h.2;obtain⟨⟨h1,h2,h3,h4,h5⟩,_⟩:=h;refine⟨r, ?_⟩;rw[B_,← hr];congr 1;cases o;cases o';simp_all
 | [],_::_,h=>h.elim
theorem AY :∀{xs ys:List (List AC)},dI xs ys→∃r,xs=ys++r
 |xs,[],_=>⟨xs,rfl⟩
 | x::xs,y::ys,h=>by
   obtain⟨r,hr⟩:=AY h.2;exact⟨r,by rw[B_,← hr,h.1]⟩
 | [],_::_,h=>h.elim
theorem JY{st st':St}(h:dF st st'):QU st st':=by
 obtain⟨h1,h2,h3,h4⟩:=h;exact⟨h1,zY h2,AY h3,fun xs hx=>w_.1 h4 xs hx⟩
section
variable{E:Env}{os os':List Own}{w:World}{n m:Nat}
def Env.cut(E:Env)(n m:Nat):Env:={E with om:=E.om.take n,bm:=E.bm.take m}
theorem Lu{b:Nat}(h:b∈(E.cut n m).M):b∈E.M:=by
 rcases gV.1 h with⟨k,p,h1,h2⟩|⟨k,p,h1,h2⟩
 ·refine gV.2 (y_ ⟨k,p, ?_,h2⟩);simp only[Env.cut]at h1;rw[e_]at h1;split at h1
  ·exact h1
  ·cases h1
 ·refine gV.2 (r_ ⟨k,p, ?_,h2⟩);simp only[Env.cut]at h1;rw[e_]at h1;split at h1
  ·exact h1
  ·cases h1
theorem AC.ok.cut{r:List Own}{x:AC}{v:Value}(h:x.ok E (os++r) w v)(hn:os.length=n)(hf:x.fits n m=true):x.ok (E.cut n m) os w v:=by
 cases x with
 |any=>trivial
 |raw u=>exact h
 | cl f caps=>
   obtain⟨ps,h1,h2⟩:=h;refine⟨ps, ?_,h2⟩;rw[← h1];refine S_ fun k hk=> ?_
   have:k<m:=by simpa using w_.1 hf k hk
   simp only[Env.cut];rw[e_,if_pos this]
 | sl b l=>
   obtain⟨fp,h1,h2⟩:=h;exact⟨fp,h1,fun b hb=>⟨fun hm=>(h2 b hb).1 (Lu hm),(h2 b hb).2⟩⟩
 | own k i=>
   obtain⟨hv,o,p,h1,h2,h3,h4⟩:=h;have hk:k<n:=by simpa[AC.fits]using hf
   refine⟨hv,o,p, ?_, ?_,h3,h4⟩
   ·rwa[g_ (by omega)]at h1
   ·simp only[Env.cut];rw[e_,if_pos hk];exact h2
 | osub k i pa pb=>
   obtain⟨hv,o,p,h1,h2,h3,h4⟩:=h;have hk:k<n:=by simpa[AC.fits]using hf
   refine⟨hv,o,p, ?_, ?_,h3,h4⟩
   ·rwa[g_ (by omega)]at h1
   ·simp only[Env.cut];rw[e_,if_pos hk];exact h2
theorem Oks.cut{r:List Own}(hn:os.length=n):∀{xs:List AC} {vs:List Value},Oks E (os++r) w xs vs→xs.all (AC.fits n m)=true→Oks (E.cut n m) os w xs vs
 | [],[],_,_=>trivial
 | x::xs,v::vs,h,hf=>by
   simp only[l_,d_]at hf;exact⟨h.1.cut hn hf.1,Oks.cut hn h.2 hf.2⟩
 | [],_::_,h,_=>h.elim
 |_::_,[],h,_=>h.elim
theorem Gok.cut{r:List Own}(hn:os.length=n){g:Bool}{xs:List AC}{v:Value}(h:Gok E (os++r) w g xs v)(hf:xs.all (AC.fits n m)=true):Gok (E.cut n m) os w g xs v:=by
 cases g with
 |true=>obtain⟨vs,h1,h2⟩:=h;exact⟨vs,h1,h2.cut hn hf⟩
 |false=>exact Oks.cut hn (show Oks _ _ _ xs [v] from h) hf
theorem oK.cut{r:List Own}(hn:os.length=n):∀{ys:List (Bool×List AC)} {vs:List Value},oK E (os++r) w ys vs→(ys.all fun y=>y.2.all (AC.fits n m))=true→oK (E.cut n m) os w ys vs
 | [],[],_,_=>trivial
 | x::xs,v::vs,h,hf=>by
   simp only[l_,d_]at hf;exact⟨h.1.cut hn hf.1,oK.cut hn h.2 hf.2⟩
 | [],_::_,h,_=>h.elim
 |_::_,[],h,_=>h.elim
theorem AV.ok.cut{r:List Own}(hn:os.length=n){x:AV}{v:Value}(h:x.ok E (os++r) w v)(hf:x.fits n m=true):x.ok (E.cut n m) os w v:=by
 cases x with
 |any=>trivial
 |c g xs=>exact Gok.cut hn h hf
 | ptr xs=>
   obtain⟨b,o,vs,h1,h2,h3,h4,h5⟩:=h;exact⟨b,o,vs,h1,h2,fun hm=>h3 (Lu hm),h4,h5.cut hn hf⟩
 | bptr k off=>
   obtain⟨p,h1,h2⟩:=h;refine⟨p, ?_,h2⟩;simp only[Env.cut];rw[e_,if_pos (by simpa[AV.fits]using hf)];exact h1
 | eptr k i j off=>
   obtain⟨o,p,h1,h2,h3,h4⟩:=h;have hk:k<n:=by simpa[AV.fits]using hf
   refine⟨o,p, ?_, ?_,h3,h4⟩
   ·rwa[g_ (by omega)]at h1
   ·simp only[Env.cut];rw[e_,if_pos hk];exact h2
 | tup ys=>
   obtain⟨vs,h1,h2⟩:=h;exact⟨vs,h1,h2.cut hn hf⟩
end
theorem Hl{n m:Nat}:∀{xs ys:List AV},gJ n m xs ys→xs.length=ys.length∧∀(t:Nat) (y:AV),ys[t]? =some y→y= .any∨(xs[t]? =some y∧y.fits n m=true)
 | [],[],_=>⟨rfl,fun t y h=>by simp at h⟩
 | x ::xs,y::ys,h=>by
   obtain⟨h1,h2⟩:=Hl h.2;refine⟨by simp[h1],fun t z hz=> ?_⟩;cases t with
   | zero=>
     simp at hz;subst hz;rcases h.1 with h'|⟨h',h''⟩
     ·exact y_ h'
     ·exact r_ ⟨by simp[h'],h''⟩
   |succ t=>simpa using h2 t z (by simpa using hz)
 | [],_::_,h=>h.elim
 |_::_,[],h=>h.elim
theorem Rel.weak{B:Nat}{Xs:List Nat}{G:Org}{w0:World}{st st':St}{E:Env}{a:Act}{w:World}(h:Rel B Xs G w0 st E a w)(hle:QU st st')(hG1:G.os.length≤st'.owns.length)(hG2:G.E.bm.length≤st'.boxes.length):∃E',Rel B Xs G w0 st' E' a w:=by
 obtain⟨h1,⟨r1,h2⟩,⟨r2,h3⟩,h4⟩:=hle;obtain⟨hl,hf⟩:=Hl h1;obtain⟨fr,os,bs⟩:=st;obtain⟨fr',os',bs'⟩:=st';simp only at h2 h3 h1 hl hf h4;subst h2 h3;have hol:=h.olen;have hbl:=h.blen;simp only[List.length_append]at hol hbl;refine⟨E.cut os'.length bs'.length, ?_⟩;exact
  { eb:=h.eb
    ex:=h.ex
    sim := { base:=h.sim.base,size:=h.sim.size,blk:=h.sim.blk,old:=fun b hb hm=>h.sim.old b hb (Lu hm),
             own:=fun k o p g1 g2=>by
              obtain⟨o',p',q1,q2,q3⟩:=h.sim.own k o p g1 g2;have hk:k<os'.length:=E_ (b_.1 g1).1 hG1;refine⟨o',p', ?_, ?_,q3⟩
              ·simp only at q1⊢;rwa[g_ hk]at q1
              ·simp only[Env.cut];rw[e_,if_pos hk];exact q2
             box:=fun k p g=>by
              have hk:k<bs'.length:=E_ (b_.1 g).1 hG2;simp only[Env.cut];rw[e_,if_pos hk];exact h.sim.box k p g}
    defers:=h.defers
    size:=by rw[h.size];exact hl
    fr:=fun t y hy=>by
     rcases hf t y hy with rfl|⟨h5,h6⟩
     ·trivial
     ·exact(h.fr t y h5).cut rfl h6
    olen:=by simp only[Env.cut,a_f];omega
    own:=fun k o p g1 g2=>by
     have hk:k<os'.length:=(b_.1 g1).1;simp only[Env.cut]at g2;rw[e_,if_pos hk]at g2;obtain⟨cs,h5,h6,h7,h8⟩:=h.own k o p (by simp only;rw[g_ hk];exact g1) g2;exact⟨cs,h5,h6,h7,fun b hb=>⟨fun hm=>(h8 b hb).1 (Lu hm),(h8 b hb).2⟩⟩
    blen:=by simp only[Env.cut,a_f];omega
    box:=fun k xs p g1 g2=>by
     have hk:k<bs'.length:=(b_.1 g1).1;simp only[Env.cut]at g2;rw[e_,if_pos hk]at g2;obtain⟨h5,vs,h6,h7⟩:=h.box k xs p (by simp only;rw[g_ hk];exact g1) g2;exact⟨h5,vs,h6,h7.cut rfl (h4 xs (k_ g1))⟩
    nodup:=by
     have:=h.nodup;unfold Env.M at this⊢;rw[p_]at this⊢;refine⟨this.1.sublist (by simp only[Env.cut];exact(H_ _ _).map _),this.2.1.sublist (by
      simp only[Env.cut];have e:=congrArg (a_r (fun p:Value×List Nat=>p.1.ownBlock.toList)) (List.take_append_drop os'.length E.om);rw[List.flatMap_append]at e;rw[← e];exact List.sublist_append_left _ _),fun x hx y hy=> ?_⟩
     refine this.2.2 x ?_ y ?_
     ·exact((H_ bs'.length E.bm).map _).subset hx
     ·obtain⟨p,hp,hpy⟩:=i_.1 hy;exact i_.2 ⟨p,List.mem_of_mem_take hp,hpy⟩
    lin:=by
     refine h.lin.map (fun k=>k) (fun j k e _ _=>e) fun k o p g1 g2 g3=>r_ ⟨o, ?_, ?_,g3⟩
     ·simp only;rw[g_ (b_.1 g1).1];exact g1
     ·simp only[Env.cut]at g2;rwa[e_,if_pos (b_.1 g1).1]at g2
    unf:=by
     refine h.unf.map (fun k=>k) fun k o p g1 g2 g3=>r_ ⟨o, ?_, ?_,g3⟩
     ·simp only;rw[g_ (b_.1 g1).1];exact g1
     ·simp only[Env.cut]at g2;rwa[e_,if_pos (b_.1 g1).1]at g2
    below:=h.below
    base:=h.base}
theorem LV{P:Program}{Q:Exit→Act→World→Prop}{a:Act}{w:World}{c:Code}(I:Nat→Act→World→Prop)(n:Nat)(h₀:I n a w)
 (round:∀n a w,I n a w→c.wp P (Exit.then (fun a' w'=>∃m,m<n∧I m a' w') Q) a w):(Code.loop c).wp P Q a w:=by
 intro b k cs;have key:∀n a w,I n a w→∃e a' w',Q e a' w'∧Arrives P (lone (b.at a (.code c:: .inLoop c::k)) cs w) b k cs e a' w':=by
  intro n
  induction n using Nat.strongRecOn with
  | _ n ih=>
    intro a w hI;obtain⟨e,a₁,w₁,hq,harr⟩:=round n a w hI b (.inLoop c::k) cs;cases e with
    | normal=>
      obtain⟨m,hlt,hI₁⟩:=hq;obtain⟨e₂,a₂,w₂,hq₂,harr₂⟩:=ih m hlt a₁ w₁ hI₁;exact⟨e₂,a₂,w₂,hq₂,.of_steps (Steps.trans harr (.one step_inLoop)) harr₂⟩
    |exit id=>exact⟨_,a₁,w₁,hq,.pass (x:= .inLoop c) rfl (fun _ _=> .inl (by simp)) harr⟩
    |goto l=>exact⟨_,a₁,w₁,hq,.pass (x:= .inLoop c) rfl (fun _ _=> .inl (by simp)) harr⟩
    |ret=>exact⟨_,a₁,w₁,hq,.pass (x:= .inLoop c) rfl (fun _ _=> .inl (by simp)) harr⟩
    |panic ch=>exact⟨_,a₁,w₁,hq,.pass (x:= .inLoop c) rfl (fun _ _=> .inl (by simp)) harr⟩
    |outgrown=>exact⟨_,a₁,w₁,hq,.pass (x:= .inLoop c) rfl (fun _ _=> .inl (by simp)) harr⟩
 obtain⟨e,a',w',hq,harr⟩:=key n a w h₀;exact⟨e,a',w',hq,.of_steps (.one step_loop) harr⟩
def xX{X:Type}(F:X→St)(inv:X→Prop)(μ:X→Nat)(x:X)(Q:Exit→St→Prop):Exit→St→Prop
 | .normal,st=>∃x',QU st (F x')∧inv x'∧μ x'<μ x
 |e,st=>Q e st
theorem NH{X:Type}{c:IC}(F:X→St)(inv:X→Prop)(μ:X→Nat)(x0:X)(h0:inv x0)(hlo:∀x,lo.1≤(F x).owns.length∧lo.2≤(F x).boxes.length)(hle:QU st (F x0))(round:∀x,inv x→jv lo P c (xX F inv μ x Q) (F x)):jv lo P (.loop c) Q st:=fun code hc B Xs G w0 hG E a w hR=>by
 cases code with
 | loop cc=>
   simp only[au]at hc;obtain⟨c',hcc,he⟩:=h_.1 hc;simp only[IC.loop.injEq]at he;subst he;obtain⟨E',hR'⟩:=hR.weak hle (q_ hG.1 (hlo _).1) (q_ hG.2 (hlo _).2);refine LV (fun n a w=>∃x E,μ x=n∧inv x∧Rel B Xs G w0 (F x) E a w) (μ x0) ⟨x0,E',rfl,h0,hR'⟩ ?_;rintro n a w ⟨x,E,rfl,hx,hR⟩;refine wp_mono (round x hx cc hcc B Xs G w0 hG E a w hR) ?_;rintro e a' w' ⟨st',E',h1,h2⟩;cases e with
   | normal=>
     obtain⟨x',h3,h4,h5⟩:=h2;obtain⟨E'',h6⟩:=h1.weak h3 (q_ hG.1 (hlo _).1) (q_ hG.2 (hlo _).2);exact⟨μ x',h5,x',E'',rfl,h4,h6⟩
   |_=>exact⟨st',E',h1,h2⟩
 |region id cops b=>exact(nK hc (by simp) (by simp)).elim
 |block id x=>simp[au]at hc
 |cond c x y=>simp only[au]at hc;split at hc<;>simp at hc
 |seq x y=>simp only[au]at hc;split at hc<;>simp at hc
 |ret=>simp[au]at hc
 |exit id=>simp[au]at hc
 |skip=>simp[au]at hc
 |label l=>simp[au]at hc
 |rangeFunc=>simp[au]at hc
 |scope=>simp[au]at hc
 |goto=>simp[au]at hc
 |refuse=>simp[au]at hc
theorem QM{X:Type}{c:IC}(F:X→St)(inv:X→Prop)(μ:X→Nat)(x0:X)(h0:inv x0)(hle:QU st (F x0))(round:∀x,inv x→AWP P c (xX F inv μ x Q) (F x)):AWP P (.loop c) Q st:=
 NH F inv μ x0 h0 (fun _=>⟨A_ _,A_ _⟩) hle round
end
def stN(b:Bool)(n:Nat)(ds:List D):St:=⟨ds.map (D.avN b)++O_ (n - ds.length) (.c false [.raw undef]),[],[]⟩
def st0(n:Nat)(ds:List D):St:=⟨ds.map D.av++O_ (n - ds.length) (.c false [.raw undef]),[],[]⟩
theorem UF{w:World}{F:List Nat}{d:D}{v:Value}{H:Nat}{b:Bool}(h:RdF w F d v):(D.avN b d).ok ⟨H,[],[],if b then F else []⟩ [] w v:=by
 unfold RdF at h;show Gok _ _ _ d.isAgg (d.acs b) v;unfold Gok;have hn:∀x∈F,b=true→(⟨H,[],[],if b then F else []⟩:Env).nw x:=fun x hx e=>by subst e;exact r_ hx
 cases hg:d.isAgg with
 | true=>
   rw[hg,if_pos rfl]at h;obtain⟨fp,cs,h1,h2,h3⟩:=h;rw[if_pos rfl];exact⟨cs,h1,nY h2 (fun x hx=>⟨by simp[Env.M],hn x (h3 x hx)⟩)⟩
 | false=>
   rw[hg,if_neg (by simp)]at h;obtain⟨fp,h2,h3⟩:=h;rw[if_neg (by simp)];exact nY h2 (fun x hx=>⟨by simp[Env.M],hn x (h3 x hx)⟩)
theorem zT{w:World}{F:List Nat}:∀{ds:List D} {vs:List Value},xW w F ds vs→ds.length=vs.length∧∀(t:Nat) (d:D),ds[t]? =some d→∃v,vs[t]? =some v∧RdF w F d v
 | [],[],_=>⟨rfl,fun t d h=>by simp at h⟩
 | d::ds,v::vs,h=>by
   obtain⟨h1,h2⟩:=zT h.2;refine⟨by simp[h1],fun t x hx=> ?_⟩;cases t with
   |zero=>simp at hx;subst hx;exact⟨v,rfl,h.1⟩
   |succ t=>simpa using h2 t x (by simpa using hx)
 | [],_::_,h=>h.elim
 |_::_,[],h=>h.elim
theorem TL{w:World}{d:D}{v:Value}(h:Rd w d v):∃F,RdF w F d v:=by
 unfold Rd at h;unfold RdF;split at h
 ·obtain⟨fp,cs,h1,h2⟩:=h;exact⟨fp,by rw[if_pos ‹_›];exact⟨fp,cs,h1,h2,fun b hb=>hb⟩⟩
 ·obtain⟨fp,h2⟩:=h;exact⟨fp,by rw[if_neg ‹_›];exact⟨fp,h2,fun b hb=>hb⟩⟩
theorem FW{w:World}:∀{ds:List D} {vs:List Value},Rds w ds vs→∃F,xW w F ds vs
 | [],[],_=>⟨[],trivial⟩
 | d::ds,v::vs,h=>by
   obtain⟨F1,h1⟩:=TL h.1;obtain⟨F2,h2⟩:=FW h.2;exact⟨F1++F2,h1.mono (fun b hb=>x_ _ hb),h2.mono (fun b hb=>v_ _ hb)⟩
 | [],_::_,h=>h.elim
 |_::_,[],h=>h.elim
theorem MH{w:World}{F:List Nat}{ds:List D}{vs:List Value}(b:Bool)(h:xW w F ds vs)(ht:nM w)(n:Nat):Rel w.heap.size (if b then F else []) ⟨⟨w.heap.size,[],[],if b then F else []⟩,[],w⟩ w (stN b n ds) ⟨w.heap.size,[],[],if b then F else []⟩ {tmps:=vs.toArray++Array.replicate (n - vs.toArray.size) undef,defers:= []} w where
 eb:=m_ _
 ex:=rfl
 sim:=Sim.refl _ _ _
 defers:=rfl
 size:=by
  obtain⟨hl,_⟩:=zT h;simp[stN,hl]
 fr :=by
  obtain⟨hl,hg⟩:=zT h;intro t x hx;simp only[stN]at hx;rw[List.getElem?_append]at hx;simp only[Array.getD_eq_getD_getElem?];split at hx
  ·next ht=>
   rw[s_]at hx;obtain⟨d,hd,rfl⟩:=h_.1 hx;obtain⟨v,hv,hr⟩:=hg t d hd;rw[Array.getElem?_append_left (by simp at ht⊢;omega)];simp only[List.getElem?_toArray,hv,n_];exact UF hr
  ·next ht=>
   rw[List.getElem?_replicate]at hx;split at hx
   ·next hlt=>
    injection hx with hx
    subst hx;simp only[L_]at ht hlt;rw[Array.getElem?_append_right (by simp;omega),Array.getElem?_replicate];simp only[List.size_toArray,← hl];rw[if_pos hlt];exact⟨rfl,trivial⟩
   ·cases hx
 olen:=rfl
 own:=fun k o p h1 h2=>by simp[stN]at h1
 blen:=rfl
 box:=fun k xs p h1 h2=>by simp[stN]at h1
 nodup:=by simp[Env.M]
 lin:=Lin.nil
 unf:=Unf.nil
 below:=BelowT.start ht
 base:=m_ _
def IQ(Fin:St→Prop):Exit→St→Prop
 | .normal,st=>Fin st
 | .ret,st=>Fin st
 |_,_=>False
theorem JB{P:Program}{f:Nat}{fn:Func}{code:Code}{ic:IC}{ds:List D}{Fin:St→Prop}{post:List Nat→World→Ending→World→Prop}(b:Bool)(hf:P.funcs[f]? =some fn)(hb:fn.body=some code)(hc:au P code=some ic)
 (h:AWP P ic (IQ Fin) (stN b fn.ntmps ds))
 (hfin:∀(F:List Nat) (G:Org) (w w':World) (st:St) (E:Env) (a:Act),Rel w.heap.size (if b then F else []) G w st E a w'→Fin st→∃v,(results fn a.tmps).run P w'= .ok v w'∧post F w (.returned v) w'):
 ∀(w:World) (F:List Nat) (vs:List Value),xW w F ds vs→nM w→Calls P f vs.toArray w (post F w):=by
 intro w F vs hr ht;refine calls_of_wp hf hb ?_;have:=h code hc w.heap.size _ _ w ⟨m_ _,m_ _⟩ _ _ w (MH b hr ht fn.ntmps);refine wp_mono this ?_;rintro e a' w' ⟨st',E',h1,h2⟩;cases e with
 | normal=>
   obtain⟨v,h3,h4⟩:=hfin F _ w w' st' E' a' h1 h2;exact⟨h1.defers,v,h3,h4⟩
 | ret=>
   obtain⟨v,h3,h4⟩:=hfin F _ w w' st' E' a' h1 h2;exact⟨h1.defers,v,h3,h4⟩
 |_=>exact h2.elim
theorem oZ{P:Program}{f:Nat}{fn:Func}{code:Code}{ic:IC}{ds:List D}{Fin:St→Prop}{post:World→Ending→World→Prop}(hf:P.funcs[f]? =some fn)(hb:fn.body=some code)(hc:au P code=some ic)
 (h:AWP P ic (IQ Fin) (st0 fn.ntmps ds))
 (hfin:∀(G:Org) (w w':World) (st:St) (E:Env) (a:Act),Rel w.heap.size [] G w st E a w'→Fin st→∃v,(results fn a.tmps).run P w'= .ok v w'∧post w (.returned v) w'):
 ∀(w:World) (vs:List Value),Rds w ds vs→nM w→Calls P f vs.toArray w (post w):=by
 intro w vs hr ht;obtain⟨F,hF⟩:=FW hr;exact JB (post:=fun _=>post) false hf hb hc h (fun F G w w' st E a hR=>hfin G w w' st E a hR) w F vs hF ht
def jQ(l:List D):Prop:=∀(w:World) (f:List Nat) (cs:List Value),Rs w l f cs→f= []
def jk(os:List Own):AC→AC→Prop
 |_,.any=>True
 | .raw v,.raw u=>v=u
 | .sl n l,.sl _ l'=>n=true∧l=l'
 | .own k i,.sl _ l=>∃o,os[k]? =some o∧o.ver=i∧o.l=l∧(o.nw.n=true∨jQ l)
 | .raw v,.sl _ l=>v= .slice none 0 0∧l= []
 |_,_=>False
def eP(os:List Own):List AC→List AC→Prop
 | [],[]=>True
 |x::xs,y::ys=>jk os x y∧eP os xs ys
 |_,_=>False
section
variable{B:Nat}{Xs:List Nat}{G:Org}{w0:World}{st:St}{E E':Env}{a:Act}{w:World}
def BD(B:Nat)(Xs:List Nat)(E':Env):Prop:=∀b,(B≤b∨b∈Xs)→b∉E'.M∧E'.nw b
theorem zC(B:Nat):BD B [] (kE B):=fun b hb=>by
 have:B≤b:=by simpa using hb
 exact⟨lU.2 this,y_ this⟩
theorem wU(h:Rel B Xs G w0 st E a w){b:Nat}(hb:E.nw b):B≤b∨b∈Xs:=by
 unfold Env.nw at hb;rw[h.ex]at hb;exact hb.imp_left (q_ h.eb)
theorem NP(h:Rel B Xs G w0 st E a w)(hE:BD B Xs E'){x y:AC}{v:Value}(hf:jk st.owns x y)(hx:x.ok E st.owns w v):y.ok E' [] w v:=by
 cases y with
 |any=>trivial
 | raw u=>cases x with
   |raw v'=>obtain rfl:=hf;exact hx
   |_=>exact hf.elim
 | sl n l=>cases x with
   | sl n' l'=>
     obtain⟨rfl,rfl⟩:=hf;obtain⟨fp,h1,h2⟩:=hx;refine⟨fp,h1,fun b hb=> ?_⟩;have hB:=hE b (wU h ((h2 b hb).2 rfl));exact⟨hB.1,fun _=>hB.2⟩
   | own k i=>
     obtain⟨o,h1,h2,rfl,h3⟩:=hf;obtain⟨_,o',p,g1,g2,g3,g4⟩:=hx;rw[h1]at g1;injection g1 with g1
     subst g1;obtain rfl:=g4 h2;obtain⟨cs,h5,h6,h7,h8⟩:=h.own k o p h1 g2;refine⟨_,Sl.kU h5 h6,fun b hb=> ?_⟩;have hB:E.nw b:=by
      rcases o_.1 hb with hb|hb
      ·exact h.qx (aS.lt h5 b (by simpa using hb)).1
      ·rcases h3 with h3|h3
       ·exact(h8 b hb).2 h3
       ·rw[h3 _ _ _ h6]at hb;simp at hb
     have hB:=hE b (wU h hB);exact⟨hB.1,fun _=>hB.2⟩
   | raw v'=>
     obtain⟨rfl,rfl⟩:=hf;obtain rfl:=hx;refine⟨[], ?_,fun b hb=>by simp at hb⟩;unfold Sl;rw[R];exact⟨none,0,rfl,m_ _,A_ _,y_ ⟨rfl,rfl⟩⟩
   |any=>exact hf.elim
   |osub _ _ _ _=>exact hf.elim
   |cl _ _=>exact hf.elim
 |own k i=>cases x<;>exact hf.elim
 |osub k i pa pb=>cases x<;>exact hf.elim
 |cl f caps=>cases x<;>exact hf.elim
theorem qc(h:Rel B Xs G w0 st E a w)(hE:BD B Xs E'):∀{xs ys:List AC} {vs:List Value},eP st.owns xs ys→Oks E st.owns w xs vs→Oks E' [] w ys vs
 | [],[],[],_,_=>trivial
 |x::xs,y::ys,v::vs,hf,hx=>⟨NP h hE hf.1 hx.1,qc h hE hf.2 hx.2⟩
 | [],[],_::_,_,hx=>hx.elim
 |_::_,_::_,[],_,hx=>hx.elim
 | [],_::_,_,hf,_=>hf.elim
 |_::_,[],_,hf,_=>hf.elim
theorem Hf(h:Rel B Xs G w0 st E a w)(hE:BD B Xs E'){g:Bool}{xs ys:List AC}{v:Value}(hf:eP st.owns xs ys)(hx:Gok E st.owns w g xs v):Gok E' [] w g ys v:=by
 cases g with
 |true=>obtain⟨vs,h1,h2⟩:=hx;exact⟨vs,h1,qc h hE hf h2⟩
 |false=>exact qc h hE hf (show Oks _ _ _ xs [v] from hx)
end
theorem yK{os:List Own}:∀{xs ys:List AC},eP os xs ys→xs.length=ys.length
 | [],[],_=>rfl
 |_::xs,_::ys,h=>by rw[t_,t_,yK h.2]
 | [],_::_,h=>h.elim
 |_::_,[],h=>h.elim
def UL(t:Nat)(g:Bool)(ys:List AC)(st:St):Prop:=∃xs,st.fr.getD t .any= .c g xs∧eP st.owns xs ys
def UM(t:Nat)(ys:List AC)(st:St):Prop:=∃k xs,st.fr.getD t .any= .bptr k 0∧st.boxes[k]? =some xs∧eP st.owns xs ys
def Uh(r:ResultVar)(g:Bool)(ys:List AC)(st:St):Prop:=match r with
 | .tmp t=>UL t g ys st
 | .cell t _=>UM t ys st
def uq(P:Program)(ty:TypeId)(n:Nat):Bool:=match P.info? ty,P.underlying ty with
 |some i,some d=>i.size==n && lG d
 |_,_=>false
def nV(P:Program)(r:ResultVar)(g:Bool)(n:Nat):Bool:=match r with
 | .tmp _=>true
 | .cell _ ty=>g && uq P ty n
def jm(r:ResultVar)(tmps:Array Value):Sem Value:=match r with
 | .tmp t=>pure (tmps.getD t undef)
 | .cell a t=>do loadVar t (← asAddr (tmps.getD a undef))
section
variable{P:Program}{f:Nat}{fn:Func}{code:Code}{ic:IC}{ds:List D}
theorem rG{B:Nat}{Xs:List Nat}{G:Org}{w0:World}{st:St}{E:Env}{a:Act}{w:World}(h:Rel B Xs G w0 st E a w){t:Nat}{x:AV}(hx:st.fr.getD t .any=x):x.ok E st.owns w (a.tmps.getD t undef):=by
 have:=dM h (.tmp t);simp only[opd,St.ev,Act.eval]at this;rwa[hx]at this
theorem EL{B:Nat}{Xs:List Nat}{G:Org}{w0:World}{st:St}{E E':Env}{a:Act}{w:World}(h:Rel B Xs G w0 st E a w)(hE:BD B Xs E'){r:ResultVar}{g:Bool}{ys:List AC}(hp:nV P r g ys.length=true)(hf:Uh r g ys st):
 ∃v,(jm r a.tmps).run P w= .ok v w∧Gok E' [] w g ys v:=by
 cases r with
 | tmp t=>
   obtain⟨xs,h1,h2⟩:=hf;exact⟨_,rfl,Hf h hE h2 (rG h h1)⟩
 | cell t ty=>
   obtain⟨k,xs,h1,h2,h3⟩:=hf;simp only[nV,d_,uq]at hp;obtain⟨rfl,hp⟩:=hp;split at hp
   ·next i d hi hd=>
    simp only[d_,beq_iff_eq]at hp;obtain⟨p,g1,g2⟩:=rG h h1;obtain⟨_,vs,h4,h5⟩:=h.box k xs p h2 g1;have hlen:vs.length=i.size:=by rw[← h5.len,yK h3,hp.1]
    refine⟨.agg vs.toArray, ?_,vs,rfl,qc h hE h3 h5⟩;simp only[jm];rw[g2];have:=run_loadVar_row (P:=P) w p.1 p.2 ty vs.toArray (0,0) d h4 hd (by have:=hp.2;cases d<;>simp_all [lG]) (by rw[hi];simp[hlen]);simp[asAddr,this]
   ·cases hp
theorem yc{r:ResultVar}(hr:fn.results= #[r])(tmps:Array Value){w:World}{v:Value}(h:(jm r tmps).run P w= .ok v w):(results fn tmps).run P w= .ok v w:=by
 cases r with
 |tmp t=>simp[jm]at h;simp[results,hr,h]
 |cell t ty=>simp[jm]at h;simp[results,hr,h]
theorem FV{r q:ResultVar}(hr:fn.results= #[r,q])(tmps:Array Value){w:World}{v u:Value}(h:(jm r tmps).run P w= .ok v w)(h2:(jm q tmps).run P w= .ok u w):(results fn tmps).run P w= .ok (.tuple #[v,u]) w:=by
 have e:(results fn tmps).run P w=(jm r tmps >>=fun v=>jm q tmps >>=fun u=>pure (.tuple #[v,u]):Sem Value).run P w:=by
  have a1:∀(x:Result Addr) (f:Addr→World→Result Value) (g:Value→World→Result Value),(x.andThen f).andThen g=x.andThen fun a w=>(f a w).andThen g:=by
   intro x f g;cases x<;>rfl
  cases r<;>cases q<;>simp[results,hr,jm,a1]
 rw[e];simp[h,h2]
theorem gQ{t:Nat}{g:Bool}{ys:List AC}(hf:P.funcs[f]? =some fn:=by kernel_rfl)(hb:fn.body=some code:=by kernel_rfl)(hr:fn.results= #[.tmp t]:=by kernel_rfl)(hc:au P code=some ic)
 (h:AWP P ic (IQ (UL t g ys)) (st0 fn.ntmps ds)):aJ P f ds (.c g ys):=by
 refine oZ (post:=fun w e w'=>wI (.c g ys) w e w') hf hb hc h ?_;rintro G w w' st E a hR ⟨xs,h1,h2⟩;refine⟨_,results_tmp hr a.tmps P w',_,rfl,Hf hR (zC _) h2 (rG hR h1),hR.below.out⟩
theorem uf{t:Nat}{ty:TypeId}{ys:List AC}(hf:P.funcs[f]? =some fn:=by kernel_rfl)(hb:fn.body=some code:=by kernel_rfl)(hr:fn.results= #[.cell t ty]:=by kernel_rfl)(hp:uq P ty ys.length=true:=by kernel_rfl)(hc:au P code=some ic)
 (h:AWP P ic (IQ (UM t ys)) (st0 fn.ntmps ds)):aJ P f ds (.c true ys):=by
 refine oZ (post:=fun w e w'=>wI (.c true ys) w e w') hf hb hc h ?_;rintro G w w' st E a hR hF;obtain⟨v,h1,h2⟩:=EL (P:=P) (r:= .cell t ty) (g:=true) hR (zC _) (by simp[nV,hp]) hF;exact⟨v,yc hr _ h1,v,rfl,h2,hR.below.out⟩
theorem Dz{r q:ResultVar}{g g':Bool}{ys zs:List AC}(hf:P.funcs[f]? =some fn:=by kernel_rfl)(hb:fn.body=some code:=by kernel_rfl)(hr:fn.results= #[r,q]:=by kernel_rfl)(hp:(nV P r g ys.length && nV P q g' zs.length)=true:=by kernel_rfl)(hc:au P code=some ic)
 (h:AWP P ic (IQ (fun st=>Uh r g ys st∧Uh q g' zs st)) (st0 fn.ntmps ds)):aJ P f ds (.tup [(g,ys),(g',zs)]):=by
 refine oZ (post:=fun w e w'=>wI (.tup [(g,ys),(g',zs)]) w e w') hf hb hc h ?_;rintro G w w' st E a hR ⟨h1,h2⟩;simp only[Bool.and_eq_true]at hp;obtain⟨v,h3,h4⟩:=EL hR (zC _) hp.1 h1;obtain⟨u,h5,h6⟩:=EL hR (zC _) hp.2 h2;exact⟨_,FV hr _ h3 h5,_,rfl,⟨[v,u],rfl,h4,h6,trivial⟩,hR.below.out⟩
def UK(k i:Nat)(l:List D)(e s:Nat)(st:St):Prop:=∃o,st.owns[k]? =some o∧o.ver=i∧o.l=l∧o.e=e∧o.s=s∧(o.nw.n=true∨jQ l)
def UY(t:Nat)(l:List D)(e s:Nat)(st:St):Prop:=∃k i o,st.fr.getD t .any= .c false [.own k i]∧st.owns[k]? =some o∧o.ver=i∧o.l=l∧o.e=e∧o.s=s∧(o.nw.n=true∨jQ l)
theorem Py{G:Org}{w w':World}{st:St}{E:Env}{a:Act}(hR:Rel w.heap.size [] G w st E a w'){k i:Nat}{l:List D}{e s:Nat}{v:Value}(hv:(AC.own k i).ok E st.owns w' v)(h:UK k i l e s st):
 ∃cs f,aS w' w.heap.size e s v l.length cs∧Rs w' l f cs∧∀b∈f,some b≠v.ownBlock∧w.heap.size≤b:=by
 obtain⟨o,h2,h3,rfl,rfl,rfl,h4⟩:=h;obtain⟨_,o',p,g1,g2,g3,g4⟩:=hv;rw[h2]at g1;injection g1 with g1
 subst g1;obtain⟨cs,h5,h6,h7,h8⟩:=hR.own k o p h2 g2;rw[g4 h3];refine⟨cs,p.2,kN h5 hR.eb,h6,fun b hb=>⟨fun e=> ?_, ?_⟩⟩
 ·exact(h8 b hb).1 (gV.2 (r_ ⟨k,p,g2,e.symm⟩))
 ·rcases h4 with h4|h4
  ·simpa using wU hR ((h8 b hb).2 h4)
  ·rw[h4 _ _ _ h6]at hb;simp at hb
theorem xG{t:Nat}{l:List D}{e s:Nat}(hf:P.funcs[f]? =some fn:=by kernel_rfl)(hb:fn.body=some code:=by kernel_rfl)(hr:fn.results= #[.tmp t]:=by kernel_rfl)(hc:au P code=some ic)
 (h:AWP P ic (IQ (UY t l e s)) (st0 fn.ntmps ds)):mD P f ds l e s:=by
 refine oZ (post:=fun w e' w'=>wz false l e s w e' w') hf hb hc h ?_;rintro G w w' st E a hR ⟨k,i,o,h1,h2⟩;obtain⟨hv,_⟩:=rG hR h1;obtain⟨cs,f',h3,h4,h5⟩:=Py hR hv ⟨o,h2⟩;exact⟨_,results_tmp hr a.tmps P w',_,cs,f',rfl,h3,h4,h5,hR.below.out⟩
def jy(os:List Own)(pk:List Nat):AC→AC→Prop
 |_,.any=>True
 | .raw v,.raw u=>v=u
 | .sl n l,.sl m l'=>n=true∧m=true∧l=l'
 | .own k i,.sl m l=>m=true∧k∉pk∧∃o,os[k]? =some o∧o.ver=i∧o.l=l∧(o.nw.n=true∨jQ l)
 | .own k i,.own j z=>pk[j]? =some k∧z=0∧∃o,os[k]? =some o∧o.ver=i
 |_,_=>False
def gB(os:List Own)(pk:List Nat):List AC→List AC→Prop
 | [],[]=>True
 |x::xs,y::ys=>jy os pk x y∧gB os pk xs ys
 |_,_=>False
def yM(o o':Own):Prop:=match o'.nw.lin with
 |false=>o.nw.n=true∨jQ o.l
 |true=>(o.nw.n=true∧o.nw.lin=true)∨jQ o.l
def qo(os:List Own):List Nat→List Own→Prop
 | [],[]=>True
 |k::pk,o'::os'=>(∃o,os[k]? =some o∧o'=⟨o.l,o.e,o.s,0,⟨true,o'.nw.lin⟩⟩∧yM o o')∧qo os pk os'
 |_,_=>False
def TB(pk:List Nat)(r:ResultVar)(g:Bool)(ys:List AC)(st:St):Prop:=match r with
 | .tmp t=>∃xs,st.fr.getD t .any= .c g xs∧gB st.owns pk xs ys
 | .cell t _=>∃k xs,st.fr.getD t .any= .bptr k 0∧st.boxes[k]? =some xs∧gB st.owns pk xs ys
theorem vV{os:List Own}{pk:List Nat}:∀{xs ys:List AC},gB os pk xs ys→xs.length=ys.length
 | [],[],_=>rfl
 |_::xs,_::ys,h=>by rw[t_,t_,vV h.2]
 | [],_::_,h=>h.elim
 |_::_,[],h=>h.elim
theorem yM.weak{o o':Own}(h:yM o o'):o.nw.n=true∨jQ o.l:=by
 unfold yM at h;split at h
 ·exact h
 ·exact h.imp And.left id
theorem yM.lin{o o':Own}(h:yM o o')(e:o'.nw.lin=true):o.nw.lin=true∨jQ o.l:=by
 unfold yM at h;rw[e]at h;exact h.imp And.right id
theorem uI{os:List Own}:∀{pk:List Nat} {os':List Own},qo os pk os'→pk.length=os'.length∧∀(j k:Nat) (o':Own),pk[j]? =some k→os'[j]? =some o'→∃o,os[k]? =some o∧o'=⟨o.l,o.e,o.s,0,⟨true,o'.nw.lin⟩⟩∧yM o o'
 | [],[],_=>⟨rfl,fun j k o' h=>by simp at h⟩
 | k::pk,o'::os',h=>by
   obtain⟨h1,h2⟩:=uI h.2;refine⟨by simp[h1],fun j k' o'' g1 g2=> ?_⟩;cases j with
   |zero=>simp at g1 g2;subst g1 g2;exact h.1
   |succ j=>exact h2 j k' o'' (by simpa using g1) (by simpa using g2)
 | [],_::_,h=>h.elim
 |_::_,[],h=>h.elim
section
variable{B:Nat}{G:Org}{w0:World}{st:St}{E:Env}{a:Act}{w:World}{pk:List Nat}{os':List Own}
def uH(E:Env)(pk:List Nat):List (Value×List Nat):=pk.map fun k=>E.om.getD k (undef,[])
theorem zX{j k:Nat}(h:pk[j]? =some k):(uH E pk)[j]? =some (E.om.getD k (undef,[])):=by simp[uH,h]
theorem zW(h:Rel B [] G w0 st E a w)(ho:qo st.owns pk os'){b:Nat}(hb:b∈(uH E pk).flatMap fun q=>q.1.ownBlock.toList):∃k∈pk,∃p,E.om[k]? =some p∧p.1.ownBlock=some b:=by
 obtain⟨q,hq,hqb⟩:=i_.1 hb;obtain⟨k,hk,rfl⟩:=f_.1 hq;obtain⟨j,hj⟩:=List.mem_iff_getElem?.1 hk;obtain⟨h1,h2⟩:=uI ho;have hj':j<os'.length:=by rw[← h1];exact(b_.1 hj).1
 obtain⟨o,g1,_⟩:=h2 j k _ hj (a_ hj');have hke:k<E.om.length:=by rw[h.olen];exact(b_.1 g1).1
 exact⟨k,hk,E.om[k],a_ hke,by rw[c_,a_ hke]at hqb;simpa using hqb⟩
theorem AZ(h:Rel B [] G w0 st E a w){i j:Nat}{p q:Value×List Nat}{b:Nat}(hi:E.om[i]? =some p)(hj:E.om[j]? =some q)(hp:p.1.ownBlock=some b)(hq:q.1.ownBlock=some b):i=j:=by
 have hn:=h.nodup;unfold Env.M at hn;rw[p_]at hn;have : ∀(L:List (Value×List Nat)) (i j:Nat) (p q:Value×List Nat),(L.flatMap (fun p=>p.1.ownBlock.toList)).Nodup→L[i]? =some p→L[j]? =some q→p.1.ownBlock=some b→q.1.ownBlock=some b→i=j:=by
  intro L
  induction L with
  |nil=>intro i j p q _ hi;simp at hi
  | cons z L ih=>
    intro i j p q hn hi hj hpb hqb;rw[I_,p_]at hn;cases i with
    | zero=>
      cases j with
      |zero=>rfl
      | succ j=>
        simp at hi hj;subst hi;exact absurd rfl (hn.2.2 b (by simp[hpb]) b (i_.2 ⟨q,k_ hj,by simp[hqb]⟩))
    | succ i=>
      cases j with
      | zero=>
        simp at hi hj;subst hj;exact absurd rfl (hn.2.2 b (by simp[hqb]) b (i_.2 ⟨p,k_ hi,by simp[hpb]⟩))
      | succ j=>
        simp at hi hj;rw[ih i j p q hn.2.1 hi hj hpb hqb]
 exact this E.om i j p q hn.2.1 hi hj hp hq
theorem MJ(h:Rel B [] G w0 st E a w)(ho:qo st.owns pk os')(hnd:pk.Nodup):oL B w (uH E pk) os':=by
 obtain⟨h1,h2⟩:=uI ho;refine⟨by simp[uH,h1],fun j o' p g1 g2=> ?_, ?_⟩
 ·have hj:j<pk.length:=by rw[h1];exact(b_.1 g1).1
  have hk:=a_ hj;obtain⟨o,g3,g4e,g4o⟩:=h2 j _ o' hk g1;have g4:=g4o.weak;rw[g4e];have hke:pk[j]<E.om.length:=by rw[h.olen];exact(b_.1 g3).1
  rw[zX hk,c_,a_ hke]at g2;simp only[n_,z_]at g2;subst g2;obtain⟨cs,h5,h6,h7,h8⟩:=h.own _ o _ g3 (a_ hke);refine⟨cs,kN h5 h.eb,h6,h7,fun b hb=>⟨?_,fun hm=> ?_⟩⟩
  ·rcases g4 with g4|g4
   ·simpa using wU h ((h8 b hb).2 g4)
   ·rw[g4 _ _ _ h6]at hb;simp at hb
  ·obtain⟨k,_,p,g5,g6⟩:=zW h ho hm;exact(h8 b hb).1 (gV.2 (r_ ⟨k,p,g5,g6⟩))
 ·have hpk:∀(j:Nat) (o':Own) (p:Value×List Nat),os'[j]? =some o'→(uH E pk)[j]? =some p→o'.nw.lin=true→p.2= []∨∃o,st.owns[pk.getD j 0]? =some o∧E.om[pk.getD j 0]? =some p∧o.nw.lin=true:=by
   intro j o' p g1 g2 g3;have hj:j<pk.length:=by rw[h1];exact(b_.1 g1).1
   have hk:=a_ hj;obtain⟨o,q1,q2,q3⟩:=h2 j _ o' hk g1;have hke:pk[j]<E.om.length:=by rw[h.olen];exact(b_.1 q1).1
   rw[zX hk,c_,a_ hke]at g2;simp only[n_,z_]at g2;subst g2;rcases q3.lin g3 with e|e
   ·refine r_ ⟨o, ?_, ?_,e⟩
    ·rw[c_,hk];exact q1
    ·rw[c_,hk];exact a_ hke
   ·obtain⟨cs,_,h6,_⟩:=h.own _ o _ q1 (a_ hke);exact y_ (e _ _ _ h6)
  refine⟨?_, ?_, ?_⟩
  rotate_left
  ·refine h.lin.map (fun j=>pk.getD j 0) (fun i j hij hi hj e=>hij ?_) hpk;have hi':i<pk.length:=by omega
   have hj':j<pk.length:=by omega
   simp only[c_,a_ hi',a_ hj',n_]at e;exact(List.getElem_inj hnd).1 e
  ·exact h.unf.map (fun j=>pk.getD j 0) hpk
  have :∀(pk:List Nat) (os':List Own),qo st.owns pk os'→pk.Nodup→((uH E pk).flatMap fun q=>q.1.ownBlock.toList).Nodup:=by
   intro pk
   induction pk with
   |nil=>intro os' _ _;exact P_
   | cons k pk ih=>
     intro os' ho hnd
     match os',ho with
     | o'::os',ho=>
       rw[List.nodup_cons]at hnd;obtain⟨o,g1,_⟩:=ho.1;have hke:k<E.om.length:=by rw[h.olen];exact(b_.1 g1).1
       show(a_r _ (E.om.getD k (undef,[])::uH E pk)).Nodup;rw[I_,p_];refine⟨by cases(E.om.getD k (undef,[])).1.ownBlock<;>simp,ih os' ho.2 hnd.2,fun x hx y hy e=> ?_⟩;subst e;obtain⟨k',hk',p,g5,g6⟩:=zW h ho.2 hy;rw[c_,a_ hke]at hx;exact hnd.1 (AZ h (a_ hke) g5 (by simpa using hx) g6▸hk')
  exact this pk os' ho hnd
theorem JH(h:Rel B [] G w0 st E a w)(ho:qo st.owns pk os'){x y:AC}{v:Value}(hf:jy st.owns pk x y)(hx:x.ok E st.owns w v):y.ok ⟨B,uH E pk,[],[]⟩ os' w v:=by
 have hnew:∀b,(B≤b)→(∀k∈pk,∀p,E.om[k]? =some p→p.1.ownBlock≠some b)→b∉(⟨B,uH E pk,[],[]⟩:Env).M∧(true=true→(⟨B,uH E pk,[],[]⟩:Env).nw b):=fun b hB hk=>⟨fun hm=>by
  simp only[Env.M,X_,M_]at hm;obtain⟨k,hk1,p,g1,g2⟩:=zW h ho hm;exact hk k hk1 p g1 g2,fun _=>y_ hB⟩
 cases y with
 |any=>trivial
 | raw u=>cases x with
   |raw v'=>obtain rfl:=hf;exact hx
   |_=>exact hf.elim
 | sl n l=>cases x with
   | sl n' l'=>
     obtain⟨rfl,rfl,rfl⟩:=hf;obtain⟨fp,h1,h2⟩:=hx;exact⟨fp,h1,fun b hb=>hnew b (by simpa using wU h ((h2 b hb).2 rfl)) (fun k _ p g1 g2=>(h2 b hb).1 (gV.2 (r_ ⟨k,p,g1,g2⟩)))⟩
   | own k i=>
     obtain⟨rfl,hk,o,h1,h2,rfl,h3⟩:=hf;obtain⟨_,o',p,g1,g2,g3,g4⟩:=hx;rw[h1]at g1;injection g1 with g1
     subst g1;obtain rfl:=g4 h2;obtain⟨cs,h5,h6,h7,h8⟩:=h.own k o p h1 g2;refine⟨_,Sl.kU h5 h6,fun b hb=> ?_⟩;rcases o_.1 hb with hb|hb
     ·have hb':p.1.ownBlock=some b:=by simpa using hb
      exact hnew b (q_ h.eb (aS.lt h5 b hb').1) (fun k' hk' p' g5 g6=>hk (AZ h g2 g5 hb' g6▸hk'))
     ·refine hnew b ?_ (fun k' _ p' g5 g6=>(h8 b hb).1 (gV.2 (r_ ⟨k',p',g5,g6⟩)));rcases h3 with h3|h3
      ·simpa using wU h ((h8 b hb).2 h3)
      ·rw[h3 _ _ _ h6]at hb;simp at hb
   |raw v'=>exact hf.elim
   |any=>exact hf.elim
   |osub _ _ _ _=>exact hf.elim
   |cl _ _=>exact hf.elim
 |osub _ _ _ _=>cases x<;>exact hf.elim
 | own j z=>cases x with
   | own k i=>
     obtain⟨hj,rfl,o,h1,h2⟩:=hf;obtain⟨hv,o',p,g1,g2,g3,g4⟩:=hx;rw[h1]at g1;injection g1 with g1
     subst g1;obtain⟨l1,l2⟩:=uI ho;have hj':j<os'.length:=by rw[← l1];exact(b_.1 hj).1
     obtain⟨o2,q1,q2,_⟩:=l2 j k _ hj (a_ hj');refine⟨hv,os'[j],p,a_ hj', ?_,A_ _,fun _=>g4 h2⟩;rw[zX hj,c_,g2];rfl
   |_=>exact hf.elim
 |cl f caps=>cases x<;>exact hf.elim
theorem oG(h:Rel B [] G w0 st E a w)(ho:qo st.owns pk os'):∀{xs ys:List AC} {vs:List Value},gB st.owns pk xs ys→Oks E st.owns w xs vs→Oks ⟨B,uH E pk,[],[]⟩ os' w ys vs
 | [],[],[],_,_=>trivial
 |x::xs,y::ys,v::vs,hf,hx=>⟨JH h ho hf.1 hx.1,oG h ho hf.2 hx.2⟩
 | [],[],_::_,_,hx=>hx.elim
 |_::_,_::_,[],_,hx=>hx.elim
 | [],_::_,_,hf,_=>hf.elim
 |_::_,[],_,hf,_=>hf.elim
theorem Qg{P:Program}(h:Rel B [] G w0 st E a w)(ho:qo st.owns pk os'){r:ResultVar}{g:Bool}{ys:List AC}(hp:nV P r g ys.length=true)(hf:TB pk r g ys st):
 ∃v,(jm r a.tmps).run P w= .ok v w∧Gok ⟨B,uH E pk,[],[]⟩ os' w g ys v:=by
 cases r with
 | tmp t=>
   obtain⟨xs,h1,h2⟩:=hf;refine⟨_,rfl, ?_⟩;have hx:=rG h h1;cases g with
   |true=>obtain⟨vs,h3,h4⟩:=hx;exact⟨vs,h3,oG h ho h2 h4⟩
   |false=>exact oG h ho h2 (show Oks _ _ _ xs [_] from hx)
 | cell t ty=>
   obtain⟨k,xs,h1,h2,h3⟩:=hf;simp only[nV,d_,uq]at hp;obtain⟨rfl,hp⟩:=hp;split at hp
   ·next i d hi hd=>
    simp only[d_,beq_iff_eq]at hp;obtain⟨p,g1,g2⟩:=rG h h1;obtain⟨_,vs,h4,h5⟩:=h.box k xs p h2 g1;have hlen:vs.length=i.size:=by rw[← h5.len,vV h3,hp.1]
    refine⟨.agg vs.toArray, ?_,vs,rfl,oG h ho h3 h5⟩;simp only[jm];rw[g2];have:=run_loadVar_row (P:=P) w p.1 p.2 ty vs.toArray (0,0) d h4 hd (by have:=hp.2;cases d<;>simp_all [lG]) (by rw[hi];simp[hlen]);simp[asAddr,this]
   ·cases hp
end
theorem gu{r:ResultVar}{g:Bool}{ys:List AC}{os':List Own}(hf:P.funcs[f]? =some fn:=by kernel_rfl)(hb:fn.body=some code:=by kernel_rfl)(hr:fn.results= #[r]:=by kernel_rfl)(hp:nV P r g ys.length=true:=by kernel_rfl)(hc:au P code=some ic)
 (h:AWP P ic (IQ (fun st=>∃pk:List Nat,pk.Nodup∧qo st.owns pk os'∧TB pk r g ys st)) (st0 fn.ntmps ds)):dH P f ds (.c g ys) os':=by
 refine oZ (post:=fun w e w'=>Fb (.c g ys) os' w e w') hf hb hc h ?_;rintro G w w' st E a hR ⟨pk,hnd,ho,h1⟩;obtain⟨v,h3,h4⟩:=Qg hR ho hp h1;exact⟨_,yc hr _ h3,_,uH E pk,rfl,MJ hR ho hnd,h4,hR.below.out⟩
end
section
variable{lo:Nat×Nat}{P:Program}{y:IC}{Q:Exit→St→Prop}{st:St}{i j:Nat}{c:Opd}
theorem jP(h:jv lo P y Q st):Fq lo P y Q .normal st:=h
theorem dP(h:Q (.exit i) st):Fq lo P y Q (.exit i) st:=h
theorem eY(h:Q .ret st):Fq lo P y Q .ret st:=h
theorem bf(h:Q .normal st):xY i Q .normal st:=h
theorem dR(h:Q .ret st):xY i Q .ret st:=h
theorem cZ(h:Q .normal st):xY i Q (.exit i) st:=by
 show ite _ _ _;rw[if_pos rfl];exact h
theorem cO(hij:(j==i)=false)(h:Q (.exit j) st):xY i Q (.exit j) st:=by
 show ite _ _ _;rw[if_neg (by simpa using hij)];exact h
theorem cu{X:Type}{F:X→St}{inv:X→Prop}{μ:X→Nat}{x:X}(h:Q (.exit i) st):xX F inv μ x Q (.exit i) st:=h
theorem dQ{X:Type}{F:X→St}{inv:X→Prop}{μ:X→Nat}{x:X}(h:Q .ret st):xX F inv μ x Q .ret st:=h
theorem bH{Fin:St→Prop}(h:Fin st):IQ Fin .ret st:=h
theorem dh{x:IC}(hb:st.ev c= .c false [.raw (.bool true)])(h:jv lo P x Q st):jv lo P (.cond c x y) Q st:=Bc hb (fun _=>h) (fun e=>by cases e)
theorem dw{x:IC}(hb:st.ev c= .c false [.raw (.bool false)])(h:jv lo P y Q st):jv lo P (.cond c x y) Q st:=Bc hb (fun e=>by cases e) (fun _=>h)
end
theorem O6{x0:Opd}:I.plain (.mov x0)=true:=by simp only[I.plain]
theorem Kz{x0:Opd}{x1:Opd}{x2:Opd}:I.plain (.pick x0 x1 x2)=true:=by simp only[I.plain]
theorem Po{x0:BinOp}{x1:Opd}{x2:Opd}:I.plain (.bin x0 x1 x2)=true:=by simp only[I.plain]
theorem Pq{x0:Bool}{x1:Opd}{x2:Opd}:I.plain (.beq x0 x1 x2)=true:=by simp only[I.plain]
theorem O4{x0:Opd}:I.plain (.not x0)=true:=by simp only[I.plain]
theorem KA{x0:Nat}{x1:Bool}{x2:Opd}:I.plain (.load x0 x1 x2)=true:=by simp only[I.plain]
theorem Pe{x0:Nat}{x1:Opd}:I.plain (.fad x0 x1)=true:=by simp only[I.plain]
theorem O5{x0:Opd}:I.plain (.nck x0)=true:=by simp only[I.plain]
theorem Gf{x0:List Value}:I.plain (.alloc x0)=true:=by simp only[I.plain]
theorem Pm{x0:Opd}:I.plain (.box x0)=true:=by simp only[I.plain]
theorem F9{x0:Nat}{x1:Opd}{x2:Opd}:I.plain (.store x0 x1 x2)=true:=by simp only[I.plain]
theorem KD{x0:Bool}{x1:Nat}{x2:Nat}{x3:Nat}{x4:Bool}{x5:List Opd}:I.plain (.brow x0 x1 x2 x3 x4 x5)=true:=by simp only[I.plain]
theorem Pn{x0:List Value}{x1:List (Nat×Nat×Opd)}:I.plain (.bld x0 x1)=true:=by simp only[I.plain]
theorem O9{x0:Nat}{x1:Nat}{x2:Bool}{x3:Opd}:I.plain (.fld x0 x1 x2 x3)=true:=by simp only[I.plain]
theorem Ky{x0:Opd}{x1:Opd}:I.plain (.sidx x0 x1)=true:=by simp only[I.plain]
theorem O1{x0:Opd}{x1:Option Opd}{x2:Option Opd}:I.plain (.ssl x0 x1 x2)=true:=by simp only[I.plain]
theorem Pg{x0:Nat}{x1:Opd}:I.plain (.ext x0 x1)=true:=by simp only[I.plain]
theorem O8{x0:Bool}{x1:Opd}:I.plain (.len x0 x1)=true:=by simp only[I.plain]
theorem OH{x0:Opd}:I.plainW (.mov x0)=true:=by simp only[I.plainW]
theorem Ko{x0:Opd}{x1:Opd}{x2:Opd}:I.plainW (.pick x0 x1 x2)=true:=by simp only[I.plainW]
theorem OW{x0:BinOp}{x1:Opd}{x2:Opd}:I.plainW (.bin x0 x1 x2)=true:=by simp only[I.plainW]
theorem OX{x0:Bool}{x1:Opd}{x2:Opd}:I.plainW (.beq x0 x1 x2)=true:=by simp only[I.plainW]
theorem OE{x0:Opd}:I.plainW (.not x0)=true:=by simp only[I.plainW]
theorem Kq{x0:Nat}{x1:Bool}{x2:Opd}:I.plainW (.load x0 x1 x2)=true:=by simp only[I.plainW]
theorem OM{x0:Nat}{x1:Opd}:I.plainW (.fad x0 x1)=true:=by simp only[I.plainW]
theorem OG{x0:Opd}:I.plainW (.nck x0)=true:=by simp only[I.plainW]
theorem FY{x0:List Value}:I.plainW (.alloc x0)=true:=by simp only[I.plainW]
theorem OU{x0:Opd}:I.plainW (.box x0)=true:=by simp only[I.plainW]
theorem OV{x0:List Value}{x1:List (Nat×Nat×Opd)}:I.plainW (.bld x0 x1)=true:=by simp only[I.plainW]
theorem OL{x0:Nat}{x1:Nat}{x2:Bool}{x3:Opd}:I.plainW (.fld x0 x1 x2 x3)=true:=by simp only[I.plainW]
theorem J9{x0:Opd}{x1:Opd}:I.plainW (.sidx x0 x1)=true:=by simp only[I.plainW]
theorem OD{x0:Opd}{x1:Option Opd}{x2:Option Opd}:I.plainW (.ssl x0 x1 x2)=true:=by simp only[I.plainW]
theorem OO{x0:Nat}{x1:Opd}:I.plainW (.ext x0 x1)=true:=by simp only[I.plainW]
theorem OJ{x0:Bool}{x1:Opd}:I.plainW (.len x0 x1)=true:=by simp only[I.plainW]
theorem O7{f:Nat}{xs:List Opd}:I.plain (.mkf f xs)=true:=by simp only[I.plain]
theorem KC{b:Bool}{x:Opd}:I.plain (.fnil b x)=true:=by simp only[I.plain]
theorem Kw{b:Bool}{x:Opd}:I.plain (.snil b x)=true:=by simp only[I.plain]
theorem KE{b:Bool}{k:List Value}{x y:Opd}:I.plain (.beqS b k x y)=true:=by simp only[I.plain]
theorem Kt{b:Bool}{k:List Value}{x y:Opd}:I.plainW (.beqS b k x y)=true:=by simp only[I.plainW]
theorem Lr{b:Bool}{k:List Value}{x y:Opd}:eff (.beqS b k x y)=false:=by simp[eff,I.cls]
theorem Pj{k:IntKind}{x:Opd}:I.plain (.cvi k x)=true:=by simp only[I.plain]
theorem Ph{x:Opd}:I.plain (.cvs x)=true:=by simp only[I.plain]
theorem KF{e:Nat}{x y:Opd}:I.plain (.apps e x y)=true:=by simp only[I.plain]
theorem OT{k:IntKind}{x:Opd}:I.plainW (.cvi k x)=true:=by simp only[I.plainW]
theorem OQ{x:Opd}:I.plainW (.cvs x)=true:=by simp only[I.plainW]
theorem Ku{e:Nat}{x y:Opd}:I.plainW (.apps e x y)=true:=by simp only[I.plainW]
theorem Qv{k:IntKind}{x:Opd}:eff (.cvi k x)=false:=by simp[eff,I.cls]
theorem Qu{x:Opd}:eff (.cvs x)=false:=by simp[eff,I.cls]
theorem Ls{e:Nat}{x y:Opd}:eff (.apps e x y)=true:=by simp[eff,I.cls]
theorem SX{e:Nat}{z:Value}{x:Opd}:I.plain (.mk e z x)=true:=by simp only[I.plain]
theorem OI{f:Nat}{xs:List Opd}:I.plainW (.mkf f xs)=true:=by simp only[I.plainW]
theorem Kr{b:Bool}{x:Opd}:I.plainW (.fnil b x)=true:=by simp only[I.plainW]
theorem J8{b:Bool}{x:Opd}:I.plainW (.snil b x)=true:=by simp only[I.plainW]
theorem SV{e:Nat}{z:Value}{x:Opd}:I.plainW (.mk e z x)=true:=by simp only[I.plainW]
theorem Qo{f:Nat}{xs:List Opd}:eff (.mkf f xs)=false:=by simp[eff,I.cls]
theorem Ll{b:Bool}{x:Opd}:eff (.fnil b x)=false:=by simp[eff,I.cls]
theorem Ld{b:Bool}{x:Opd}:eff (.snil b x)=false:=by simp[eff,I.cls]
theorem Tf{e:Nat}{z:Value}{x:Opd}:eff (.mk e z x)=true:=by simp[eff,I.cls]
theorem Qn{x0:Opd}:eff (.mov x0)=false:=by simp[eff,I.cls]
theorem Lh{x0:Opd}{x1:Opd}{x2:Opd}:eff (.pick x0 x1 x2)=false:=by simp[eff,I.cls]
theorem Qy{x0:BinOp}{x1:Opd}{x2:Opd}:eff (.bin x0 x1 x2)=false:=by simp[eff,I.cls]
theorem Qz{x0:Bool}{x1:Opd}{x2:Opd}:eff (.beq x0 x1 x2)=false:=by simp[eff,I.cls]
theorem Ql{x0:Opd}:eff (.not x0)=false:=by simp[eff,I.cls]
theorem Lj{x0:Nat}{x1:Bool}{x2:Opd}:eff (.load x0 x1 x2)=false:=by simp[eff,I.cls]
theorem Qr{x0:Nat}{x1:Opd}:eff (.fad x0 x1)=false:=by simp[eff,I.cls]
theorem Qm{x0:Opd}:eff (.nck x0)=false:=by simp[eff,I.cls]
theorem Hz{x0:List Value}:eff (.alloc x0)=true:=by simp[eff,I.cls]
theorem Qw{x0:Opd}:eff (.box x0)=true:=by simp[eff,I.cls]
theorem Hy{x0:Nat}{x1:Opd}{x2:Opd}:eff (.store x0 x1 x2)=true:=by simp[eff,I.cls]
theorem Qx{x0:List Value}{x1:List (Nat×Nat×Opd)}:eff (.bld x0 x1)=false:=by simp[eff,I.cls]
theorem Qq{x0:Nat}{x1:Nat}{x2:Bool}{x3:Opd}:eff (.fld x0 x1 x2 x3)=false:=by simp[eff,I.cls]
theorem Le{x0:Opd}{x1:Opd}:eff (.sidx x0 x1)=false:=by simp[eff,I.cls]
theorem Qk{x0:Opd}{x1:Option Opd}{x2:Option Opd}:eff (.ssl x0 x1 x2)=false:=by simp[eff,I.cls]
theorem Qs{x0:Nat}{x1:Opd}:eff (.ext x0 x1)=false:=by simp[eff,I.cls]
theorem Qp{x0:Bool}{x1:Opd}:eff (.len x0 x1)=false:=by simp[eff,I.cls]
theorem Lm{e s n:Nat}{g:Bool}{xs:List Opd}:eff (.brow false e s n g xs)=false:=by simp[eff,I.cls]
theorem Lp{e s n:Nat}{g:Bool}{xs:List Opd}:eff (.brow true e s n g xs)=true:=by simp[eff,I.cls]
theorem mJ{st:St}:mo true st= []:=by simp[mo]
theorem mM{st:St}:mo false st=st.owns:=by simp[mo]
inductive Sp where
 |k
 |d
 |v (x:AV)
def dD :List Sp→List AV→List AV
 | .k::ss,x::xs=>x::dD ss xs
 | .d::ss,_::xs=> .any::dD ss xs
 | .v y::ss,_::xs=>y::dD ss xs
 | [],_::xs=> .any::dD [] xs
 |_,[]=> []
def FB{X:Type}(fr0:List AV)(bs0:List (List AC))(sp:X→List Sp)(ow:X→List Own)(bx:X→List (List AC)→List (List AC))(x:X):St:=⟨dD (sp x) fr0,ow x,bx x bs0⟩
theorem dN{P:Program}{Q:Exit→St→Prop}{X:Type}{c:IC}{fr0:List AV}{os0:List Own}{bs0:List (List AC)}(sp:X→List Sp)(ow:X→List Own)(bx:X→List (List AC)→List (List AC))(inv:X→Prop)(μ:X→Nat)(x0:X)(h0:inv x0)
 (hle:dF ⟨fr0,os0,bs0⟩ (FB fr0 bs0 sp ow bx x0)) (round:∀x,inv x→AWP P c (xX (FB fr0 bs0 sp ow bx) inv μ x Q) (FB fr0 bs0 sp ow bx x)):AWP P (.loop c) Q ⟨fr0,os0,bs0⟩:=
 QM (FB fr0 bs0 sp ow bx) inv μ x0 h0 (JY hle) round
theorem eX{Q:Exit→St→Prop}{st:St}{X:Type}{F:X→St}{inv:X→Prop}{μ:X→Nat}{x:X}(x':X)(h1:dF st (F x'))(h2:inv x')(h3:μ x'<μ x):xX F inv μ x Q .normal st:=⟨x',JY h1,h2,h3⟩
theorem qM(b:Bool)(n:Int):(li n).acs b= [.raw (.int .i64 n)]:=rfl
theorem qL(b:Bool)(s:ByteArray):(ls s).acs b= [.raw (.string s)]:=rfl
theorem oV(b:Bool)(v:Value):(D.leaf v).acs b= [.raw v]:=rfl
theorem wM(b:Bool)(l:List D):(D.sl l).acs b= [.sl b l]:=rfl
theorem dY(l:List Int):El 1 (l.map li):=fun d h=>by obtain⟨x,_,rfl⟩:=f_.1 h;exact⟨rfl,rfl⟩
theorem eu(l:List ByteArray):El 1 (l.map ls):=fun d h=>by obtain⟨x,_,rfl⟩:=f_.1 h;exact⟨rfl,rfl⟩
theorem Qi(s:Nat):El s []:=fun d h=>by simp at h
theorem La{s:Nat}{d:D}{l:List D}:El s (d::l)=((d.one∧d.sz=s)∧El s l):=by
 apply propext;constructor
 ·intro h;exact⟨h d (by simp),fun x hx=>h x (by simp[hx])⟩
 ·rintro⟨h1,h2⟩ x hx;rcases List.mem_cons.1 hx with rfl|hx
  ·exact h1
  ·exact h2 x hx
theorem lH{α:Type}{g:α→D}(hg:∀(x:α) (w:World) (f:List Nat) (cs:List Value),R w (g x) f cs→f= []):∀(l:List α),jQ (l.map g)
 | [],w,f,cs,h=>h.1
 | x::l,w,f,cs,h=>by
   rw[R_,Rs]at h;obtain⟨f1,f2,c1,c2,rfl,rfl,h1,h2⟩:=h;rw[hg x w f1 c1 h1,lH hg l w f2 c2 h2];rfl
theorem Nq(l:List Int):jQ (l.map li):=lH (g:=li) (fun x w f cs h=>(show f= []∧_ from h).1) l
theorem kF(l:List ByteArray):jQ (l.map ls):=lH (g:=ls) (fun x w f cs h=>(show f= []∧_ from h).1) l
theorem KR(l:List D)(k:Nat):idx l (some (k:Int))=l[k]? :=by simp[idx]
theorem KT{α:Type}(f:α→D)(l:List α){k:Nat}(h:k<l.length):idx (l.map f) (some (k:Int))=some (f l[k]):=by
 rw[KR,s_,a_ h];rfl
theorem Fv{n:Nat}(h:n≤9223372036854775806):IntKind.i64.wrap ((n:Int)+1)=((n+1:Nat):Int):=by
 rw[IntWalk.i64_in _ (by omega)];rfl
theorem wz.tos{l:List D}{e s:Nat}{w:World}{en:Ending}{w':World}(h:wz false l e s w en w')(hf:jQ l):kY l w en w':=by
 obtain⟨v,cs,f,rfl,h1,h2,h3,h4⟩:=h;have:=hf _ _ _ h2;subst this;exact⟨_,v,rfl,Sl.kU h1 h2,aX.kU h1 aX.nil (fun g hg=>by simp),h4⟩
theorem mD.to{P:Program}{f:Nat}{ds l:List D}{e s:Nat}(h:mD P f ds l e s)(hf:jQ l):aJ P f ds (.c false [.sl true l]):=by
 intro w vs hr ht;refine(h w vs hr ht).mono ?_;rintro en w' ⟨v,cs,f',rfl,h1,h2,h3,h4⟩;have:=hf _ _ _ h2;subst this;refine⟨v,rfl,⟨⟨_,Sl.kU h1 h2,fun b hb=> ?_⟩,trivial⟩,h4⟩;rw[List.append_nil]at hb;have:=(aS.lt h1 b (by simpa using hb)).1;exact⟨lU.2 this,fun _=>y_ this⟩
theorem GOrigin.aI(x:GOrigin):x.toD.flat= [.leaf (.int .i64 x.cell),.leaf (.int .i64 x.row)]:=by
 simp[GOrigin.aj,D.flat,D.iM,li,ls]
theorem GOrigin.aK(x:GOrigin)(b:Bool):x.toD.acs b= [.raw (.int .i64 x.cell),.raw (.int .i64 x.row)]:=by
 simp[D.acs,GOrigin.aI,D.ac]
theorem GOrigin.aZ(x:GOrigin):x.toD.isAgg=true:=by rw[GOrigin.aj];rfl
theorem GOrigin.fK(x:GOrigin):x.toD.one:=by
 simp[GOrigin.aj,D.one,D.ones,li,ls,j_]
theorem GOrigin.el(l:List GOrigin):El 2 (l.map GOrigin.toD):=fun d h=>by obtain⟨x,_,rfl⟩:=f_.1 h;exact⟨x.fK,x.sz_eq⟩
theorem GOrigin.KY(l:List GOrigin):jQ (l.map GOrigin.toD):=lH (fun x w f cs h=>(GOrigin.opened.1 h).1) l
theorem GRow.aI(x:GRow):x.toD.flat= [.sl (x.cells.map li),.sl (x.src.map GOrigin.toD)]:=by
 simp[GRow.aj,D.flat,D.iM,li,ls]
theorem GRow.aK(x:GRow)(b:Bool):x.toD.acs b= [.sl b (x.cells.map li),.sl b (x.src.map GOrigin.toD)]:=by
 simp[D.acs,GRow.aI,D.ac]
theorem GRow.aZ(x:GRow):x.toD.isAgg=true:=by rw[GRow.aj];rfl
theorem GRow.fK(x:GRow):x.toD.one:=by
 simp[GRow.aj,D.one,D.ones,li,ls,j_]
theorem GRow.el(l:List GRow):El 2 (l.map GRow.toD):=fun d h=>by obtain⟨x,_,rfl⟩:=f_.1 h;exact⟨x.fK,x.sz_eq⟩
theorem GVal.aI(x:GVal):x.toD.flat= [.leaf (.int .i64 x.kind),.leaf (.int .i64 x.n),.leaf (.int .i64 x.step),.leaf (.string x.text),.sl (x.list.map GVal.toD),.sl (x.cols.map ls),.sl (x.rows.map GRow.toD)]:=by
 simp[GVal.aj,D.flat,D.iM,li,ls]
theorem GVal.aK(x:GVal)(b:Bool):x.toD.acs b= [.raw (.int .i64 x.kind),.raw (.int .i64 x.n),.raw (.int .i64 x.step),.raw (.string x.text),.sl b (x.list.map GVal.toD),.sl b (x.cols.map ls),.sl b (x.rows.map GRow.toD)]:=by
 simp[D.acs,GVal.aI,D.ac]
theorem GVal.aZ(x:GVal):x.toD.isAgg=true:=by rw[GVal.aj];rfl
theorem GVal.fK(x:GVal):x.toD.one:=by
 simp[GVal.aj,D.one,D.ones,li,ls,j_]
theorem GVal.el(l:List GVal):El 7 (l.map GVal.toD):=fun d h=>by obtain⟨x,_,rfl⟩:=f_.1 h;exact⟨x.fK,x.sz_eq⟩
theorem GTok.aI(x:GTok):x.toD.flat= [.leaf (.int .i64 x.kind),.leaf (.int .i64 x.n),.leaf (.int .i64 x.pos),.leaf (.string x.text)]:=by
 simp[GTok.aj,D.flat,D.iM,li,ls]
theorem GTok.aK(x:GTok)(b:Bool):x.toD.acs b= [.raw (.int .i64 x.kind),.raw (.int .i64 x.n),.raw (.int .i64 x.pos),.raw (.string x.text)]:=by
 simp[D.acs,GTok.aI,D.ac]
theorem GTok.aZ(x:GTok):x.toD.isAgg=true:=by rw[GTok.aj];rfl
theorem GTok.fK(x:GTok):x.toD.one:=by
 simp[GTok.aj,D.one,D.ones,li,ls,j_]
theorem GTok.el(l:List GTok):El 4 (l.map GTok.toD):=fun d h=>by obtain⟨x,_,rfl⟩:=f_.1 h;exact⟨x.fK,x.sz_eq⟩
theorem GTok.KY(l:List GTok):jQ (l.map GTok.toD):=lH (fun x w f cs h=>(GTok.opened.1 h).1) l
theorem GExpr.aI(x:GExpr):x.toD.flat= [.leaf (.int .i64 x.kind),.leaf (.int .i64 x.n),.leaf (.string x.text),.sl (x.args.map GExpr.toD)]:=by
 simp[GExpr.aj,D.flat,D.iM,li,ls]
theorem GExpr.aK(x:GExpr)(b:Bool):x.toD.acs b= [.raw (.int .i64 x.kind),.raw (.int .i64 x.n),.raw (.string x.text),.sl b (x.args.map GExpr.toD)]:=by
 simp[D.acs,GExpr.aI,D.ac]
theorem GExpr.aZ(x:GExpr):x.toD.isAgg=true:=by rw[GExpr.aj];rfl
theorem GExpr.fK(x:GExpr):x.toD.one:=by
 simp[GExpr.aj,D.one,D.ones,li,ls,j_]
theorem GExpr.el(l:List GExpr):El 4 (l.map GExpr.toD):=fun d h=>by obtain⟨x,_,rfl⟩:=f_.1 h;exact⟨x.fK,x.sz_eq⟩
theorem GCell.aI(x:GCell):x.toD.flat= [.leaf (.int .i64 x.id),.leaf (.int .i64 x.ver),.leaf (.int .i64 x.kind),.leaf (.string x.name),.leaf (.string x.code),.leaf (.int .i64 x.n)]:=by
 simp[GCell.aj,D.flat,D.iM,li,ls]
theorem GCell.aK(x:GCell)(b:Bool):x.toD.acs b= [.raw (.int .i64 x.id),.raw (.int .i64 x.ver),.raw (.int .i64 x.kind),.raw (.string x.name),.raw (.string x.code),.raw (.int .i64 x.n)]:=by
 simp[D.acs,GCell.aI,D.ac]
theorem GCell.aZ(x:GCell):x.toD.isAgg=true:=by rw[GCell.aj];rfl
theorem GCell.fK(x:GCell):x.toD.one:=by
 simp[GCell.aj,D.one,D.ones,li,ls,j_]
theorem GCell.el(l:List GCell):El 6 (l.map GCell.toD):=fun d h=>by obtain⟨x,_,rfl⟩:=f_.1 h;exact⟨x.fK,x.sz_eq⟩
theorem GCell.KY(l:List GCell):jQ (l.map GCell.toD):=lH (fun x w f cs h=>(GCell.opened.1 h).1) l
theorem GNb.aI(x:GNb):x.toD.flat= [.sl (x.cells.map GCell.toD)]:=by
 simp[GNb.aj,D.flat,D.iM,li,ls]
theorem GNb.aK(x:GNb)(b:Bool):x.toD.acs b= [.sl b (x.cells.map GCell.toD)]:=by
 simp[D.acs,GNb.aI,D.ac]
theorem GNb.aZ(x:GNb):x.toD.isAgg=true:=by rw[GNb.aj];rfl
theorem GNb.fK(x:GNb):x.toD.one:=by
 simp[GNb.aj,D.one,D.ones,li,ls,j_]
theorem GNb.el(l:List GNb):El 1 (l.map GNb.toD):=fun d h=>by obtain⟨x,_,rfl⟩:=f_.1 h;exact⟨x.fK,x.sz_eq⟩
theorem GPart.aI(x:GPart):x.toD.flat= [.leaf (.int .i64 x.kind),.leaf (.string x.name),.leaf (.int .i64 x.expr.kind),.leaf (.int .i64 x.expr.n),.leaf (.string x.expr.text),.sl (x.expr.args.map GExpr.toD),.leaf (.int .i64 x.value.kind),.leaf (.int .i64 x.value.n),.leaf (.int .i64 x.value.step),.leaf (.string x.value.text),.sl (x.value.list.map GVal.toD),.sl (x.value.cols.map ls),.sl (x.value.rows.map GRow.toD),.leaf (.int .i64 x.pos)]:=by
 simp[GPart.aj,GExpr.aj,GVal.aj,D.flat,D.iM,li,ls]
theorem GPart.aK(x:GPart)(b:Bool):x.toD.acs b= [.raw (.int .i64 x.kind),.raw (.string x.name),.raw (.int .i64 x.expr.kind),.raw (.int .i64 x.expr.n),.raw (.string x.expr.text),.sl b (x.expr.args.map GExpr.toD),.raw (.int .i64 x.value.kind),.raw (.int .i64 x.value.n),.raw (.int .i64 x.value.step),.raw (.string x.value.text),.sl b (x.value.list.map GVal.toD),.sl b (x.value.cols.map ls),.sl b (x.value.rows.map GRow.toD),.raw (.int .i64 x.pos)]:=by
 simp[D.acs,GPart.aI,D.ac]
theorem GPart.aZ(x:GPart):x.toD.isAgg=true:=by rw[GPart.aj];rfl
theorem GPart.fK(x:GPart):x.toD.one:=by
 simp[GPart.aj,GExpr.aj,GVal.aj,D.one,D.ones,li,ls,j_]
theorem GPart.el(l:List GPart):El 14 (l.map GPart.toD):=fun d h=>by obtain⟨x,_,rfl⟩:=f_.1 h;exact⟨x.fK,x.sz_eq⟩
theorem GEdit.aI(x:GEdit):x.toD.flat= [.leaf (.int .i64 x.kind),.leaf (.int .i64 x.pos),.leaf (.int .i64 x.cell.id),.leaf (.int .i64 x.cell.ver),.leaf (.int .i64 x.cell.kind),.leaf (.string x.cell.name),.leaf (.string x.cell.code),.leaf (.int .i64 x.cell.n)]:=by
 simp[GEdit.aj,GCell.aj,D.flat,D.iM,li,ls]
theorem GEdit.aK(x:GEdit)(b:Bool):x.toD.acs b= [.raw (.int .i64 x.kind),.raw (.int .i64 x.pos),.raw (.int .i64 x.cell.id),.raw (.int .i64 x.cell.ver),.raw (.int .i64 x.cell.kind),.raw (.string x.cell.name),.raw (.string x.cell.code),.raw (.int .i64 x.cell.n)]:=by
 simp[D.acs,GEdit.aI,D.ac]
theorem GEdit.aZ(x:GEdit):x.toD.isAgg=true:=by rw[GEdit.aj];rfl
theorem GEdit.fK(x:GEdit):x.toD.one:=by
 simp[GEdit.aj,GCell.aj,D.one,D.ones,li,ls,j_]
theorem GEdit.el(l:List GEdit):El 8 (l.map GEdit.toD):=fun d h=>by obtain⟨x,_,rfl⟩:=f_.1 h;exact⟨x.fK,x.sz_eq⟩
theorem GEdit.KY(l:List GEdit):jQ (l.map GEdit.toD):=lH (fun x w f cs h=>(GEdit.opened.1 h).1) l
theorem GRead.aI(x:GRead):x.toD.flat= [.leaf (.int .i64 x.kind),.leaf (.int .i64 x.n),.leaf (.int .i64 x.time),.leaf (.string x.text),.leaf (.int .i64 x.result.kind),.leaf (.int .i64 x.result.n),.leaf (.int .i64 x.result.step),.leaf (.string x.result.text),.sl (x.result.list.map GVal.toD),.sl (x.result.cols.map ls),.sl (x.result.rows.map GRow.toD)]:=by
 simp[GRead.aj,GVal.aj,D.flat,D.iM,li,ls]
theorem GRead.aK(x:GRead)(b:Bool):x.toD.acs b= [.raw (.int .i64 x.kind),.raw (.int .i64 x.n),.raw (.int .i64 x.time),.raw (.string x.text),.raw (.int .i64 x.result.kind),.raw (.int .i64 x.result.n),.raw (.int .i64 x.result.step),.raw (.string x.result.text),.sl b (x.result.list.map GVal.toD),.sl b (x.result.cols.map ls),.sl b (x.result.rows.map GRow.toD)]:=by
 simp[D.acs,GRead.aI,D.ac]
theorem GRead.aZ(x:GRead):x.toD.isAgg=true:=by rw[GRead.aj];rfl
theorem GRead.fK(x:GRead):x.toD.one:=by
 simp[GRead.aj,GVal.aj,D.one,D.ones,li,ls,j_]
theorem GRead.el(l:List GRead):El 11 (l.map GRead.toD):=fun d h=>by obtain⟨x,_,rfl⟩:=f_.1 h;exact⟨x.fK,x.sz_eq⟩
theorem GTape.aI(x:GTape):x.toD.flat= [.leaf (.int .i64 x.cell),.leaf (.int .i64 x.ver),.sl (x.reads.map GRead.toD)]:=by
 simp[GTape.aj,D.flat,D.iM,li,ls]
theorem GTape.aK(x:GTape)(b:Bool):x.toD.acs b= [.raw (.int .i64 x.cell),.raw (.int .i64 x.ver),.sl b (x.reads.map GRead.toD)]:=by
 simp[D.acs,GTape.aI,D.ac]
theorem GTape.aZ(x:GTape):x.toD.isAgg=true:=by rw[GTape.aj];rfl
theorem GTape.fK(x:GTape):x.toD.one:=by
 simp[GTape.aj,D.one,D.ones,li,ls,j_]
theorem GTape.el(l:List GTape):El 3 (l.map GTape.toD):=fun d h=>by obtain⟨x,_,rfl⟩:=f_.1 h;exact⟨x.fK,x.sz_eq⟩
theorem GBind.aI(x:GBind):x.toD.flat= [.leaf (.string x.name),.leaf (.int .i64 x.value.kind),.leaf (.int .i64 x.value.n),.leaf (.int .i64 x.value.step),.leaf (.string x.value.text),.sl (x.value.list.map GVal.toD),.sl (x.value.cols.map ls),.sl (x.value.rows.map GRow.toD)]:=by
 simp[GBind.aj,GVal.aj,D.flat,D.iM,li,ls]
theorem GBind.aK(x:GBind)(b:Bool):x.toD.acs b= [.raw (.string x.name),.raw (.int .i64 x.value.kind),.raw (.int .i64 x.value.n),.raw (.int .i64 x.value.step),.raw (.string x.value.text),.sl b (x.value.list.map GVal.toD),.sl b (x.value.cols.map ls),.sl b (x.value.rows.map GRow.toD)]:=by
 simp[D.acs,GBind.aI,D.ac]
theorem GBind.aZ(x:GBind):x.toD.isAgg=true:=by rw[GBind.aj];rfl
theorem GBind.fK(x:GBind):x.toD.one:=by
 simp[GBind.aj,GVal.aj,D.one,D.ones,li,ls,j_]
theorem GBind.el(l:List GBind):El 8 (l.map GBind.toD):=fun d h=>by obtain⟨x,_,rfl⟩:=f_.1 h;exact⟨x.fK,x.sz_eq⟩
theorem LY :type_of% (UZ @GOrigin.aI (UZ @GOrigin.aK (UZ @GOrigin.aZ (UZ @GRow.aI (UZ @GRow.aK (UZ @GRow.aZ (UZ @GVal.aI (UZ @GVal.aK (UZ @GVal.aZ (UZ @GTok.aI (UZ @GTok.aK (UZ @GTok.aZ (UZ @GExpr.aI (UZ @GExpr.aK (UZ @GExpr.aZ (UZ @GCell.aI (UZ @GCell.aK (UZ @GCell.aZ (UZ @GNb.aI (UZ @GNb.aK (UZ @GNb.aZ (UZ @GPart.aI (UZ @GPart.aK (UZ @GPart.aZ (UZ @GEdit.aI (UZ @GEdit.aK (UZ @GEdit.aZ (UZ @GRead.aI (UZ @GRead.aK (UZ @GRead.aZ (UZ @GTape.aI (UZ @GTape.aK (UZ @GTape.aZ (UZ @GBind.aI (UZ @GBind.aK (@GBind.aZ)))))))))))))))))))))))))))))))))))):=UZ @GOrigin.aI (UZ @GOrigin.aK (UZ @GOrigin.aZ (UZ @GRow.aI (UZ @GRow.aK (UZ @GRow.aZ (UZ @GVal.aI (UZ @GVal.aK (UZ @GVal.aZ (UZ @GTok.aI (UZ @GTok.aK (UZ @GTok.aZ (UZ @GExpr.aI (UZ @GExpr.aK (UZ @GExpr.aZ (UZ @GCell.aI (UZ @GCell.aK (UZ @GCell.aZ (UZ @GNb.aI (UZ @GNb.aK (UZ @GNb.aZ (UZ @GPart.aI (UZ @GPart.aK (UZ @GPart.aZ (UZ @GEdit.aI (UZ @GEdit.aK (UZ @GEdit.aZ (UZ @GRead.aI (UZ @GRead.aK (UZ @GRead.aZ (UZ @GTape.aI (UZ @GTape.aK (UZ @GTape.aZ (UZ @GBind.aI (UZ @GBind.aK (@GBind.aZ)))))))))))))))))))))))))))))))))))
theorem fJ(l:List D):(D.sl l).isAgg=false:=rfl
theorem bQ(v:Value):(D.leaf v).isAgg=false:=rfl
theorem fO(n:Int):(li n).isAgg=false:=rfl
theorem fM(s:ByteArray):(ls s).isAgg=false:=rfl
theorem eF(l:List D):(D.sl l).flat= [.sl l]:=by rw[D.flat]
theorem bG(v:Value):(D.leaf v).flat= [.leaf v]:=by rw[D.flat]
theorem eH(n:Int):(li n).flat= [.leaf (.int .i64 n)]:=bG _
theorem eG(s:ByteArray):(ls s).flat= [.leaf (.string s)]:=bG _
section
variable{P:Program}{f:Nat}{w:World}
theorem Uo{d:D}{vs:List Value}(h:Rds w [d] vs):∃v,vs= [v]∧Rd w d v:=by
 match vs,h with
 | [v],h=>exact⟨v,rfl,h.1⟩
theorem Oz{d:D}{v:Value}(hd:d.isAgg=true)(h:Rd w d v):∃fp cs,v= .agg cs.toArray∧R w d fp cs:=by
 unfold Rd at h;rw[if_pos hd]at h;exact h
theorem oP{l:List D}{fp:List Nat}{v:Value}(h:Sl w l fp v):Rd w (.sl l) v:=⟨fp,h⟩
theorem iT(u:Value):Rd w (.leaf u) u:=⟨[],rfl,rfl⟩
theorem of_own{ds l:List D}{e s:Nat}(h:mD P f ds l e s)(hf:jQ l){w:World}{vs:List Value}(hr:Rds w ds vs)(ht:nM w:=by first|exact trivial|assumption):Calls P f vs.toArray w (kY l w):=(h w vs hr ht).mono fun en w' h1=>wz.tos h1 hf
def NQ(l:List D)(u:Value)(w:World)(e:Ending)(w':World):Prop:=∃fp v,e= .returned (.tuple #[.agg #[v],u])∧Sl w' l fp v∧aX w' w.heap.size fp∧Below w.heap.size w w'
theorem RI{ds l:List D}{e s:Nat}{u:Value}(h:dH P f ds (.tup [(true,[.own 0 0]),(false,[.raw u])]) [⟨l,e,s,0,true⟩])(hf:jQ l){w:World}{vs:List Value}(hr:Rds w ds vs)(ht:nM w:=by first|exact trivial|assumption):Calls P f vs.toArray w (NQ l u w):=(h w vs hr ht).mono fun en w' ⟨v,om,h1,h2,h3,h4⟩=>by
 obtain⟨us,rfl,h5⟩:=h3
 match us,h5 with
 | [a,b],⟨h6,h7,_⟩=>
   obtain⟨xs,rfl,h8⟩:=h6;obtain rfl:=h7.1
   match xs,h8 with
   | [x],⟨⟨_,o,p,g1,g2,g3,g4⟩,_⟩=>
     simp at g1;subst g1;obtain rfl:=g4 rfl;obtain⟨_,o2,_⟩:=h2;obtain⟨cs,k1,k2,k3,k4⟩:=o2 0 _ p rfl g2;have:=hf _ _ _ k2;rw[this]at k2;exact⟨_,p.1,h1,Sl.kU k1 k2,aX.kU k1 aX.nil (fun g hg=>by simp),h4⟩
theorem dH.to{ds l:List D}{e s:Nat}{u:Value}(h:dH P f ds (.tup [(true,[.own 0 0]),(false,[.raw u])]) [⟨l,e,s,0,true⟩])(hf:jQ l):aJ P f ds (.tup [(true,[.sl true l]),(false,[.raw u])]):=fun w vs hr ht=>(RI h hf hr ht).mono fun en w' ⟨fp,v,h1,h2,h3,h4⟩=>
 ⟨_,h1,⟨[.agg #[v],u],rfl,⟨[v],rfl,⟨fp,h2,fun b hb=>⟨lU.2 (h3.2 b hb).1,fun _=>y_ (h3.2 b hb).1⟩⟩,trivial⟩,⟨rfl,trivial⟩,trivial⟩,h4⟩
end
section
variable{P:Program}{f:Nat}{w:World}
def sV(w:World)(base:Nat)(fp:List Nat):Prop:=True∧∀b∈fp,base≤b∧True
theorem sV.mono{w:World}{base base':Nat}{fp:List Nat}(h:sV w base fp)(hb:base'≤base):sV w base' fp:=⟨trivial,fun b hm=>⟨q_ hb (h.2 b hm).1,trivial⟩⟩
theorem sV.below{w w':World}{base:Nat}{fp:List Nat}(h:sV w base fp)(hl:∀b∈fp,b<w.heap.size)(hb:Below w.heap.size w w'):sV w' base fp:=⟨trivial,h.2⟩
theorem sV.touch{fp:List Nat}{a b:World}{base:Nat}{g:List Nat}(hF:sV a base g)(hl:∀x∈g,x<a.heap.size)(h:Touch fp a b):sV b base g:=⟨trivial,hF.2⟩
theorem of_flat{E:Env}{os:List Own}{w:World}:∀{l:List D} {n:Bool} {vs:List Value},(∀d∈l,d.isAgg=false)→Oks E os w (l.map (D.ac n)) vs→∃fp,Rs w l fp vs∧∀b∈fp,b∉E.M∧(n=true→E.nw b)
 | [],_,[],_,_=>⟨[],⟨rfl,rfl⟩,fun b hb=>by simp at hb⟩
 | d ::l,n,v::vs,ha,h=>by
   obtain⟨f2,r2,m2⟩:=of_flat (fun x hx=>ha x (by simp[hx])) h.2;have h1:=h.1;cases d with
   | leaf u=>
     obtain rfl:v=u:=h1;exact⟨f2,⟨[],f2,[v],vs,rfl,rfl,⟨rfl,rfl⟩,r2⟩,m2⟩
   | sl l'=>
     obtain⟨fp,g1,g2⟩:=h1;refine⟨fp++f2,⟨fp,f2,[v],vs,rfl,rfl,g1,r2⟩,fun b hb=> ?_⟩;rcases o_.1 hb with hb|hb
     ·exact g2 b hb
     ·exact m2 b hb
   |agg l'=>have:=ha (.agg l') (by simp);cases this
 | [],_,_::_,_,h=>h.elim
 |_::_,_,[],_,h=>h.elim
theorem Pz{w w':World}{om:List (Value×List Nat)}{os:List Own}(h:oL w.heap.size w' om os)(hb:Below w.heap.size w w')(ht:nM w):
 Rel w.heap.size [] ⟨⟨w.heap.size,om,[],[]⟩,os,w'⟩ w ⟨[],os,[]⟩ ⟨w.heap.size,om,[],[]⟩ {tmps:= #[],defers:= []} w' where
 eb:=m_ _
 ex:=rfl
 sim:=Sim.refl _ _ _
 defers:=rfl
 size:=rfl
 fr:=fun t y hy=>by simp at hy
 olen:=h.1
 own:=fun k o p g1 g2=>by
  obtain⟨cs,q1,q2,q3,q4⟩:=h.2.1 k o p g1 g2;exact⟨cs,q1,q2,q3,fun b hb=>⟨fun hm=>(q4 b hb).2 (by simpa[Env.M]using hm),fun _=>y_ (q4 b hb).1⟩⟩
 blen:=rfl
 box:=fun k xs p g1 g2=>by simp at g1
 nodup:=by simpa[Env.M]using h.2.2.1
 lin:=h.2.2.2.1
 unf:=h.2.2.2.2
 below:=(BelowT.start ht).trans hb
 base:=hb.size
theorem MK{w w':World}{om:List (Value×List Nat)}{os:List Own}(h:oL w.heap.size w' om os)(hb:Below w.heap.size w w')(ht:nM w){xs:List AC}{dd:List D}{cs:List Value}(hd:iC os xs=some dd)
 (hn:(xs.flatMap lcK).Nodup) (hk:∀k∈xs.flatMap lcK,aW os k) (hx:Oks ⟨w.heap.size,om,[],[]⟩ os w' xs cs):∃fp,R w' (.agg dd) fp cs∧aX w' w.heap.size fp:=by
 have hR:=Pz h hb ht;obtain⟨E',q1,q2,q3,q4,q5,q6,q7⟩:=Rel.Oi _ hR hn hk;obtain⟨_,_,r⟩:=Eu hR hd hx;refine⟨_,by rw[dK];exact r,q4,fun b hb1=>⟨?_,fun o=> ?_⟩⟩
 ·have:=(q5 b hb1).2;simpa[Env.nw]using this
 ·obtain⟨k,hk1,hk2⟩:=i_.1 hb1;exact hR.A8 (hk k hk1) b hk2 o
end
def stS(n:Nat)(avs:List AV)(os:List Own)(bs:List (List AC)):St:=⟨avs++O_ (n - avs.length) (.c false [.raw undef]),os,bs⟩
section
variable{lo:Nat×Nat}{P:Program}{K:St→Prop}{Q:Exit→St→Prop}{st:St}{m:Bool}
theorem dn{c:Opd}{x y:IC}{b:Bool}(hb:st.ev c= .c false [.raw (.bool b)])(h1:b=true→jv lo P x Q st)(h2:b=false→jv lo P y Q st):jv lo P (.cond c x y) Q st:=Bc hb h1 h2
theorem fF{os:List Own}{xs:List AV}{ds:List D}(h:aO os xs ds):aO os xs ds:=h
theorem fC{f:Nat}(h:AQ P f=true):AQ P f=true:=h
theorem NM{a b:Prop}(h1:a)(h2:b):a∧b:=⟨h1,h2⟩
theorem Tn{d:Option Nat}{f:Nat}{avs:List AV}{rest:List IOp}(h:jV P K d f avs rest st):jV P K d f avs rest st:=h
theorem QD{d:Option Nat}{f:Nat}{avs:List AV}{rest:List IOp}(h:o9 P m K d f avs rest st):o9 P m K d f avs rest st:=h
theorem jT{l:List IOp}(h:sw P K l st):sw P K l st:=h
theorem lq{l:List IOp}(h:sd P m K l st):sd P m K l st:=h
theorem wK{d:Option Nat}{g:Nat}{w:Bool}{i:I}{rest:List IOp}(hg:gdA st (some (g,w))=some true)(h:sw P K (⟨d,none,i⟩::rest) st):sw P K (⟨d,some (g,w),i⟩::rest) st:=by
 rw[FI,hg];exact h
theorem wL{d:Option Nat}{g:Nat}{w:Bool}{i:I}{rest:List IOp}(hg:gdA st (some (g,w))=some false)(h:sw P K rest (st.put d (.c false [.raw undef]))):sw P K (⟨d,some (g,w),i⟩::rest) st:=by
 rw[FI,hg];exact h
theorem wO{d:Option Nat}{g:Nat}{w:Bool}{i:I}{rest:List IOp}(hg:gdA st (some (g,w))=some true)(h:sd P m K (⟨d,none,i⟩::rest) st):sd P m K (⟨d,some (g,w),i⟩::rest) st:=by
 rw[FQ,hg];exact h
theorem wP{d:Option Nat}{g:Nat}{w:Bool}{i:I}{rest:List IOp}(hg:gdA st (some (g,w))=some false)(h:sd P m K rest (st.put d (.c false [.raw undef]))):sd P m K (⟨d,some (g,w),i⟩::rest) st:=by
 rw[FQ,hg];exact h
theorem oq{g:Nat}{w b:Bool}(h:st.fr.getD g .any= .c false [.raw (.bool b)]):gdA st (some (g,w))=some (b==w):=by
 simp only[gdA,h]
theorem LZ{d:Option Nat}{g:Nat}{w b:Bool}{i:I}{rest:List IOp}(hg:st.fr.getD g .any= .c false [.raw (.bool b)])(h1:b=w→sw P K (⟨d,none,i⟩::rest) st)(h2:b= !w→sw P K rest (st.put d (.c false [.raw undef]))):
 sw P K (⟨d,some (g,w),i⟩::rest) st:=by
 cases b<;>cases w
 ·exact wK (oq hg) (h1 rfl)
 ·exact wL (oq hg) (h2 rfl)
 ·exact wL (oq hg) (h2 rfl)
 ·exact wK (oq hg) (h1 rfl)
theorem MC{d:Option Nat}{g:Nat}{w b:Bool}{i:I}{rest:List IOp}(hg:st.fr.getD g .any= .c false [.raw (.bool b)])(h1:b=w→sd P m K (⟨d,none,i⟩::rest) st)(h2:b= !w→sd P m K rest (st.put d (.c false [.raw undef]))):
 sd P m K (⟨d,some (g,w),i⟩::rest) st:=by
 cases b<;>cases w
 ·exact wO (oq hg) (h1 rfl)
 ·exact wP (oq hg) (h2 rfl)
 ·exact wP (oq hg) (h2 rfl)
 ·exact wO (oq hg) (h1 rfl)
end
theorem JM{z:Int}(h1: -9223372036854775808≤z)(h2:z≤9223372036854775807):IntKind.i64.wrap z=z:=IntWalk.i64_in _ ⟨h1,h2⟩
theorem S9{α:Type}{a b:Nat}{x y:α}(h:a<b):(if a<b then x else y)=x:=if_pos h
theorem Tc{α:Type}{a b:Nat}{x y:α}(h:a≤b):(if a≤b then x else y)=x:=if_pos h
theorem Ti{p:Prop}[Decidable p](h:p):decide p=true:=decide_eq_true h
theorem Tj{p:Prop}[Decidable p](h:¬p):decide p=false:=decide_eq_false h
theorem Tv{a b:Int}(h:a=b):(a==b)=true:=by simp[h]
theorem Tz{a b:Int}(h:a≠b):(a==b)=false:=by simp[h]
theorem Tq{a b:Int}(h:a≠b):(a !=b)=true:=by simp[h]
theorem Tt{a b:Int}(h:a=b):(a !=b)=false:=by simp[h]
theorem PW{l:List D}{k:Nat}(h:k<l.length):idx l (some (k:Int))=some l[k]:=by
 rw[KR,a_ h]
theorem GH{α:Type}(f:α→D)(l:List α){z:Int}(h0:0≤z)(h:z.toNat<l.length):idx (l.map f) (some z)=some (f l[z.toNat]):=by
 simp only[idx];rw[if_pos h0,s_,a_ h];rfl
theorem rE{k n:Nat}(h:k≤n):jr none (some (k:Int)) n=some (0,k):=by
 simp[jr,h]
theorem lD{k n:Nat}(h:k≤n):jr (some (k:Int)) none n=some (k,n):=by
 simp[jr,h]
theorem CS{j k n:Nat}(h:j≤k)(h':k≤n):jr (some (j:Int)) (some (k:Int)) n=some (j,k):=by
 simp only[jr,n_];rw[if_pos (by omega)];simp
theorem FM{n:Nat}(h:1≤n):jr (some (1:Int)) none n=some (1,n):=by
 have:=lD h;simpa using this
theorem FN{n:Nat}:jr none none n=some (0,n):=by
 simp[jr]
section
variable{α:Type}
end
theorem Iu{n m n' m':Nat}(h:n≤n')(h':m≤m'){x:AC}(hx:x.fits n m=true):x.fits n' m'=true:=by
 cases x with
 |own k i=>simp[AC.fits]at hx⊢;omega
 |osub k i a b=>simp[AC.fits]at hx⊢;omega
 | cl f caps=>
   simp only[AC.fits,w_,decide_eq_true_eq]at hx⊢;exact fun k hk=>E_ (hx k hk) h'
 |_=>rfl
def LQ(n m:Nat)(bx:List (List AC)):Prop:=(bx.all fun xs=>xs.all (AC.fits n m))=true
theorem LQ.mono{n m n' m':Nat}{bx:List (List AC)}(h:LQ n m bx)(h1:n≤n')(h2:m≤m'):LQ n' m' bx:=by
 simp only[LQ,w_]at h⊢;exact fun xs hx x hxx=>Iu h1 h2 (h xs hx x hxx)
theorem pkA :type_of% (UZ @R_.{0,0} (UZ @X_.{0,0} (UZ @B_.{0} (UZ @M_.{0} (UZ @t_.{0} (UZ @a_h.{0} (UZ @L_.{0,0} (UZ @T_.{0} (UZ @U_.{0} (UZ @J_.{0} (UZ @K_.{0} (UZ @Y_.{0} (UZ @Z_.{0} (UZ @V_.{0} (UZ @a_k.{0} (UZ @W_.{0} (UZ @a_l.{0} (UZ @a_m.{0} (UZ @a_n.{0} (UZ @a_s (UZ @a_t (UZ @a_u.{0} (UZ @l_.{0} (UZ @a_o (UZ @a_p (UZ @a_q (UZ @F_ (UZ @D_ (UZ @beq_self_eq_true.{0} (UZ @if_true.{1} (UZ @if_false.{1} (UZ @ite_true.{1} (UZ @ite_false.{1} (UZ @a_a (UZ @true_and (UZ @and_true (UZ @decide_true (UZ @decide_false (UZ @n_.{0} (UZ @a_g.{0} (UZ @m_ (UZ @A_ (UZ @Int.toNat_natCast (UZ @Int.natCast_nonneg (UZ @BEq.rfl.{0} (UZ @N_.{0,0} (UZ @a_i.{0,0} (UZ @QI (UZ @QG (UZ @qM (UZ @qL (UZ @oV (UZ @wM (UZ @dY (UZ @eu (UZ @Qi (@La))))))))))))))))))))))))))))))))))))))))))))))))))))))))):=UZ @R_.{0,0} (UZ @X_.{0,0} (UZ @B_.{0} (UZ @M_.{0} (UZ @t_.{0} (UZ @a_h.{0} (UZ @L_.{0,0} (UZ @T_.{0} (UZ @U_.{0} (UZ @J_.{0} (UZ @K_.{0} (UZ @Y_.{0} (UZ @Z_.{0} (UZ @V_.{0} (UZ @a_k.{0} (UZ @W_.{0} (UZ @a_l.{0} (UZ @a_m.{0} (UZ @a_n.{0} (UZ @a_s (UZ @a_t (UZ @a_u.{0} (UZ @l_.{0} (UZ @a_o (UZ @a_p (UZ @a_q (UZ @F_ (UZ @D_ (UZ @beq_self_eq_true.{0} (UZ @if_true.{1} (UZ @if_false.{1} (UZ @ite_true.{1} (UZ @ite_false.{1} (UZ @a_a (UZ @true_and (UZ @and_true (UZ @decide_true (UZ @decide_false (UZ @n_.{0} (UZ @a_g.{0} (UZ @m_ (UZ @A_ (UZ @Int.toNat_natCast (UZ @Int.natCast_nonneg (UZ @BEq.rfl.{0} (UZ @N_.{0,0} (UZ @a_i.{0,0} (UZ @QI (UZ @QG (UZ @qM (UZ @qL (UZ @oV (UZ @wM (UZ @dY (UZ @eu (UZ @Qi (@La))))))))))))))))))))))))))))))))))))))))))))))))))))))))
theorem pkN :type_of% (UZ @S9 (UZ @Tc (UZ @Ti (UZ @Tj (UZ @Tv (UZ @Tz (UZ @Tq (UZ @Tt (UZ @Fv (UZ @JM (UZ @PW (UZ @KT (UZ @GH (UZ @rE (UZ @lD (UZ @CS (UZ @FM (@FN)))))))))))))))))):=UZ @S9 (UZ @Tc (UZ @Ti (UZ @Tj (UZ @Tv (UZ @Tz (UZ @Tq (UZ @Tt (UZ @Fv (UZ @JM (UZ @PW (UZ @KT (UZ @GH (UZ @rE (UZ @lD (UZ @CS (UZ @FM (@FN)))))))))))))))))
theorem pkC :type_of% (UZ @decide_eq_true_eq (UZ @decide_eq_false_iff_not (UZ @beq_iff_eq.{0} (UZ @bne_iff_ne.{0} (UZ @ne_eq.{1} (UZ @beq_eq_false_iff_ne.{0} (UZ @bne_eq_false_iff_eq.{0} (UZ @a_e (UZ @a_c (UZ @Q_ (UZ @F_ (@D_)))))))))))):=UZ @decide_eq_true_eq (UZ @decide_eq_false_iff_not (UZ @beq_iff_eq.{0} (UZ @bne_iff_ne.{0} (UZ @ne_eq.{1} (UZ @beq_eq_false_iff_ne.{0} (UZ @bne_eq_false_iff_eq.{0} (UZ @a_e (UZ @a_c (UZ @Q_ (UZ @F_ (@D_)))))))))))
theorem pkW :type_of% (UZ @OH (UZ @Ko (UZ @OW (UZ @OX (UZ @OE (UZ @Kq (UZ @OM (UZ @OG (UZ @FY (UZ @OU (UZ @OV (UZ @OL (UZ @J9 (UZ @OD (UZ @OO (UZ @OJ (UZ @OI (UZ @Kr (UZ @J8 (UZ @SV (UZ @OT (UZ @OQ (UZ @Ku (@Kt)))))))))))))))))))))))):=UZ @OH (UZ @Ko (UZ @OW (UZ @OX (UZ @OE (UZ @Kq (UZ @OM (UZ @OG (UZ @FY (UZ @OU (UZ @OV (UZ @OL (UZ @J9 (UZ @OD (UZ @OO (UZ @OJ (UZ @OI (UZ @Kr (UZ @J8 (UZ @SV (UZ @OT (UZ @OQ (UZ @Ku (@Kt)))))))))))))))))))))))
theorem pkS :type_of% (UZ @Oa (UZ @Oc (UZ @Ob (UZ @JW (UZ @FK (UZ @Oe (UZ @FH (UZ @JX (@SN))))))))):=UZ @Oa (UZ @Oc (UZ @Ob (UZ @JW (UZ @FK (UZ @Oe (UZ @FH (UZ @JX (@SN))))))))
theorem pkD :type_of% (UZ @O6 (UZ @Kz (UZ @Po (UZ @Pq (UZ @O4 (UZ @KA (UZ @Pe (UZ @O5 (UZ @Gf (UZ @Pm (UZ @F9 (UZ @KD (UZ @Pn (UZ @O9 (UZ @Ky (UZ @O1 (UZ @Pg (UZ @O8 (UZ @O7 (UZ @KC (UZ @Kw (UZ @SX (UZ @Pj (UZ @Ph (UZ @KF (UZ @KE (UZ @Qn (UZ @Lh (UZ @Qy (UZ @Qz (UZ @Ql (UZ @Lj (UZ @Qr (UZ @Qm (UZ @Hz (UZ @Qw (UZ @Hy (UZ @Lm (UZ @Qx (UZ @Qq (UZ @Le (UZ @Qk (UZ @Qs (UZ @Qp (UZ @Qo (UZ @Ll (UZ @Ld (UZ @Tf (UZ @Qv (UZ @Qu (UZ @Ls (UZ @Lr (UZ @Lp (UZ @mJ (@mM))))))))))))))))))))))))))))))))))))))))))))))))))))))):=UZ @O6 (UZ @Kz (UZ @Po (UZ @Pq (UZ @O4 (UZ @KA (UZ @Pe (UZ @O5 (UZ @Gf (UZ @Pm (UZ @F9 (UZ @KD (UZ @Pn (UZ @O9 (UZ @Ky (UZ @O1 (UZ @Pg (UZ @O8 (UZ @O7 (UZ @KC (UZ @Kw (UZ @SX (UZ @Pj (UZ @Ph (UZ @KF (UZ @KE (UZ @Qn (UZ @Lh (UZ @Qy (UZ @Qz (UZ @Ql (UZ @Lj (UZ @Qr (UZ @Qm (UZ @Hz (UZ @Qw (UZ @Hy (UZ @Lm (UZ @Qx (UZ @Qq (UZ @Le (UZ @Qk (UZ @Qs (UZ @Qp (UZ @Qo (UZ @Ll (UZ @Ld (UZ @Tf (UZ @Qv (UZ @Qu (UZ @Ls (UZ @Lr (UZ @Lp (UZ @mJ (@mM))))))))))))))))))))))))))))))))))))))))))))))))))))))
theorem pkR :type_of% (UZ @Ol (UZ @Oo (UZ @Om (UZ @D9 (UZ @FT (UZ @Ou (UZ @Oq (@Ot)))))))):=UZ @Ol (UZ @Oo (UZ @Om (UZ @D9 (UZ @FT (UZ @Ou (UZ @Oq (@Ot)))))))
def AC.ren(pk:List Nat):AC→AC
 | .own k i=> .own (pk.getD k 0) i
 | .osub k i a b=> .osub (pk.getD k 0) i a b
 |x=>x
def AV.ren(pk:List Nat):AV→AV
 | .c g xs=> .c g (xs.map (AC.ren pk))
 | .ptr xs=> .ptr (xs.map (AC.ren pk))
 | .eptr k i j off=> .eptr (pk.getD k 0) i j off
 | .tup ys=> .tup (ys.map fun y=>(y.1,y.2.map (AC.ren pk)))
 |x=>x
def TA(pk:List Nat)(n m:Nat):List AV→List AV→Prop
 | [],[]=>True
 |x::xs,y::ys=>(y= .any∨(x=y.ren pk∧y.fits n m=true))∧TA pk n m xs ys
 |_,_=>False
def QX(os:List Own):List Nat→List Own→Prop
 | [],[]=>True
 |k::pk,o'::os'=>(match os[k]? with|some o=>o.l=o'.l∧o.e=o'.e∧o.s=o'.s∧o.ver=o'.ver∧o.nw=o'.nw|none=>False)∧QX os pk os'
 |_,_=>False
def QZ(pk:List Nat):List (List AC)→List (List AC)→Prop
 |_,[]=>True
 |x::xs,y::ys=>x=y.map (AC.ren pk)∧QZ pk xs ys
 | [],_::_=>False
def UH(pk:List Nat)(st st':St):Prop:=pk.Nodup∧TA pk st'.owns.length st'.boxes.length st.fr st'.fr∧QX st.owns pk st'.owns∧QZ pk st.boxes st'.boxes∧(st'.boxes.all fun xs=>xs.all (AC.fits st'.owns.length st'.boxes.length))=true
def Env.pick(E:Env)(pk:List Nat)(m:Nat):Env:={E with om:=pk.map fun k=>E.om.getD k (undef,[]),bm:=E.bm.take m}
theorem Qe :∀(L:List (Value×List Nat)) (i j:Nat) (p q:Value×List Nat) (b:Nat),(L.flatMap (fun p=>p.1.ownBlock.toList)).Nodup→L[i]? =some p→L[j]? =some q→p.1.ownBlock=some b→q.1.ownBlock=some b→i=j:=by
 intro L
 induction L with
 |nil=>intro i j p q b _ hi;simp at hi
 | cons z L ih=>
   intro i j p q b hn hi hj hpb hqb;rw[I_,p_]at hn;cases i with
   | zero=>
     cases j with
     |zero=>rfl
     | succ j=>
       simp at hi hj;subst hi;exact absurd rfl (hn.2.2 b (by simp[hpb]) b (i_.2 ⟨q,k_ hj,by simp[hqb]⟩))
   | succ i=>
     cases j with
     | zero=>
       simp at hi hj;subst hj;exact absurd rfl (hn.2.2 b (by simp[hqb]) b (i_.2 ⟨p,k_ hi,by simp[hpb]⟩))
     | succ j=>
       simp at hi hj;rw[ih i j p q b hn.2.1 hi hj hpb hqb]
theorem Pv{L:List (Value×List Nat)}{pk:List Nat}(hlt:∀k∈pk,k<L.length){b:Nat}(hb:b∈(pk.map fun k=>L.getD k (undef,[])).flatMap fun p=>p.1.ownBlock.toList):∃k∈pk,∃p,L[k]? =some p∧p.1.ownBlock=some b:=by
 obtain⟨q,hq,hqb⟩:=i_.1 hb;obtain⟨k,hk,rfl⟩:=f_.1 hq;have hkl:=hlt k hk;rw[c_,a_ hkl]at hqb;exact⟨k,hk,L[k],a_ hkl,by simpa using hqb⟩
section
variable{B:Nat}{Xs:List Nat}{G:Org}{w0:World}{st st':St}{E:Env}{a:Act}{w:World}{pk:List Nat}{m:Nat}{os os':List Own}
theorem Px(hlt:∀k∈pk,k<E.om.length){b:Nat}(h:b∈(E.pick pk m).M):b∈E.M:=by
 unfold Env.M at h⊢;rcases o_.1 h with h|h
 ·refine x_ _ ?_;exact((H_ m E.bm).map _).subset h
 ·refine v_ _ ?_;obtain⟨k,hk,p,g1,g2⟩:=Pv hlt h;exact i_.2 ⟨p,k_ g1,by simp[g2]⟩
theorem En{j k:Nat}(hk:pk[j]? =some k){p:Value×List Nat}(hp:E.om[k]? =some p):(E.pick pk m).om[j]? =some p:=by
 simp only[Env.pick,s_,hk,N_,c_,hp,n_]
theorem AC.ok.pick(hlt:∀k∈pk,k<E.om.length)(hl:pk.length=os'.length)(ho:∀(j:Nat) (o':Own),os'[j]? =some o'→∃k,pk[j]? =some k∧os[k]? =some o'){x:AC}{v:Value}(h:(x.ren pk).ok E os w v)(hf:x.fits os'.length m=true):x.ok (E.pick pk m) os' w v:=by
 cases x with
 |any=>trivial
 |raw u=>exact h
 | cl f caps=>
   obtain⟨ps,h1,h2⟩:=h;refine⟨ps, ?_,h2⟩;rw[← h1];refine S_ fun k hk=> ?_
   have:k<m:=by simpa using w_.1 hf k hk
   simp only[Env.pick];rw[e_,if_pos this]
 | sl b l=>
   obtain⟨fp,h1,h2⟩:=h;exact⟨fp,h1,fun b hb=>⟨fun hm=>(h2 b hb).1 (Px hlt hm),(h2 b hb).2⟩⟩
 | own k i=>
   obtain⟨hv,o,p,h1,h2,h3,h4⟩:=h;have hk:k<os'.length:=by simpa[AC.fits]using hf
   obtain⟨k0,g1,g2⟩:=ho k _ (a_ hk);have e:pk.getD k 0=k0:=by rw[c_,g1];rfl
   rw[e]at h1 h2;rw[h1]at g2;injection g2 with g2
   exact⟨hv,o,p,by rw[a_ hk,← g2],En g1 h2,h3,h4⟩
 | osub k i pa pb=>
   obtain⟨hv,o,p,h1,h2,h3,h4⟩:=h;have hk:k<os'.length:=by simpa[AC.fits]using hf
   obtain⟨k0,g1,g2⟩:=ho k _ (a_ hk);have e:pk.getD k 0=k0:=by rw[c_,g1];rfl
   rw[e]at h1 h2;rw[h1]at g2;injection g2 with g2
   exact⟨hv,o,p,by rw[a_ hk,← g2],En g1 h2,h3,h4⟩
theorem Oks.pick(hlt:∀k∈pk,k<E.om.length)(hl:pk.length=os'.length)(ho:∀(j:Nat) (o':Own),os'[j]? =some o'→∃k,pk[j]? =some k∧os[k]? =some o'):∀{xs:List AC} {vs:List Value},Oks E os w (xs.map (AC.ren pk)) vs→xs.all (AC.fits os'.length m)=true→Oks (E.pick pk m) os' w xs vs
 | [],[],_,_=>trivial
 | x::xs,v::vs,h,hf=>by
   simp only[l_,d_]at hf;exact⟨AC.ok.pick hlt hl ho h.1 hf.1,Oks.pick hlt hl ho h.2 hf.2⟩
 | [],_::_,h,_=>h.elim
 |_::_,[],h,_=>h.elim
theorem Gok.pick(hlt:∀k∈pk,k<E.om.length)(hl:pk.length=os'.length)(ho:∀(j:Nat) (o':Own),os'[j]? =some o'→∃k,pk[j]? =some k∧os[k]? =some o'){g:Bool}{xs:List AC}{v:Value}(h:Gok E os w g (xs.map (AC.ren pk)) v)(hf:xs.all (AC.fits os'.length m)=true):Gok (E.pick pk m) os' w g xs v:=by
 cases g with
 |true=>obtain⟨vs,h1,h2⟩:=h;exact⟨vs,h1,h2.pick hlt hl ho hf⟩
 |false=>exact Oks.pick hlt hl ho (show Oks _ _ _ _ [v] from h) hf
theorem oK.pick(hlt:∀k∈pk,k<E.om.length)(hl:pk.length=os'.length)(ho:∀(j:Nat) (o':Own),os'[j]? =some o'→∃k,pk[j]? =some k∧os[k]? =some o'):∀{ys:List (Bool×List AC)} {vs:List Value},oK E os w (ys.map fun y=>(y.1,y.2.map (AC.ren pk))) vs→(ys.all fun y=>y.2.all (AC.fits os'.length m))=true→oK (E.pick pk m) os' w ys vs
 | [],[],_,_=>trivial
 | y::ys,v::vs,h,hf=>by
   simp only[l_,d_]at hf;exact⟨Gok.pick hlt hl ho h.1 hf.1,oK.pick hlt hl ho h.2 hf.2⟩
 | [],_::_,h,_=>h.elim
 |_::_,[],h,_=>h.elim
theorem AV.ok.pick(hlt:∀k∈pk,k<E.om.length)(hl:pk.length=os'.length)(ho:∀(j:Nat) (o':Own),os'[j]? =some o'→∃k,pk[j]? =some k∧os[k]? =some o'){x:AV}{v:Value}(h:(x.ren pk).ok E os w v)(hf:x.fits os'.length m=true):x.ok (E.pick pk m) os' w v:=by
 cases x with
 |any=>trivial
 |c g xs=>exact Gok.pick hlt hl ho h hf
 | ptr xs=>
   obtain⟨b,o,vs,h1,h2,h3,h4,h5⟩:=h;exact⟨b,o,vs,h1,h2,fun hm=>h3 (Px hlt hm),h4,h5.pick hlt hl ho hf⟩
 | bptr k off=>
   obtain⟨p,h1,h2⟩:=h;refine⟨p, ?_,h2⟩;simp only[Env.pick];rw[e_,if_pos (by simpa[AV.fits]using hf)];exact h1
 | eptr k i j off=>
   obtain⟨o,p,h1,h2,h3,h4⟩:=h;have hk:k<os'.length:=by simpa[AV.fits]using hf
   obtain⟨k0,g1,g2⟩:=ho k _ (a_ hk);have e:pk.getD k 0=k0:=by rw[c_,g1];rfl
   rw[e]at h1 h2;rw[h1]at g2;injection g2 with g2
   exact⟨o,p,by rw[a_ hk,← g2],En g1 h2,h3,h4⟩
 | tup ys=>
   obtain⟨vs,h1,h2⟩:=h;exact⟨vs,h1,h2.pick hlt hl ho hf⟩
end
def LU{X:Type}(F:X→St)(inv:X→Prop)(μ:X→Nat)(x:X)(Q:Exit→St→Prop):Exit→St→Prop
 | .normal,st=>∃x' pk,UH pk st (F x')∧inv x'∧μ x'<μ x
 |e,st=>Q e st
section
variable{P:Program}{Q:Exit→St→Prop}{st:St}{i:Nat}
theorem bF{X:Type}{F:X→St}{inv:X→Prop}{μ:X→Nat}{x:X}(h:Q (.exit i) st):LU F inv μ x Q (.exit i) st:=h
theorem bZ{X:Type}{F:X→St}{inv:X→Prop}{μ:X→Nat}{x:X}(h:Q .ret st):LU F inv μ x Q .ret st:=h
end
section
variable{B H:Nat}{X:List Nat}{bm0:List (Nat×TypeId)}{G:Org}{w0:World}{st:St}{E:Env}{a:Act}{w:World}{pk:List Nat}{os':List Own}
structure OutAt (B H:Nat) (X:List Nat) (bm0:List (Nat×TypeId)) (E:Env) (pk:List Nat) (os:List Own) (os':List Own):Prop where
 nw:∀x,E.nw x→H≤x∨x∈X
 own:∀(k:Nat) (p:Value×List Nat) (x:Nat),E.om[k]? =some p→p.1.ownBlock=some x→H≤x
 bm:∀q:Nat×TypeId,q∈bm0→∃k':Nat,E.bm[k']? =some q
 get:∀(j k:Nat),pk[j]? =some k→∃o',os'[j]? =some o'
 lt:∀k∈pk,k<E.om.length
theorem LM(h:Rel B X G w0 st E a w){k k':Nat}{q:Nat×TypeId}{p:Value×List Nat}{x:Nat}(h1:E.bm[k]? =some q)(h2:E.om[k']? =some p)(h3:p.1.ownBlock=some x):q.1≠x:=by
 intro e;have hn:=h.nodup;unfold Env.M at hn;rw[p_]at hn;exact hn.2.2 q.1 (f_.2 ⟨q,k_ h1,rfl⟩) x (i_.2 ⟨p,k_ h2,by simpa using h3⟩) e
theorem yI(h:Rel B X G w0 st E a w){i j:Nat}{p q:Value×List Nat}{b:Nat}(hi:E.om[i]? =some p)(hj:E.om[j]? =some q)(hp:p.1.ownBlock=some b)(hq:q.1.ownBlock=some b):i=j:=by
 have hn:=h.nodup;unfold Env.M at hn;rw[p_]at hn;exact Qe _ i j p q b hn.2.1 hi hj hp hq
end
section
variable{P:Program}{f:Nat}{fn:Func}{code:Code}{ic:IC}{ds:List D}
end
section
variable{P:Program}{B:Nat}{Xs:List Nat}{G:Org}{w0:World}{fr:List AV}{os:List Own}{bs:List (List AC)}{E:Env}{a:Act}{w w':World}
theorem EX{t:Bool}:∀{xs:List AC} {ds:List D} {vs:List Value},fU [] xs=some ds→(t=true→xs.all AC.nw=true)→Oks E os w xs vs→∃fp,Rs w ds fp vs∧∀b∈fp,b<w.heap.size∧b∉E.M∧(t=true→E.nw b)
 | [],ds,[],hd,_,_=>by
   injection hd with hd
   subst hd;exact⟨[],⟨rfl,rfl⟩,fun b hb=>by simp at hb⟩
 | x::xs,ds,v::vs,hd,hn,hx=>by
   rw[fU]at hd;split at hd
   ·next d ds' h1 h2=>
    injection hd with hd
    subst hd;have h1':x.toD=some d:=by cases x<;>simp_all [jg]
    obtain⟨_,_,f1,r1,m1⟩:=toD_ok h1' hx.1;obtain⟨f2,r2,m2⟩:=EX h2 (fun e=>by have:=hn e;simp only[l_,d_]at this;exact this.2) hx.2;refine⟨f1++f2,⟨f1,f2,[v],vs,rfl,rfl,r1,r2⟩,fun b hb=> ?_⟩;rcases o_.1 hb with hb|hb
    ·exact⟨R.lt r1 b hb,(m1 b hb).1,fun e=>(m1 b hb).2 (by have:=hn e;simp only[l_,d_]at this;exact this.1)⟩
    ·exact m2 b hb
   ·cases hd
 | [],_,_::_,_,_,h=>h.elim
 |_::_,_,[],_,_,h=>h.elim
theorem UG{t:Bool}{x:AV}{dd:D}{v:Value}(hd:iW [] x dd)(hn:t=true→x.nw=true)(hx:x.ok E os w v):∃F,RdF w F dd v∧∀b∈F,b<w.heap.size∧b∉E.M∧(t=true→E.nw b):=by
 cases x with
 | c g xs=>
   obtain⟨h1,rfl⟩:=hd;unfold RdF;cases hg:dd.isAgg with
   | true=>
     rw[hg]at hx;obtain⟨vs,h2,h3⟩:=hx;obtain⟨fp,h4,h5⟩:=EX h1 hn h3;exact⟨fp,by rw[if_pos rfl];exact⟨fp,vs,h2,jS.2 h4,fun b hb=>hb⟩,h5⟩
   | false=>
     rw[hg]at hx;obtain⟨fp,h4,h5⟩:=EX h1 hn (show Oks E os w xs [v] from hx);exact⟨fp,by rw[if_neg (by simp)];exact⟨fp,jS.2 h4,fun b hb=>hb⟩,h5⟩
 |any=>exact hd.elim
 |ptr _=>exact hd.elim
 |bptr _ _=>exact hd.elim
 |eptr _ _ _ _=>exact hd.elim
 |tup _=>exact hd.elim
theorem JF{t:Bool}:∀{xs:List AV} {ds:List D} {vs:List Value},aO [] xs ds→(t=true→xs.all AV.nw=true)→nP E os w xs vs→∃F,xW w F ds vs∧∀b∈F,b<w.heap.size∧b∉E.M∧(t=true→E.nw b)
 | [],[],[],_,_,_=>⟨[],trivial,fun b hb=>by simp at hb⟩
 | x::xs,d::ds,v::vs,hd,hn,hv=>by
   obtain⟨F1,h1,h2⟩:=UG hd.1 (fun e=>by have:=hn e;simp only[l_,d_]at this;exact this.1) hv.1;obtain⟨F2,h3,h4⟩:=JF hd.2 (fun e=>by have:=hn e;simp only[l_,d_]at this;exact this.2) hv.2;refine⟨F1++F2,⟨h1.mono (fun b hb=>x_ _ hb),h3.mono (fun b hb=>v_ _ hb)⟩,fun b hb=> ?_⟩;rcases o_.1 hb with hb|hb
   ·exact h2 b hb
   ·exact h4 b hb
 | [],_::_,_,hd,_,_=>hd.elim
 |_::_,[],_,hd,_,_=>hd.elim
 | [],[],_::_,_,_,hv=>hv.elim
 |_::_,_::_,[],_,_,hv=>hv.elim
def AC.mG :AC→Bool
 | .raw _=>true
 | .any=>true
 | .sl n _=>n
 |_=>false
def AV.mG :AV→Bool
 | .any=>true
 | .c _ xs=>xs.all AC.mG
 | .tup ys=>ys.all fun y=>y.2.all AC.mG
 |_=>false
theorem TP{F:List Nat}{t:Bool}{st:St}(h:Rel B Xs G w0 st E a w)(hF:∀b∈F,b∉E.M∧(t=true→E.nw b)){x:AC}{v:Value}(ho:x.mG=true)(hx:x.ok (kD w.heap.size F) [] w' v):(x.fl t).ok E st.owns w' v:=by
 cases x with
 |any=>trivial
 |raw u=>exact hx
 | sl n l=>
   obtain rfl:n=true:=ho;obtain⟨fp,h1,h2⟩:=hx;refine⟨fp,h1,fun b hb=>⟨fun hm=> ?_,fun e=> ?_⟩⟩
   ·rcases zZ.1 (h2 b hb).1 with h3|h3
    ·have:=(uh h hm).2;omega
    ·exact(hF b h3).1 hm
   ·rcases zZ.1 (h2 b hb).1 with h3|h3
    ·exact h.qx (q_ h.base h3)
    ·exact(hF b h3).2 e
 |own k i=>simp[AC.mG]at ho
 |osub k i a b=>simp[AC.mG]at ho
 |cl f caps=>simp[AC.mG]at ho
theorem Es{F:List Nat}{t:Bool}{st:St}(h:Rel B Xs G w0 st E a w)(hF:∀b∈F,b∉E.M∧(t=true→E.nw b)):∀{xs:List AC} {vs:List Value},xs.all AC.mG=true→Oks (kD w.heap.size F) [] w' xs vs→Oks E st.owns w' (xs.map (AC.fl t)) vs
 | [],[],_,_=>trivial
 | x::xs,v::vs,ho,hx=>by
   simp only[l_,d_]at ho;exact⟨TP h hF ho.1 hx.1,Es h hF ho.2 hx.2⟩
 | [],_::_,_,hx=>hx.elim
 |_::_,[],_,hx=>hx.elim
theorem RH{F:List Nat}{t:Bool}{st:St}(h:Rel B Xs G w0 st E a w)(hF:∀b∈F,b∉E.M∧(t=true→E.nw b)){r:AV}{v:Value}(ho:r.mG=true)(hx:r.ok (kD w.heap.size F) [] w' v):(r.fl t).ok E st.owns w' v:=by
 have key:∀{g:Bool} {xs:List AC} {v:Value},xs.all AC.mG=true→Gok (kD w.heap.size F) [] w' g xs v→Gok E st.owns w' g (xs.map (AC.fl t)) v:=by
  intro g xs v hx hv;cases g with
  |true=>obtain⟨vs,h1,h2⟩:=hv;exact⟨vs,h1,Es h hF hx h2⟩
  |false=>exact Es h hF hx (show Oks _ _ _ xs [v] from hv)
 cases r with
 |any=>trivial
 |c g xs=>exact key ho hx
 | tup ys=>
   obtain⟨vs,h1,h2⟩:=hx;refine⟨vs,h1, ?_⟩;clear h1;have ho':(ys.all fun y=>y.2.all AC.mG)=true:=ho;clear ho
   induction ys generalizing vs with
   | nil=>cases vs with
     |nil=>trivial
     |cons v vs=>exact h2.elim
   | cons y ys ih=>cases vs with
     |nil=>exact h2.elim
     | cons v vs=>
       simp only[l_,d_]at ho';exact⟨key ho'.1 h2.1,ih vs h2.2 ho'.2⟩
 |ptr _=>cases ho
 |bptr _ _=>cases ho
 |eptr _ _ _ _=>cases ho
theorem mg.toE(t:Bool){f:Nat}{ds:List D}{ys:List AV}{r:AV}(h:mg P f ds r)(hr:r.mG=true)(ha:aO [] ys ds)(hn:t=true→ys.all AV.nw=true):kK P f ys os bs (fun r2 os2 bs2=>r2=r.fl t∧os2=os∧bs2=bs):=by
 intro B Xs G w0 fr E a w vs hR hv;obtain⟨F,h1,h2⟩:=JF ha hn hv;refine(h w F vs (fun b hb=>(h2 b hb).1) h1 hR.below.now).mono ?_;rintro e w' ⟨v,rfl,hx,hb⟩;have hA:=hR.here;have hB:=hA.lK hb (d:=none) (x:= .any) (v:=undef) trivial;exact⟨v,E,_,_,_,⟨rfl,rfl,rfl⟩,rfl,hB,RH hR (fun b hb=>⟨(h2 b hb).2.1,(h2 b hb).2.2⟩) hr hx⟩
def LP(P:Program)(f:Nat)(ds:List D)(c:List AC)(post:AV→List Own→List AC→Prop):Prop:=
 ∀(w:World) (b:Nat) (ty:TypeId) (us vs:List Value) (X:List Nat),BelowT b w w→(∀x∈X,x≠b∧x<w.heap.size)→Row w b ty us→Oks ⟨w.heap.size,[],[(b,ty)],X⟩ [] w c us→
  nP ⟨w.heap.size,[],[(b,ty)],X⟩ [] w (ds.map (D.avN true)) vs→Calls P f (.pointer (some ⟨b,0,none⟩)::vs).toArray w (TD X b ty post w)
theorem Ud{H:Nat}{p:Nat×TypeId}{X F:List Nat}{d:D}{v:Value}(hF:∀b∈F,b∈X∧b≠p.1)(h:RdF w F d v):(D.avN true d).ok ⟨H,[],[p],X⟩ [] w v:=by
 have hM:∀b,b∈(⟨H,[],[p],X⟩:Env).M→b=p.1:=fun b hb=>by simpa[Env.M]using hb
 unfold D.avN AV.ok Gok;unfold RdF at h;cases hg:d.isAgg with
 | true=>
   rw[hg,if_pos rfl]at h;obtain⟨fp,cs,h1,h2,h3⟩:=h;exact⟨cs,h1,nY h2 (fun b hb=>⟨fun hm=>(hF b (h3 b hb)).2 (hM b hm),fun _=>r_ (hF b (h3 b hb)).1⟩)⟩
 | false=>
   rw[hg,if_neg (by simp)]at h;obtain⟨fp,h2,h3⟩:=h;exact nY h2 (fun b hb=>⟨fun hm=>(hF b (h3 b hb)).2 (hM b hm),fun _=>r_ (hF b (h3 b hb)).1⟩)
theorem LJ{H:Nat}{p:Nat×TypeId}{X F:List Nat}(hF:∀b∈F,b∈X∧b≠p.1):∀{ds:List D} {vs:List Value},xW w F ds vs→nP ⟨H,[],[p],X⟩ [] w (ds.map (D.avN true)) vs
 | [],[],_=>trivial
 |d::ds,v::vs,h=>⟨Ud hF h.1,LJ hF h.2⟩
 | [],_::_,h=>h.elim
 |_::_,[],h=>h.elim
theorem LP.toE(t:Bool){f:Nat}{ds:List D}{ys:List AV}{c c0:List AC}{kc:Nat}{post:AV→List Own→List AC→Prop}(h:LP P f ds c post)(hk:bs[kc]? =some c0)(hc0:c0.all (AC.cin t)=true)(hc:c0.map (AC.fl true)=c)(ha:aO [] ys ds)(hn:t=true→ys.all AV.nw=true):
 kK P f (.bptr kc 0::ys) os bs (fun r2 os2 bs2=>∃r os' c',post r os' c'∧r2=(r.fl t).shift os.length∧os2=os++os'∧bs2=bs.set kc (c'.map (AC.fl t))):=by
 subst hc;intro B Xs G w0 fr E a w vs hR hv;cases vs with
 |nil=>exact hv.elim
 |cons pv vs=>
 obtain⟨⟨p,hp,rfl⟩,hv⟩:=hv;obtain⟨b,ty⟩:=p;have hpM:b∈E.M:=gV.2 (y_ ⟨kc,_,hp,rfl⟩);obtain⟨hBb,us,hrow,hok⟩:=hR.box kc c0 (b,ty) hk hp;simp only at hBb hrow;have hbH:b<w.heap.size:=hrow.lt;obtain⟨X1,hX1,hcu⟩:=Jz (H:=w.heap.size) (p:=(b,ty)) t hpM hc0 hok;obtain⟨F,hF1,hF2⟩:=JF ha hn hv;obtain⟨X,hXe⟩:∃X,X=X1++F:=⟨_,rfl⟩
 have hX:∀x∈X,x∉E.M∧x<w.heap.size∧(t=true→E.nw x):=fun x hx=>by
  rw[hXe]at hx;rcases o_.1 hx with hx|hx
  ·exact hX1 x hx
  ·exact⟨(hF2 x hx).2.1,(hF2 x hx).1,(hF2 x hx).2.2⟩
 have hcu':Oks ⟨w.heap.size,[],[(b,ty)],X⟩ [] w (c0.map (AC.fl true)) us:=Oks.Gq (fun x hx=>by rw[hXe];exact x_ _ hx) hcu;have hav:=LJ (H:=w.heap.size) (p:=(b,ty)) (X:=X) (F:=F) (fun x hx=>⟨by rw[hXe];exact v_ _ hx,fun e=>(hF2 x hx).2.1 (e▸hpM)⟩) hF1;have hT:BelowT b w w:=⟨Below.refl _ _,fun w' hb'=>hR.below.tab w' (hb'.mono hBb)⟩
 refine(h w b ty us vs X hT (fun x hx=>⟨fun e=>(hX x hx).1 (e▸hpM),(hX x hx).2.1⟩) hrow hcu' hav).mono ?_;rintro e w' ⟨v,om,r,os',c',us',hpost,hr,hc',rfl,ho,hrok,hrow',hcok,hbel,hsame⟩
 
 obtain⟨w1,e1,e2⟩:∃w1:World,w1={w' with heap:=w'.heap.setIfInBounds b (.cells us.toArray ty (0,0))}∧True:=⟨_,rfl,trivial⟩
 have hsz:w1.heap.size=w'.heap.size:=by rw[e1];simp
 have hother:∀x,x≠b→w1.heap[x]? =w'.heap[x]? :=fun x hx=>by rw[e1];simp only;rw[Array.getElem?_setIfInBounds_ne (Ne.symm hx)]
 have hself:w1.heap[b]? =some (.cells us.toArray ty (0,0)):=by
  rw[e1];exact Array.getElem?_setIfInBounds_self_of_lt (hrow'.lt)
 have hB1:Below w.heap.size w w1:=by
  refine⟨by rw[e1];exact hbel.os,by rw[e1];exact hbel.tape,by rw[e1];exact hbel.output,by rw[hsz];exact hbel.size,fun x hx=> ?_⟩;by_cases e:x=b
  ·subst e;exact hself.trans hrow.symm
  ·rw[hother x e];exact hsame x hx e
 have ho1:oL w.heap.size w1 om os':=yg ho (fun x hx=>hother x (by omega)) (a_v hsz.symm);have hA:=hR.here;have hH:∀x∈E.M,x<w.heap.size:=fun x hx=>(uh hR hx).2
 have hn:∀x,w.heap.size≤x→E.nw x:=fun x hx=>hR.qx (q_ hR.base hx)
 have hol:E.om.length=os.length:=hR.olen;have hB:=hA.vU (x:= .any) (u:=undef) hB1 ho1 none (fun _ _ _ _=>trivial);have hM2:∀x,x∈({E with om:=E.om++om}:Env).M↔x∈E.M∨x∈om.flatMap fun q=>q.1.ownBlock.toList:=fun x=>lM E om
 have hsz':w'.heap.size=w1.heap.size:=hsz.symm;have hC:=hB.IZ (k:=kc) (p:=(b,ty)) (w':=w') (ys:=c'.map (AC.fl t)) (us:=us') hk hp
  (by have:=qU (os:=os) (w1:=w1) (E':={E with om:=E.om++om}) (t:=t) hpM (fun x hx=>⟨(hX x hx).1,(hX x hx).2.2⟩) hH hn hM2 rfl rfl hol hother (a_v hsz') (xB hc') hcok
      rwa[pX hc']at this) hsz' (by rw[e1];exact⟨rfl,rfl,rfl⟩) (fun x hx=>(hother x hx).symm) hrow' none (x:= .any) (v:=undef) trivial
 refine⟨v,_,_,_,_,⟨r,os',c',hpost,rfl,rfl,rfl⟩,rfl,hC, ?_⟩;exact H8 (w1:=w') hpM (fun x hx=>⟨(hX x hx).1,(hX x hx).2.2⟩) hH hn hM2 rfl rfl hol (fun _ _=>rfl) (m_ _) hr hrok
end
theorem Ik{os:List Own}{xs:List AV}{ds:List D}(h:aO os xs ds:=by first|exact⟨⟨rfl,rfl⟩,trivial⟩|exact trivial|exact⟨⟨rfl,rfl⟩,⟨rfl,rfl⟩,trivial⟩|exact⟨⟨rfl,rfl⟩,⟨rfl,rfl⟩,⟨rfl,rfl⟩,trivial⟩|(simp[St.ev,List.map_cons,List.map_nil,List.getD_cons_zero,List.getD_cons_succ,aO,iW,fU,jg,AC.toD,aG,ay,aB,aF,Value.oneCell',eF,bG,eH,eG,fJ,bQ,fO,fM,mJ,mM,qM,qL,LY,AV.fl,AC.fl,AV.shift,AC.shift,List.append_nil];first|done|rfl)):aO os xs ds:=h
section
variable{P:Program}{K:St→Prop}{d:Option Nat}{f:Nat}{ys:List AV}{rest:List IOp}{st:St}{ds:List D}
theorem Ua{r:AV}(ha:aO st.owns ys ds:=by exact Ik)(hr:r.res:=by trivial)(hc:aJ P f ds r)(h:sw P K rest (st.put d r)):jV P K d f ys rest st:=QK hc hr ha h
theorem SA{m:Bool}{r:AV}(ha:aO (mo m st) ys ds:=by exact Ik)(hr:r.res:=by trivial)(hc:aJ P f ds r)(h:sd P m K rest (st.put d r)):o9 P m K d f ys rest st:=DC hc hr ha h
theorem QJ{post:AV→List Own→Prop}(ha:aO st.owns ys ds:=by exact Ik)(h:jO P f ds post)
 (hK:∀r os',post r os'→sw P K rest (St.put ⟨st.fr,st.owns++os',st.boxes⟩ d (r.shift st.owns.length))):jV P K d f ys rest st:=by
 refine UA (h.toE ha) ?_;rintro _ _ _ ⟨r,os',hp,rfl,rfl,rfl⟩;exact hK r os' hp
end
section
variable{P:Program}{kc:Nat}{m:Bool}{Ts:List Nat}{K:St→Prop}{d:Option Nat}{f:Nat}{xs:List Opd}{rest:List IOp}{st:St}{ds:List D}
theorem IY{xs:List Opd}(h:sn P kc m Ts K (⟨d,none,.call f xs⟩::rest) st):sn P kc m Ts K (⟨d,none,.call f xs⟩::rest) st:=h
theorem UO{r:AV}(ha:aO (mo m st) (xs.map st.ev) ds:=by exact Ik)(hr:r.res:=by trivial)(hc:aJ P f ds r)(h:sn P kc m Ts K rest (st.put d r)):sn P kc m Ts K (⟨d,none,.call f xs⟩::rest) st:=by
 refine Rn ?_;rw[D9];exact DC hc hr ha h
theorem Uj{pst:AV→List Own→Prop}(ha:aO st.owns (xs.map st.ev) ds:=by exact Ik)(h:jO P f ds pst)(hne:∃r os',pst r os'∧r.out=true)(hm:∀r os',pst r os'→m=false→os'= []:=by first|(rintro _ _ ⟨_,h⟩ _;exact h)|(intro _ _ _ hm;cases hm))
 (hr:∀r os',pst r os'→sn P kc m Ts K rest (St.put ⟨st.fr,st.owns++os',st.boxes⟩ d (r.shift st.owns.length))):sn P kc m Ts K (⟨d,none,.call f xs⟩::rest) st:=
 Ri h ha hne hm hr
end
def AC.rel(k v:Nat)(n:Bool)(l:List D):AC→AC
 | .own j i=>if j=k∧i=v then .sl n l else .own j i
 |x=>x
def AV.rel(k v:Nat)(n:Bool)(l:List D):AV→AV
 | .c g xs=> .c g (xs.map (AC.rel k v n l))
 |x=>x
def St.rel(st:St)(k:Nat)(o:Own):St:=⟨st.fr.map (AV.rel k o.ver o.nw.n o.l),aP st.owns k,st.boxes.map (List.map (AC.rel k o.ver o.nw.n o.l))⟩
section
variable{P:Program}{B:Nat}{Xs:List Nat}{G:Org}{w0:World}{st:St}{E:Env}{a:Act}{w:World}
theorem TJ(h:Rel B Xs G w0 st E a w){k:Nat}{o:Own}(ho:st.owns[k]? =some o)(h2:Rel B Xs G w0 ⟨st.fr,aP st.owns k,st.boxes⟩ (E.seal k) a w){x:AC}{v:Value}(hx:x.ok E st.owns w v)(hx2:x.ok (E.seal k) (aP st.owns k) w v):(x.rel k o.ver o.nw.n o.l).ok (E.seal k) (aP st.owns k) w v:=by
 cases x with
 | own j i=>
   simp only[AC.rel];split
   ·next e=>
    obtain⟨rfl,rfl⟩:=e;obtain⟨_,o',p,h3,h4,h5,h6⟩:=hx;rw[ho]at h3;injection h3 with h3
    subst h3;obtain rfl:=h6 rfl;obtain⟨cs,q1,q2,q3,q4⟩:=h.own j o p ho h4;have hsm:=(qJ h.nodup (k:=j)).2;refine⟨_,Sl.kU q1 q2,fun b hb=> ?_⟩;rcases o_.1 hb with hb|hb
    ·have hb':p.1.ownBlock=some b:=by simpa using hb
     refine⟨fun hm=> ?_,fun _=>h.qx (aS.lt q1 b hb').1⟩;rcases gV.1 hm with⟨k',q,g1,g2⟩|⟨k',q,g1,g2⟩
     ·exact LM h g1 h4 hb' g2
     ·by_cases e:k'=j
      ·subst e;simp only[Env.seal]at g1;rw[u_ (b_.1 h4).1]at g1;injection g1 with g1
       subst g1;cases g2
      ·rw[jX e]at g1;exact e (yI h g1 h4 g2 hb')
    ·exact⟨fun hm=>(q4 b hb).1 (hsm b hm),fun e=>(q4 b hb).2 e⟩
   ·exact hx2
 |_=>exact hx2
theorem zB(h:Rel B Xs G w0 st E a w){k:Nat}{o:Own}(ho:st.owns[k]? =some o)(h2:Rel B Xs G w0 ⟨st.fr,aP st.owns k,st.boxes⟩ (E.seal k) a w):∀{xs:List AC} {vs:List Value},Oks E st.owns w xs vs→Oks (E.seal k) (aP st.owns k) w xs vs→Oks (E.seal k) (aP st.owns k) w (xs.map (AC.rel k o.ver o.nw.n o.l)) vs
 | [],[],_,_=>trivial
 |x::xs,v::vs,hx,hy=>⟨TJ h ho h2 hx.1 hy.1,zB h ho h2 hx.2 hy.2⟩
 | [],_::_,hx,_=>hx.elim
 |_::_,[],hx,_=>hx.elim
theorem Rel.release(h:Rel B Xs G w0 st E a w){k:Nat}{o:Own}(ho:st.owns[k]? =some o):Rel B Xs G w0 (st.rel k o) (E.seal k) a w:=by
 have h2:Rel B Xs G w0 ⟨st.fr,aP st.owns k,st.boxes⟩ (E.seal k) a w:=Rel.seal (fr:=st.fr) (os:=st.owns) (bs:=st.boxes) h ho;have hav:∀{x:AV} {v:Value},x.ok E st.owns w v→x.ok (E.seal k) (aP st.owns k) w v→(x.rel k o.ver o.nw.n o.l).ok (E.seal k) (aP st.owns k) w v:=by
  intro x v hx hy;cases x with
  | c g xs=>
    cases g with
    | true=>
      obtain⟨vs,h3,h4⟩:=hx;obtain⟨us,h5,h6⟩:=hy;subst h3;have:us=vs:=by injection h5 with h5;injection h5 with h5;exact h5.symm
      subst this;exact⟨us,rfl,zB h ho h2 h4 h6⟩
    |false=>exact zB h ho h2 (show Oks E st.owns w xs [v] from hx) (show Oks _ _ w xs [v] from hy)
  |_=>exact hy
 exact
  { eb:=h2.eb,ex:=h2.ex,sim:=h2.sim,defers:=h2.defers
    size:=by rw[h2.size];simp[St.rel]
    fr:=fun t x hx=>by
     simp only[St.rel,s_]at hx;obtain⟨y,hy,rfl⟩:=h_.1 hx;exact hav (h.fr t y hy) (h2.fr t y hy)
    olen:=h2.olen,own:=h2.own
    blen:=by rw[h2.blen];simp[St.rel]
    box:=fun j xs p hx hp=>by
     simp only[St.rel,s_]at hx;obtain⟨ys,hy,rfl⟩:=h_.1 hx;obtain⟨g1,vs,g2,g3⟩:=h2.box j ys p hy hp;obtain⟨_,us,g4,g5⟩:=h.box j ys p hy hp;have:us=vs:=by
      have e:=g4.symm.trans g2;injection e with e
      injection e with e1
      injection e1
     subst this;exact⟨g1,us,g2,zB h ho h2 g5 g3⟩
    nodup:=h2.nodup,lin:=h2.lin,unf:=h2.unf,below:=h2.below,base:=h2.base}
end
theorem pkZ :type_of% (UZ @gG.eq_1 (UZ @gG.eq_2 (UZ @iC.eq_1 (UZ @iC.eq_2 (UZ @aV.eq_1 (UZ @aV.eq_2 (UZ @aP.eq_1 (UZ @St.put.eq_1 (UZ @St.put.eq_2 (UZ @St.ev.eq_1 (UZ @St.ev.eq_2 (UZ @gy.eq_1 (UZ @gy.eq_2 (UZ @iI.eq_1 (UZ @iI.eq_2 (UZ @D.ones.eq_1 (UZ @D.ones.eq_2 (UZ @D.szs.eq_1 (UZ @D.szs.eq_2 (UZ @undef.eq_1 (UZ @aG (UZ @ay (UZ @aB (UZ @aF (UZ @aN (@aH)))))))))))))))))))))))))):=UZ @gG.eq_1 (UZ @gG.eq_2 (UZ @iC.eq_1 (UZ @iC.eq_2 (UZ @aV.eq_1 (UZ @aV.eq_2 (UZ @aP.eq_1 (UZ @St.put.eq_1 (UZ @St.put.eq_2 (UZ @St.ev.eq_1 (UZ @St.ev.eq_2 (UZ @gy.eq_1 (UZ @gy.eq_2 (UZ @iI.eq_1 (UZ @iI.eq_2 (UZ @D.ones.eq_1 (UZ @D.ones.eq_2 (UZ @D.szs.eq_1 (UZ @D.szs.eq_2 (UZ @undef.eq_1 (UZ @aG (UZ @ay (UZ @aB (UZ @aF (UZ @aN (@aH)))))))))))))))))))))))))
section
variable{P:Program}{B:Nat}{Xs:List Nat}{G:Org}{w0:World}{st:St}{E:Env}{a:Act}{w:World}
theorem KI{os:List Own}{x:AC}{u:Value}:∀{xs:List AC} {vs:List Value} {j:Nat},Oks E os w xs vs→(∀v,vs[j]? =some v→x.ok E os w v)→Oks E os w (xs.set j x) vs
 | [],[],_,_,_=>trivial
 |y::xs,v::vs,0,h,hx=>⟨hx v rfl,h.2⟩
 |y::xs,v::vs,j+1,h,hx=>⟨h.1,KI (u:=u) h.2 (fun z hz=>hx z (by simpa using hz))⟩
 | [],_::_,_,h,_=>h.elim
 |_::_,[],_,h,_=>h.elim
theorem KJ{os:List Own}{x:AC}:∀{xs:List AC} {vs:List Value} {j:Nat},Oks E os w xs vs→xs[j]? =some x→∀v,vs[j]? =some v→x.ok E os w v
 | [],[],_,_,hx,_,_=>by simp at hx
 | y::xs,v::vs,0,h,hx,z,hz=>by
   simp at hx hz;subst hx hz;exact h.1
 |y::xs,v::vs,j+1,h,hx,z,hz=>KJ h.2 (by simpa using hx) z (by simpa using hz)
 | [],_::_,_,h,_,_,_=>h.elim
 |_::_,[],_,h,_,_,_=>h.elim
def St.Gp(st:St)(kb j e s:Nat)(m:Bool):St:=⟨st.fr,st.owns++ [⟨[],e,s,0,⟨true,m⟩⟩],st.boxes.set kb ((st.boxes.getD kb []).set j (.own st.owns.length 0))⟩
theorem Rel.Gp(h:Rel B Xs G w0 st E a w){kb j e s:Nat}{m:Bool}{xs:List AC}(hb:st.boxes[kb]? =some xs)(hx:xs[j]? =some (.raw (.slice none 0 0))):
 Rel B Xs G w0 (st.Gp kb j e s m) {E with om:=E.om++ [(.slice none 0 0,[])]} a w:=by
 have h1:Rel B Xs G w0 ⟨st.fr,st.owns++ [⟨[],e,s,0,⟨true,m⟩⟩],st.boxes⟩ {E with om:=E.om++ [(.slice none 0 0,[])]} a w:=
  Rel.vU (fr:=st.fr) (os:=st.owns) (bs:=st.boxes) (x:= .any) (u:=undef) h (Below.refl _ _)
   ⟨rfl,fun k o p hk hp=>by
     cases k with
     | zero=>
       simp at hk hp;subst hk hp;exact⟨[],aS.nil,⟨rfl,rfl⟩,fun d hd=>by simp at hd,fun b hb=>by simp at hb⟩
     |succ k=>simp at hk,by simp[Value.ownBlock],Lin.one (fun _=>P_),Unf.one (fun _ b hb=>by simp at hb)⟩ none (fun _ _ _ _=>trivial)
 have hol:=h.olen;exact
  { eb:=h1.eb,ex:=h1.ex,sim:=h1.sim,defers:=h1.defers,size:=h1.size,fr:=h1.fr,olen:=h1.olen,own:=h1.own
    blen:=by rw[h1.blen];simp[St.Gp]
    box:=fun k ys p hy hp=>by
     by_cases e1:kb=k
     ·subst e1;have hlt:kb<st.boxes.length:=(b_.1 hb).1;simp only[St.Gp]at hy;rw[u_ hlt]at hy;injection hy with hy
      subst hy;have hg:st.boxes.getD kb []=xs:=by rw[c_,hb];rfl
      rw[hg];obtain⟨g1,vs,g2,g3⟩:=h1.box kb xs p hb hp;refine⟨g1,vs,g2,KI (u:=undef) g3 fun v hv=> ?_⟩;have hv2:v= .slice none 0 0:=KJ g3 hx v hv;subst hv2;have e2:(st.owns++ [(⟨[],e,s,0,⟨true,m⟩⟩:Own)])[st.owns.length]? =some ⟨[],e,s,0,⟨true,m⟩⟩:=by rw[G_ (m_ _)];simp
      have e3:(E.om++ [(Value.slice none 0 0,([]:List Nat))])[st.owns.length]? =some (.slice none 0 0,[]):=by rw[G_ (by omega),hol];simp
      exact⟨⟨none,0,0,rfl⟩,⟨[],e,s,0,⟨true,m⟩⟩,(.slice none 0 0,[]),e2,e3,m_ _,fun _=>rfl⟩
     ·simp only[St.Gp]at hy;rw[C_ e1]at hy;exact h1.box k ys p hy hp
    nodup:=h1.nodup,lin:=h1.lin,unf:=h1.unf,below:=h1.below,base:=h1.base}
theorem QL{lo:Nat×Nat}{c:IC}{Q:Exit→St→Prop}(kb j e s:Nat)(m:Bool){xs:List AC}(hb:st.boxes[kb]? =some xs)(hx:xs[j]? =some (.raw (.slice none 0 0)))(h:jv lo P c Q (st.Gp kb j e s m)):jv lo P c Q st:=
 fun code hc B Xs G w0 hG E a w hR=>h code hc B Xs G w0 hG _ a w (hR.Gp hb hx)
def Jk(os:List Own)(k:Nat):List Own:=match os[k]? with|some o=>os.set k ⟨o.l,o.e,o.s,o.ver,⟨true,true⟩⟩|none=>os
theorem Rel.UR(h:Rel B Xs G w0 st E a w)(k:Nat)(hb:∀o,st.owns[k]? =some o→nO o.l):Rel B Xs G w0 ⟨st.fr,Jk st.owns k,st.boxes⟩ E a w:=by
 unfold Jk;cases ho:st.owns[k]? with
 |none=>exact h
 | some o=>
   have hlt:k<st.owns.length:=(b_.1 ho).1;have hlt2:k<E.om.length:=by rw[h.olen];exact hlt
   have hget:∀(j:Nat) (o':Own),(st.owns.set k ⟨o.l,o.e,o.s,o.ver,⟨true,true⟩⟩)[j]? =some o'→∃o2,st.owns[j]? =some o2∧o'.l=o2.l∧o'.e=o2.e∧o'.s=o2.s∧o'.ver=o2.ver∧(o'.nw.n=o2.nw.n∨nO o'.l):=fun j o' hj=>by
    by_cases e1:k=j
    ·subst e1;rw[u_ hlt]at hj;injection hj with hj
     subst hj;exact⟨o,ho,rfl,rfl,rfl,rfl,r_ (hb o ho)⟩
    ·rw[C_ e1]at hj;exact⟨o',hj,rfl,rfl,rfl,rfl,y_ rfl⟩
   have hS:Sim E st.owns w E (st.owns.set k ⟨o.l,o.e,o.s,o.ver,⟨true,true⟩⟩) w:=
    { base:=rfl,size:=m_ _,blk:=fun b _ _=>rfl,old:=fun b _ hm=>hm,box:=fun j p hp=>hp
      own:=fun j o' p hj hp=>by
       by_cases e1:k=j
       ·subst e1;rw[ho]at hj;injection hj with hj
        subst hj;exact⟨_,p,u_ hlt,hp,m_ _,fun _=>⟨rfl,rfl⟩⟩
       ·exact⟨o',p,by rw[C_ e1];exact hj,hp,m_ _,fun _=>⟨rfl,rfl⟩⟩}
   have hnil:∀p,E.om[k]? =some p→p.2= []:=fun p hp=>by
    obtain⟨cs,_,h2,_⟩:=h.own k o p ho hp;exact hb o ho _ _ _ h2
   have hp0:=a_ hlt2;have hset:E.om.set k E.om[k]=E.om:=List.set_getElem_self hlt2;exact
    { eb:=h.eb,ex:=h.ex,sim:=h.sim.trans hS,defers:=h.defers,size:=h.size
      fr:=fun t y hy=>(h.fr t y hy).sim hS
      olen:=by simp[h.olen]
      own:=fun j o' p hj hp=>by
       obtain⟨o2,g1,g2,g3,g4,g5,g6⟩:=hget j o' hj;obtain⟨cs,k1,k2,k3,k4⟩:=h.own j o2 p g1 hp;refine⟨cs,by rw[g2,g3,g4];exact k1,by rw[g2];exact k2,by rw[g2,g4];exact k3,fun b hb'=> ?_⟩;rcases g6 with g6|g6
       ·rw[g6];exact k4 b hb'
       ·have:=g6 w p.2 cs (by rw[g2];exact k2);rw[this]at hb';simp at hb'
      blen:=h.blen
      box:=fun j ys p hy hp=>by
       obtain⟨g1,vs,g2,g3⟩:=h.box j ys p hy hp;exact⟨g1,vs,g2,g3.sim hS⟩
      nodup:=h.nodup
      lin:=by
       have h9:=h.lin.set (k:=k) (o1:=⟨o.l,o.e,o.s,o.ver,⟨true,true⟩⟩) (q:=E.om[k]) (fun _=>by rw[hnil _ hp0];exact⟨P_,fun _ _ _ _ _ _ _ b hb=>by simp at hb⟩);rwa[hset]at h9
      unf:=by
       have h9:=h.unf.set (k:=k) (o1:=⟨o.l,o.e,o.s,o.ver,⟨true,true⟩⟩) (q:=E.om[k]) (fun _=>by rw[hnil _ hp0];exact fun b hb=>by simp at hb);rwa[hset]at h9
      below:=h.below,base:=h.base}
theorem vP{lo:Nat×Nat}{c:IC}{Q:Exit→St→Prop}(k:Nat){fr0:List AV}{os0:List Own}{bs0:List (List AC)}{os1:List Own}(hb:∀o,os0[k]? =some o→nO o.l)(he:Jk os0 k=os1)(h:jv lo P c Q ⟨fr0,os1,bs0⟩):jv lo P c Q ⟨fr0,os0,bs0⟩:=
 fun code hc B Xs G w0 hG E a w hR=>h code hc B Xs G w0 hG E a w (he▸hR.UR k hb)
theorem wV :nO []:=fun w fp cs h=>h.1
end
theorem szD(xs:Array UInt8):ByteArray.size ⟨xs⟩=xs.size:=rfl
theorem nv{G H:Prop}(k:H)(h:H→G:=by first|(with_reducible first|exact fD|exact dA|exact dS|exact dU|exact fE|exact jP|exact dP|exact eY|exact bf|exact cZ|exact dR|exact cu|exact dQ|exact bF|exact bZ)|((with_reducible refine cO ?_);rfl)|((with_reducible refine dh ?_);rfl)|((with_reducible refine dw ?_);rfl)):G:=h k
section
variable{lo:Nat×Nat}{P:Program}{K:St→Prop}{Q:Exit→St→Prop}{st:St}{m:Bool}{F H:Prop}{l:List IOp}
theorem ss(f:F)(k:H)(h:F→(sw P K l st)=H:=by intro f;conv=>lhs;simp(disch:=first|decide|omega) only[↓pkS,pkW,pkA,pkZ,List.flatMap_cons,List.flatMap_nil,List.append_nil,bg,lvD,lcD,lvK,lcK,bn,ex,kav,gdA,opI,bI,iE,bV,AV.toD,AC.toD,AV.nw,AC.nw,AC.one,Value.oneCell',if_true,if_false,Bool.false_eq_true,bW,D.one,D.sz,Nat.reduceAdd,Nat.reduceSub,Nat.reduceLeDiff,Nat.reduceEqDiff,reduceIte,pkN,LY,Int.reduceLT,Int.reduceLE,AV.fl,AC.fl,AV.shift,AC.shift,szD,List.size_toArray,ByteArray.size_append,uF,eqV,eqC,f]):sw P K l st:=(h f).mpr k
theorem nN{G:Prop}(k:H)(h:H→G:=by intro k;first|((with_reducible refine Rk ?_ k);(intro off;simp only[↓pkR,St.ev,List.getD_cons_zero,List.getD_cons_succ];first|done|(intro hx;cases hx)|(simp;done)))|((with_reducible refine Rj ?_ k);rfl)|((with_reducible refine Oh ?_ k);rfl)|(with_reducible exact Rl k)):G:=h k
theorem rD{G:Prop}(k:H)(h:H→G:=by intro k;first|(with_reducible exact LH k)|((with_reducible refine vO false ?_ k);rfl)|((with_reducible refine vO true ?_ k);rfl)|((with_reducible refine aQ false ?_ k);rfl)|((with_reducible refine aQ true ?_ k);rfl)):G:=h k
theorem sS{G:Prop}(f:F)(k:H)(h:F→G=H:=by intro f;conv=>lhs;simp only[undef,stS,st0,stN,D.av,D.avN,fJ,bQ,fO,fM,wM,oV,qM,qL,LY,List.map_cons,List.map_nil,List.replicate,List.cons_append,List.nil_append,List.length_cons,List.length_nil,Nat.reduceAdd,Nat.reduceSub,f]):G:=(h f).mpr k
theorem cS{c:Opd}{x y:IC}{b:Bool}{p q:Prop}(hb:st.ev c= .c false [.raw (.bool b)])(h1:b=true→p→jv lo P x Q st)(h2:b=false→q→jv lo P y Q st)(hp:(b=true)=p:=by conv=>lhs;(try simp only[pkC]))(hq:(b=false)=q:=by conv=>lhs;(try simp only[pkC])):jv lo P (.cond c x y) Q st:=
 dn hb (fun h=>h1 h (hp.mp h)) (fun h=>h2 h (hq.mp h))
section
variable{d:Option Nat}{g:Nat}{w b:Bool}{i:I}{rest:List IOp}
theorem gi(k:sw P K (⟨d,some (g,w),i⟩::rest) st):sw P K (⟨d,some (g,w),i⟩::rest) st:=k
theorem gxi(k:sd P m K (⟨d,some (g,w),i⟩::rest) st):sd P m K (⟨d,some (g,w),i⟩::rest) st:=k
theorem gF(k:H)(h:(sw P K rest (st.put d (.c false [.raw undef])))=H:=by conv=>lhs;(try simp only[St.put,undef,pkA,Nat.reduceAdd,Nat.reduceSub,Nat.reduceLeDiff,Nat.reduceEqDiff])):sw P K rest (st.put d (.c false [.raw undef])):=h.mpr k
theorem gS{p q:Prop}(hg:st.fr.getD g .any= .c false [.raw (.bool b)])(h1:b=w→p→sw P K (⟨d,none,i⟩::rest) st)(h2:b= !w→q→sw P K rest (st.put d (.c false [.raw undef])))(hp:(b=w)=p:=by conv=>lhs;(try simp only[pkC]))(hq:(b= !w)=q:=by conv=>lhs;(try simp only[pkC])):
 sw P K (⟨d,some (g,w),i⟩::rest) st:=LZ hg (fun h=>h1 h (hp.mp h)) (fun h=>h2 h (hq.mp h))
theorem gxF(k:H)(h:(sd P m K rest (st.put d (.c false [.raw undef])))=H:=by conv=>lhs;(try simp only[St.put,undef,pkA,Nat.reduceAdd,Nat.reduceSub,Nat.reduceLeDiff,Nat.reduceEqDiff])):sd P m K rest (st.put d (.c false [.raw undef])):=h.mpr k
theorem gxS{p q:Prop}(hg:st.fr.getD g .any= .c false [.raw (.bool b)])(h1:b=w→p→sd P m K (⟨d,none,i⟩::rest) st)(h2:b= !w→q→sd P m K rest (st.put d (.c false [.raw undef])))(hp:(b=w)=p:=by conv=>lhs;(try simp only[pkC]))(hq:(b= !w)=q:=by conv=>lhs;(try simp only[pkC])):
 sd P m K (⟨d,some (g,w),i⟩::rest) st:=MC hg (fun h=>h1 h (hp.mp h)) (fun h=>h2 h (hq.mp h))
end
end
theorem gq_{G H:Prop}(k:H)(h:H→G:=by intro k;first|((with_reducible refine gi ?_);first|exact wK rfl k|(refine wL rfl ?_;refine gF ?_;exact k))|((with_reducible refine gxi ?_);first|exact wO rfl k|(refine wP rfl ?_;refine gxF ?_;exact k))):G:=h k
theorem cq_{lo:Nat×Nat}{P:Program}{c:Opd}{x y:IC}{Q:Exit→St→Prop}{st:St}(k:jv lo P (.cond c x y) Q st):jv lo P (.cond c x y) Q st:=k
theorem c2_{G A B:Prop}(a:A)(b:B)(h:A→B→G:=by intro a b;first|(with_reducible exact gS rfl a b)|(with_reducible exact gxS rfl a b)|((with_reducible refine cq_ ?_);(fail_if_success refine nv ?_);with_reducible exact cS rfl a b)):G:=h a b
theorem ca_{G A B:Prop}(a:A)(b:B)(h:A→B→G:=by intro a b;with_reducible exact NM a b):G:=h a b
theorem hq_{G H:Prop}(k:H)(h:H→G:=by intro k;with_reducible exact hK _ k):G:=h k
theorem rg_{G H:Prop}(k:H)(h:H→G:=by intro k;first|(with_reducible exact LH k)|((with_reducible refine vO false ?_ k);rfl)|((with_reducible refine vO true ?_ k);rfl)):G:=h k
section
variable{P:Program}{K:St→Prop}{st:St}{m:Bool}{l:List IOp}
theorem UN{H:Prop}(h:sw P K l st=H):sw P K l st=H:=h
theorem UQ{H:Prop}(h:sd P m K l st=H):sd P m K l st=H:=h
end
theorem sz_{G H F:Prop}(f:F)(k:H)(h:F→G=H:=by intro f;first|((with_reducible apply UN);conv=>lhs;simp(disch:=first|decide|omega) only[↓pkS,pkW,pkA,pkZ,List.flatMap_cons,List.flatMap_nil,List.append_nil,bg,lvD,lcD,lvK,lcK,bn,ex,kav,gdA,opI,bI,iE,bV,AV.toD,AC.toD,AV.nw,AC.nw,AC.one,Value.oneCell',if_true,if_false,Bool.false_eq_true,bW,D.one,D.sz,Nat.reduceAdd,Nat.reduceSub,Nat.reduceLeDiff,Nat.reduceEqDiff,reduceIte,pkN,LY,Int.reduceLT,Int.reduceLE,AV.fl,AC.fl,AV.shift,AC.shift,szD,List.size_toArray,ByteArray.size_append,uF,eqV,eqC,f])|((with_reducible apply UQ);conv=>lhs;simp(disch:=first|decide|omega) only[↓pkR,pkD,pkA,pkZ,List.flatMap_cons,List.flatMap_nil,List.append_nil,bg,lvD,lcD,lvK,lcK,bn,ex,kav,gdA,opI,bI,iE,bV,AV.toD,AC.toD,AV.nw,AC.nw,AC.one,Value.oneCell',if_true,if_false,Bool.false_eq_true,bW,D.one,D.sz,Nat.reduceAdd,Nat.reduceSub,Nat.reduceLeDiff,Nat.reduceEqDiff,reduceIte,pkN,LY,Int.reduceLT,Int.reduceLE,AV.fl,AC.fl,AV.shift,AC.shift,szD,List.size_toArray,ByteArray.size_append,uF,eqV,eqC,f])):G:=(h f).mpr k
theorem cg_{G:Prop}(k:G)(h:G→G:=by intro k;first|(with_reducible exact Tn k)|(with_reducible exact QD k)):G:=h k
theorem cT_{G H:Prop}{P:Program}{f:Nat}{ds:List D}{r:AV}(hc:aJ P f ds r)(k:H)(h:aJ P f ds r→H→G:=by intro hc k;first|((with_reducible refine Tn ?_);exact Ua (hc:=hc) (h:=k))|((with_reducible refine QD ?_);exact SA (hc:=hc) (h:=k))):G:=h hc k
theorem bq_{G:Prop}(h:G:=by first|(first|(with_reducible rfl)|(with_reducible refine fC ?_;kernel_rfl)|exact eu _|exact dY _|exact el_ln _|exact el_tk _ _|exact el_td _ _ _|omega|(simp;done)|(simp;omega))|((with_reducible refine fF ?_);first|exact⟨⟨rfl,rfl⟩,trivial⟩|exact trivial|exact⟨⟨rfl,rfl⟩,⟨rfl,rfl⟩,trivial⟩|exact⟨⟨rfl,rfl⟩,⟨rfl,rfl⟩,⟨rfl,rfl⟩,trivial⟩|(simp[St.ev,List.map_cons,List.map_nil,List.getD_cons_zero,List.getD_cons_succ,aO,iW,fU,jg,AC.toD,aG,ay,aB,aF,Value.oneCell',eF,bG,eH,eG,fJ,bQ,fO,fM,mJ,mM,qM,qL,LY,AV.fl,AC.fl,AV.shift,AC.shift,List.append_nil];first|done|rfl))):G:=h
theorem a3_{A B C:Prop}(a:A)(b:B)(c:C):A∧(B∧C):=⟨a,b,c⟩
theorem a4_{A B C D:Prop}(a:A)(b:B)(c:C)(d:D):A∧(B∧(C∧D)):=⟨a,b,c,d⟩
theorem a5_{A B C D E:Prop}(a:A)(b:B)(c:C)(d:D)(e:E):A∧(B∧(C∧(D∧E))):=⟨a,b,c,d,e⟩
def zz_(d:Nat)(i:I):IOp:=⟨some d,none,i⟩
def zy_(d t:Nat)(i:I):IOp:=⟨some d,some (t,true),i⟩
def zx_(d t:Nat)(i:I):IOp:=⟨some d,some (t,false),i⟩
def zw_(d a:Nat):IOp:=⟨some d,none,.mov (.t a)⟩
def zv_(d t a:Nat):IOp:=⟨some d,some (t,true),.mov (.t a)⟩
def zu_(d t a:Nat):IOp:=⟨some d,some (t,false),.mov (.t a)⟩
def zt_(d k a:Nat):IOp:=⟨some d,none,.fad k (.t a)⟩
def zs_(d k a:Nat):IOp:=⟨some d,none,.load k false (.t a)⟩
def zr_(d k a:Nat):IOp:=⟨some d,none,.load k true (.t a)⟩
def zq_(d f a:Nat):IOp:=⟨some d,none,.call f [.t a]⟩
def zp_(d f a b:Nat):IOp:=⟨some d,none,.call f [.t a,.t b]⟩
def zo_(d f a b c:Nat):IOp:=⟨some d,none,.call f [.t a,.t b,.t c]⟩
def zn_(d f a:Nat)(z:Int):IOp:=⟨some d,none,.call f [.t a,.k (.int .i64 z)]⟩
def zm_(d:Nat)(o:BinOp)(a:Nat)(z:Int):IOp:=⟨some d,none,.bin o (.t a) (.k (.int .i64 z))⟩
def zl_(d:Nat)(o:BinOp)(a b:Nat):IOp:=⟨some d,none,.bin o (.t a) (.t b)⟩
def zk_(d:Nat)(z:Int):IOp:=⟨some d,none,.mov (.k (.int .i64 z))⟩
def zj_(d:Nat)(v:Bool):IOp:=⟨some d,none,.mov (.k (.bool v))⟩
def zi_(d a:Nat):IOp:=⟨some d,none,.nck (.t a)⟩
def zh_(d a b:Nat)(v:Bool):IOp:=⟨some d,none,.pick (.t a) (.t b) (.k (.bool v))⟩
def zg_(d a:Nat)(v:Bool)(b:Nat):IOp:=⟨some d,none,.pick (.t a) (.k (.bool v)) (.t b)⟩
def zf_(d:Nat)(v:Bool)(a:Nat):IOp:=⟨some d,none,.len v (.t a)⟩
def ze_(d k a b:Nat):IOp:=⟨some d,none,.iad k (.t a) (.t b)⟩
def zd_(l:List IOp)(x:IC):IC:= .seq (.reg false l) x
def zc_(n:Nat)(v:Bool)(y:IC):IC:= .seq (.reg false [⟨some n,none,.mov (.k (.bool v))⟩]) y
theorem zb_{G H:Prop}(k:H)(h:G=H:=by conv=>lhs;dsimp only[zz_,zy_,zx_,zw_,zv_,zu_,zt_,zs_,zr_,zq_,zp_,zo_,zn_,zm_,zl_,zk_,zj_,zi_,zh_,zg_,zf_,ze_,zd_,zc_]):G:=h.mpr k
theorem za_{a b:Int}(h:a≠b):(a==b)=false:=beq_false_of_ne h
end Go.Proofs.Ytagaefgglphkgaa
