/-
  Texts joined: IrE IrF IrT Ty IrG IrL IrS IrW IrR IrN IrU IrV IrX IrY.
-/
import Derived.Test.YtagaefgglphkgaaGreatJD
import Derived.Test.YtagaefgglphkgaaGreatJA
set_option linter.unusedSimpArgs false
set_option linter.unusedVariables false
namespace Go.Proofs.YtagaefgglphkgaaGreat
open Go.RowKit
open List renaming getElem?_eq_getElem→a_,getElem?_eq_some_iff→b_,getD_eq_getElem?_getD→c_,getElem?_take→d_,mem_of_getElem? →f_,getElem?_append_left→g_,mem_map→h_,mem_flatMap→j_,all_cons→n_,nodup_append→q_,mem_append→s_,all_eq_true→u_,length_cons→v_,take_sublist→w_,mem_append_right→x_,mem_append_left→y_,getElem?_append_right→z_,replicate→B_,getElem?_map→D_,flatMap_cons→E_,getElem?_set_self→F_,cons_append→G_,length_map→H_,getElem?_set_ne→I_,nodup_nil→J_,map_cons→L_,length_take→N_,getElem?_replicate→O_,getElem?_cons_zero→Q_,getElem?_cons_succ→R_,nil_append→S_,append_nil→T_,getElem?_toArray→V_,mem_iff_getElem? →W_,getElem?_append→Y_,map_congr_left→Z_,getD_cons_zero→a_a,getD_cons_succ→a_b,take_succ_cons→a_c,drop_succ_cons→a_d,map_nil→a_e,set_cons_zero→a_f,set_cons_succ→a_g,size_toArray→a_k,getElem_inj→a_n,nodup_cons→a_p,length_nil→a_r,take_zero→a_u,drop_zero→a_v,take_nil→a_w,drop_nil→a_x,flatMap→a_B,all_nil→a_E
open Bool renaming and_eq_true→e_,not_false→K_,not_true→M_,not_eq_eq_eq_not→X_,false_eq_true→a_h,not_eq_false'→a_j,not_eq_true'→a_m,and_true→a_y,true_and→a_z,and_self→a_A
open Option renaming map_eq_some_iff→i_,getD_some→m_,map_some→U_,getD_none→a_o,map_none→a_s
open Value renaming oneCell'→k_
open Nat renaming le_refl→l_,le_trans→p_,zero_le→t_,lt_of_lt_of_le→A_,add_sub_cancel_left→P_,zero_add→a_C,add_zero→a_D,le_of_eq→a_F
open Or renaming inr→o_,inl→r_
open Option.some renaming injEq→C_
inductive IC where
 |reg (dr:Bool) (ops:List IOp)
 |regN (b s:Bool) (Ts:List Nat) (ops:List IOp)
 |seq (x y:IC)
 |cond (c:Opd) (x y:IC)
 |block (id:Nat) (x:IC)
 |loop (x:IC)
 |exit (id:Nat)
 |ret
 |skip
def XW(is:List IOp):List Nat:=(is.filterMap fun o=>oK o.i).filter fun t=>is.all fun o=>match o.d with|some u=>u !=t|none=>true
def Zy(is:List IOp):Bool:=is.any fun o=>match o.i with
 | .store _ (.t x) _=>is.any fun q=>q.d==some x && (match q.i with
   | .iad .. =>true
   | .fad _ (.t y)=>is.any fun r=>r.d==some y && (match r.i with| .iad .. =>true|_=>false)
   |_=>false)
 |_=>false
def YQ(is:List IOp):Bool:=(is.any fun o=>match o.i with| .brow false .. =>true|_=>false) && (is.any fun o=>match o.i with| .app .. =>true|_=>false)
def V9(ops:List Oper)(Ts:List Nat)(is:List IOp):IC:= .regN (xC ops is) (YQ is && rO (1000001::Ts) ops is) Ts is
def Xt(ops:List Oper)(is:List IOp):Option IC:=
 if(xC ops is && !(is.any fun o=>o.i.isC)) && !Zy is then(if YQ is && rO [] ops is then some (V9 ops [] is)else some (.reg true is))
 else if rO [] ops is then some (V9 ops [] is)
 else if rO (XW is) ops is then some (V9 ops (XW is) is)
 else if xC ops is then some (.reg true is)
 else if rO (1000000::XW is) ops is then some (V9 ops (1000000::XW is) is)else none
theorem nD{ops:List Oper}{is:List IOp}{c:IC}(h:Xt ops is=some c):(c= .reg true is∧xC ops is=true)∨∃Ts s,c= .regN (xC ops is) s Ts is∧rO Ts ops is=true∧(s=true→rO (1000001::Ts) ops is=true):=by
 have hn:∀Ts,rO Ts ops is=true→∃Ts' s,V9 ops Ts is= .regN (xC ops is) s Ts' is∧rO Ts' ops is=true∧(s=true→rO (1000001::Ts') ops is=true):=fun Ts h=>
  ⟨Ts,_,rfl,h,fun h1=>by rw[e_]at h1;exact h1.2⟩
 unfold Xt at h;split at h
 ·next h1=>
  simp only[e_]at h1;split at h
  ·next h2=>injection h with h;rw[e_]at h2;exact o_ (h▸hn _ h2.2)
  ·injection h with h;exact r_ ⟨h.symm,h1.1.1⟩
 ·split at h
  ·next h1=>injection h with h;exact o_ (h▸hn _ h1)
  ·split at h
   ·next h1=>injection h with h;exact o_ (h▸hn _ h1)
   ·split at h
    ·next h1=>injection h with h;exact r_ ⟨h.symm,h1⟩
    ·split at h
     ·next h1=>injection h with h;exact o_ (h▸hn _ h1)
     ·cases h
def ak(P:Program):Code→Option IC
 | .region id ops false=>(lI P ops ops.toList).map (IC.reg false)
 | .region id ops true=>(match lI P ops ops.toList with|some is=>if P.follows .mixedOrders then Xt ops.toList is else none|none=>none)
 | .seq x y=>(match ak P x,ak P y with|some x,some y=>some (.seq x y)|_,_=>none)
 | .cond c x y=>(match ak P x,ak P y with|some x,some y=>some (.cond (opd c) x y)|_,_=>none)
 | .block id x=>(ak P x).map (IC.block id)
 | .loop x=>(ak P x).map IC.loop
 | .exit id=>some (.exit id)
 | .ret=>some .ret
 | .skip=>some .skip
 | .label _=>some .skip
 |_=>none
theorem oh{P:Program}{id:Nat}{ops:Array Oper}{b:Bool}{c:IC}(h:ak P (.region id ops b)=some c)(hc:∀d l,c≠ .reg d l)(hn:∀b s T l,c≠ .regN b s T l):False:=by
 cases b with
 | false=>
   simp only[ak]at h;obtain⟨l,_,he⟩:=i_.1 h;exact hc _ _ he.symm
 | true=>
   simp only[ak]at h;split at h
   ·split at h
    ·rcases nD h with⟨h,_⟩|⟨Ts,s,h,_⟩
     ·exact hc _ _ h
     ·exact hn _ _ _ _ h
    ·cases h
   ·cases h
def iT(lo:Nat×Nat)(P:Program)(c:IC)(Q:Exit→St→Prop)(st:St):Prop:=
 ∀(code:Code),ak P code=some c→∀(B:Nat) (Xs:List Nat) (G:Org) (w0:World),(G.os.length≤lo.1∧G.E.bm.length≤lo.2)→∀(E:Env) (a:Act) (w:World),Rel B Xs G w0 st E a w→code.wp P (fun e a' w'=>∃st' E',Rel B Xs G w0 st' E' a' w'∧Q e st') a w
abbrev AWP(P:Program)(c:IC)(Q:Exit→St→Prop)(st:St):Prop:=iT (0,0) P c Q st
def KH(lo:Nat×Nat)(P:Program)(y:IC)(Q:Exit→St→Prop):Exit→St→Prop
 | .normal,st=>iT lo P y Q st
 |e,st=>Q e st
def Bj(id:Nat)(Q:Exit→St→Prop):Exit→St→Prop
 | .exit id',st=>if id'=id then Q .normal st else Q (.exit id') st
 |e,st=>Q e st
section
variable{lo:Nat×Nat}{P:Program}{Q:Exit→St→Prop}{st:St}
theorem iL(h:Q .normal st):iT lo P .skip Q st:=fun code hc B Xs G w0 hG E a w hR=>by
 cases code with
 |skip=>exact wp_skip ⟨st,E,hR,h⟩
 |label l=>exact wp_label ⟨st,E,hR,h⟩
 |region id ops b=>exact(oh hc (by simp) (by simp)).elim
 |seq x y=>simp only[ak]at hc;split at hc<;>simp at hc
 |cond c x y=>simp only[ak]at hc;split at hc<;>simp at hc
 |block id x=>simp[ak]at hc
 |loop x=>simp[ak]at hc
 |exit id=>simp[ak]at hc
 |ret=>simp[ak]at hc
 |rangeFunc=>simp[ak]at hc
 |scope=>simp[ak]at hc
 |goto=>simp[ak]at hc
 |refuse=>simp[ak]at hc
theorem iM{id:Nat}(h:Q (.exit id) st):iT lo P (.exit id) Q st:=fun code hc B Xs G w0 hG E a w hR=>by
 cases code with
 |exit id=>simp[ak]at hc;subst hc;exact wp_exit ⟨st,E,hR,h⟩
 |skip=>simp[ak]at hc
 |label l=>simp[ak]at hc
 |region id ops b=>exact(oh hc (by simp) (by simp)).elim
 |seq x y=>simp only[ak]at hc;split at hc<;>simp at hc
 |cond c x y=>simp only[ak]at hc;split at hc<;>simp at hc
 |block id x=>simp[ak]at hc
 |loop x=>simp[ak]at hc
 |ret=>simp[ak]at hc
 |rangeFunc=>simp[ak]at hc
 |scope=>simp[ak]at hc
 |goto=>simp[ak]at hc
 |refuse=>simp[ak]at hc
theorem jR(h:Q .ret st):iT lo P .ret Q st:=fun code hc B Xs G w0 hG E a w hR=>by
 cases code with
 |ret=>exact wp_ret ⟨st,E,hR,h⟩
 |exit id=>simp[ak]at hc
 |skip=>simp[ak]at hc
 |label l=>simp[ak]at hc
 |region id ops b=>exact(oh hc (by simp) (by simp)).elim
 |seq x y=>simp only[ak]at hc;split at hc<;>simp at hc
 |cond c x y=>simp only[ak]at hc;split at hc<;>simp at hc
 |block id x=>simp[ak]at hc
 |loop x=>simp[ak]at hc
 |rangeFunc=>simp[ak]at hc
 |scope=>simp[ak]at hc
 |goto=>simp[ak]at hc
 |refuse=>simp[ak]at hc
theorem jQ{x y:IC}(h:iT lo P x (KH lo P y Q) st):iT lo P (.seq x y) Q st:=fun code hc B Xs G w0 hG E a w hR=>by
 cases code with
 | seq cx cy=>
   simp only[ak]at hc;split at hc
   ·next x' y' hx hy=>
    simp only[C_,IC.seq.injEq]at hc;obtain⟨rfl,rfl⟩:=hc;refine wp_seq (wp_mono (h cx hx B Xs G w0 hG E a w hR) ?_);rintro e a' w' ⟨st',E',h1,h2⟩;cases e with
    |normal=>exact h2 cy hy B Xs G w0 hG E' a' w' h1
    |_=>exact⟨st',E',h1,h2⟩
   ·cases hc
 |ret=>simp[ak]at hc
 |exit id=>simp[ak]at hc
 |skip=>simp[ak]at hc
 |label l=>simp[ak]at hc
 |region id ops b=>exact(oh hc (by simp) (by simp)).elim
 |cond c x y=>simp only[ak]at hc;split at hc<;>simp at hc
 |block id x=>simp[ak]at hc
 |loop x=>simp[ak]at hc
 |rangeFunc=>simp[ak]at hc
 |scope=>simp[ak]at hc
 |goto=>simp[ak]at hc
 |refuse=>simp[ak]at hc
theorem FI{c:Opd}{x y:IC}{b:Bool}(hb:st.ev c= .c false [.raw (.bool b)])(h1:b=true→iT lo P x Q st)(h2:b=false→iT lo P y Q st):iT lo P (.cond c x y) Q st:=fun code hc B Xs G w0 hG E a w hR=>by
 cases code with
 | cond o cx cy=>
   simp only[ak]at hc;split at hc
   ·next x' y' hx hy=>
    simp only[C_,IC.cond.injEq]at hc;obtain⟨rfl,rfl,rfl⟩:=hc;have he:=cO hR hb;cases b with
    |true=>exact wp_cond_true he (h1 rfl cx hx B Xs G w0 hG E a w hR)
    |false=>exact wp_cond_false he (h2 rfl cy hy B Xs G w0 hG E a w hR)
   ·cases hc
 |seq x y=>simp only[ak]at hc;split at hc<;>simp at hc
 |ret=>simp[ak]at hc
 |exit id=>simp[ak]at hc
 |skip=>simp[ak]at hc
 |label l=>simp[ak]at hc
 |region id ops b=>exact(oh hc (by simp) (by simp)).elim
 |block id x=>simp[ak]at hc
 |loop x=>simp[ak]at hc
 |rangeFunc=>simp[ak]at hc
 |scope=>simp[ak]at hc
 |goto=>simp[ak]at hc
 |refuse=>simp[ak]at hc
theorem fZ{id:Nat}{x:IC}(h:iT lo P x (Bj id Q) st):iT lo P (.block id x) Q st:=fun code hc B Xs G w0 hG E a w hR=>by
 cases code with
 | block id' cx=>
   simp only[ak]at hc;obtain⟨x',hx,he⟩:=i_.1 hc;simp only[IC.block.injEq]at he;obtain⟨rfl,rfl⟩:=he;refine wp_block (wp_mono (h cx hx B Xs G w0 hG E a w hR) ?_);rintro e a' w' ⟨st',E',h1,h2⟩;cases e with
   | exit j=>
     simp only[Exit.inBlock,Bj]at h2⊢;split
     ·next e=>rw[if_pos e]at h2;exact⟨st',E',h1,h2⟩
     ·next e=>rw[if_neg e]at h2;exact⟨st',E',h1,h2⟩
   |_=>exact⟨st',E',h1,h2⟩
 |cond c x y=>simp only[ak]at hc;split at hc<;>simp at hc
 |seq x y=>simp only[ak]at hc;split at hc<;>simp at hc
 |ret=>simp[ak]at hc
 |exit id=>simp[ak]at hc
 |skip=>simp[ak]at hc
 |label l=>simp[ak]at hc
 |region id ops b=>exact(oh hc (by simp) (by simp)).elim
 |loop x=>simp[ak]at hc
 |rangeFunc=>simp[ak]at hc
 |scope=>simp[ak]at hc
 |goto=>simp[ak]at hc
 |refuse=>simp[ak]at hc
theorem RD{ops:List IOp}(h:∀K:St→Prop,(∀st',Q .normal st'→K st')→sw P K ops st):iT lo P (.reg false ops) Q st:=fun code hc B Xs G w0 hG E a w hR=>by
 cases code with
 | region id cops b=>
   cases b with
   | true=>
     simp only[ak]at hc;split at hc
     ·split at hc
      ·rcases nD hc with⟨hc,_⟩|⟨Ts,s,hc,_⟩<;>simp at hc
      ·cases hc
     ·cases hc
   | false=>
     simp only[ak]at hc;obtain⟨l,hl,he⟩:=i_.1 hc;simp only[IC.reg.injEq]at he;obtain⟨_,rfl⟩:=he;exact wp_region_list (zZ (K:=Q .normal) (fun st' E' a' w' h1 h2=>⟨st',E',h1,h2⟩) _ _ st E a w hl hR (h _ fun _ h=>h))
 |block id x=>simp[ak]at hc
 |cond c x y=>simp only[ak]at hc;split at hc<;>simp at hc
 |seq x y=>simp only[ak]at hc;split at hc<;>simp at hc
 |ret=>simp[ak]at hc
 |exit id=>simp[ak]at hc
 |skip=>simp[ak]at hc
 |label l=>simp[ak]at hc
 |loop x=>simp[ak]at hc
 |rangeFunc=>simp[ak]at hc
 |scope=>simp[ak]at hc
 |goto=>simp[ak]at hc
 |refuse=>simp[ak]at hc
theorem zA{ops:List IOp}(m:Bool)(hm:m=ops.any fun o=>o.i.cls==3)(h:∀K:St→Prop,(∀st',Q .normal st'→K st')→sd P m K ops st):iT lo P (.reg true ops) Q st:=fun code hc B Xs G w0 hG E a w hR=>by
 cases code with
 | region id cops b=>
   cases b with
   | false=>
     simp only[ak]at hc;obtain⟨l,hl,he⟩:=i_.1 hc;simp at he
   | true=>
     simp only[ak]at hc;split at hc
     ·next l hl=>
      split at hc
      ·next hd=>
       rcases nD hc with⟨hc,hb⟩|⟨Ts,s,hc,_⟩
       ·simp only[IC.reg.injEq]at hc;obtain⟨_,rfl⟩:=hc;exact YO (K:=Q .normal) hd hl hb hm (fun st' E' a' w' h1 h2=>⟨st',E',h1,h2⟩) (h _ fun _ h=>h) hR
       ·cases hc
      ·cases hc
     ·cases hc
 |block id x=>simp[ak]at hc
 |cond c x y=>simp only[ak]at hc;split at hc<;>simp at hc
 |seq x y=>simp only[ak]at hc;split at hc<;>simp at hc
 |ret=>simp[ak]at hc
 |exit id=>simp[ak]at hc
 |skip=>simp[ak]at hc
 |label l=>simp[ak]at hc
 |loop x=>simp[ak]at hc
 |rangeFunc=>simp[ak]at hc
 |scope=>simp[ak]at hc
 |goto=>simp[ak]at hc
 |refuse=>simp[ak]at hc
theorem bG{ops:List IOp}{Ts:List Nat}{s:Bool}(m:Bool)(hm:m=ops.any fun o=>o.i.cls==3)(h:∀K:St→Prop,(∀st',Q .normal st'→K st')→sd P m K ops st):iT lo P (.regN true s Ts ops) Q st:=fun code hc B Xs G w0 hG E a w hR=>by
 cases code with
 | region id cops b=>
   cases b with
   | false=>
     simp only[ak]at hc;obtain⟨l,hl,he⟩:=i_.1 hc;simp at he
   | true=>
     simp only[ak]at hc;split at hc
     ·next l hl=>
      split at hc
      ·next hd=>
       rcases nD hc with⟨hc,hb⟩|⟨Ts,s,hc,_⟩
       ·cases hc
       ·simp only[IC.regN.injEq]at hc;obtain⟨hb,_,_,rfl⟩:=hc;exact YO (K:=Q .normal) hd hl hb.symm hm (fun st' E' a' w' h1 h2=>⟨st',E',h1,h2⟩) (h _ fun _ h=>h) hR
      ·cases hc
     ·cases hc
 |block id x=>simp[ak]at hc
 |cond c x y=>simp only[ak]at hc;split at hc<;>simp at hc
 |seq x y=>simp only[ak]at hc;split at hc<;>simp at hc
 |ret=>simp[ak]at hc
 |exit id=>simp[ak]at hc
 |skip=>simp[ak]at hc
 |label l=>simp[ak]at hc
 |loop x=>simp[ak]at hc
 |rangeFunc=>simp[ak]at hc
 |scope=>simp[ak]at hc
 |goto=>simp[ak]at hc
 |refuse=>simp[ak]at hc
theorem zy{ops:List IOp}{Ts:List Nat}{b s:Bool}(kc:Nat)(m:Bool)(hD:zT Ts st)(h:∀K:St→Prop,(∀st',Q .normal st'→K st')→sn P kc m Ts K ops st)(hS:Oo Ts=true→∀y∈Ts,∀k off,st.ev (.t y)= .bptr k off→k=kc:=by first|(intro h;exact absurd h (by decide))|(simp[Oo,St.ev,List.getD_cons_zero,List.getD_cons_succ];done))(hsm:DW Ts=true→m=true:=by first|(intro h;exact absurd h (by decide))|(intro _;rfl)):iT lo P (.regN b s Ts ops) Q st:=fun code hc B Xs G w0 hG E a w hR=>by
 cases code with
 | region id cops b=>
   cases b with
   | false=>
     simp only[ak]at hc;obtain⟨l,hl,he⟩:=Option.map_eq_some_iff.1 hc;simp at he
   | true=>
     simp only[ak]at hc;split at hc
     ·next l hl=>
      split at hc
      ·next hd=>
       rcases nD hc with⟨hc,hb⟩|⟨Ts,s,hc,hb,hs⟩
       ·cases hc
       ·simp only[IC.regN.injEq]at hc;obtain⟨_,_,rfl,rfl⟩:=hc;exact YN (K:=Q .normal) (kc:=kc) (m:=m) hd hl hb hsm ⟨hD,hS⟩ (fun st' E' a' w' h1 h2=>⟨st',E',h1,h2⟩) (h _ fun _ h=>h) hR
      ·cases hc
     ·cases hc
 |block id x=>simp[ak]at hc
 |cond c x y=>simp only[ak]at hc;split at hc<;>simp at hc
 |seq x y=>simp only[ak]at hc;split at hc<;>simp at hc
 |ret=>simp[ak]at hc
 |exit id=>simp[ak]at hc
 |skip=>simp[ak]at hc
 |label l=>simp[ak]at hc
 |loop x=>simp[ak]at hc
 |rangeFunc=>simp[ak]at hc
 |scope=>simp[ak]at hc
 |goto=>simp[ak]at hc
 |refuse=>simp[ak]at hc
theorem TY{ops:List IOp}{Ts:List Nat}{b:Bool}(kc:Nat)(hD:zT (1000001::Ts) st)(h:∀K:St→Prop,(∀st',Q .normal st'→K st')→sn P kc true (1000001::Ts) K ops st)(hS:Oo (1000001::Ts)=true→∀y∈1000001::Ts,∀k off,st.ev (.t y)= .bptr k off→k=kc:=by first|(intro h;exact absurd h (by decide))|(simp[Oo,St.ev,List.getD_cons_zero,List.getD_cons_succ];done)):iT lo P (.regN b true Ts ops) Q st:=fun code hc B Xs G w0 hG E a w hR=>by
 cases code with
 | region id cops b=>
   cases b with
   | false=>
     simp only[ak]at hc;obtain⟨l,hl,he⟩:=Option.map_eq_some_iff.1 hc;simp at he
   | true=>
     simp only[ak]at hc;split at hc
     ·next l hl=>
      split at hc
      ·next hd=>
       rcases nD hc with⟨hc,hb⟩|⟨Ts,s,hc,hb,hs⟩
       ·cases hc
       ·simp only[IC.regN.injEq]at hc;obtain⟨_,h9,rfl,rfl⟩:=hc;exact YN (K:=Q .normal) (kc:=kc) (m:=true) hd hl (hs h9.symm) (fun _=>rfl) ⟨hD,hS⟩ (fun st' E' a' w' h1 h2=>⟨st',E',h1,h2⟩) (h _ fun _ h=>h) hR
      ·cases hc
     ·cases hc
 |block id x=>simp[ak]at hc
 |cond c x y=>simp only[ak]at hc;split at hc<;>simp at hc
 |seq x y=>simp only[ak]at hc;split at hc<;>simp at hc
 |ret=>simp[ak]at hc
 |exit id=>simp[ak]at hc
 |skip=>simp[ak]at hc
 |label l=>simp[ak]at hc
 |loop x=>simp[ak]at hc
 |rangeFunc=>simp[ak]at hc
 |scope=>simp[ak]at hc
 |goto=>simp[ak]at hc
 |refuse=>simp[ak]at hc
theorem NH{st:St}:zT [] st:=fun x hx=>by simp at hx
def AC.fits(n m:Nat):AC→Bool
 | .own k _=>decide (k<n)
 | .osub k _ _ _=>decide (k<n)
 | .cl _ caps=>caps.all fun k=>decide (k<m)
 |_=>true
def AV.fits(n m:Nat):AV→Bool
 | .c _ xs=>xs.all (AC.fits n m)
 | .ptr xs=>xs.all (AC.fits n m)
 | .bptr k _=>decide (k<m)
 | .eptr k _ _ _=>decide (k<n)
 | .tup ys=>ys.all fun y=>y.2.all (AC.fits n m)
 | .any=>true
def dW(n m:Nat):List AV→List AV→Prop
 | [],[]=>True
 |x::xs,y::ys=>(y= .any∨(x=y∧y.fits n m=true))∧dW n m xs ys
 |_,_=>False
def XI(st st':St):Prop:=dW st'.owns.length st'.boxes.length st.fr st'.fr∧(∃r,st.owns=st'.owns++r)∧(∃r,st.boxes=st'.boxes++r)∧∀xs∈st'.boxes,xs.all (AC.fits st'.owns.length st'.boxes.length)=true
def bH :List Own→List Own→Prop
 |_,[]=>True
 |o::os,o'::os'=>(o.l=o'.l∧o.e=o'.e∧o.s=o'.s∧o.ver=o'.ver∧o.nw=o'.nw)∧bH os os'
 | [],_::_=>False
def bK :List (List AC)→List (List AC)→Prop
 |_,[]=>True
 |x::xs,y::ys=>x=y∧bK xs ys
 | [],_::_=>False
def bU(st st':St):Prop:=dW st'.owns.length st'.boxes.length st.fr st'.fr∧bH st.owns st'.owns∧bK st.boxes st'.boxes∧(st'.boxes.all fun xs=>xs.all (AC.fits st'.owns.length st'.boxes.length))=true
theorem xW :∀{os os':List Own},bH os os'→∃r,os=os'++r
 |os,[],_=>⟨os,rfl⟩
 | o::os,o'::os',h=>by
   obtain⟨r,hr⟩:=xW h.2;obtain⟨⟨h1,h2,h3,h4,h5⟩,_⟩:=h;refine⟨r, ?_⟩;rw[G_,← hr];congr 1;cases o;cases o';simp_all
 | [],_::_,h=>h.elim
theorem yD :∀{xs ys:List (List AC)},bK xs ys→∃r,xs=ys++r
 |xs,[],_=>⟨xs,rfl⟩
 | x::xs,y::ys,h=>by
   obtain⟨r,hr⟩:=yD h.2;exact⟨r,by rw[G_,← hr,h.1]⟩
 | [],_::_,h=>h.elim
theorem Je{st st':St}(h:bU st st'):XI st st':=by
 obtain⟨h1,h2,h3,h4⟩:=h;exact⟨h1,xW h2,yD h3,fun xs hx=>u_.1 h4 xs hx⟩
section
variable{E:Env}{os os':List Own}{w:World}{n m:Nat}
def Env.cut(E:Env)(n m:Nat):Env:={E with om:=E.om.take n,bm:=E.bm.take m}
theorem Rt{b:Nat}(h:b∈(E.cut n m).M):b∈E.M:=by
 rcases jr.1 h with⟨k,p,h1,h2⟩|⟨k,p,h1,h2⟩
 ·refine jr.2 (r_ ⟨k,p, ?_,h2⟩);simp only[Env.cut]at h1;rw[d_]at h1;split at h1
  ·exact h1
  ·cases h1
 ·refine jr.2 (o_ ⟨k,p, ?_,h2⟩);simp only[Env.cut]at h1;rw[d_]at h1;split at h1
  ·exact h1
  ·cases h1
theorem AC.ok.cut{r:List Own}{x:AC}{v:Value}(h:x.ok E (os++r) w v)(hn:os.length=n)(hf:x.fits n m=true):x.ok (E.cut n m) os w v:=by
 cases x with
 |any=>trivial
 |raw u=>exact h
 | cl f caps=>
   obtain⟨ps,h1,h2⟩:=h;refine⟨ps, ?_,h2⟩;rw[← h1];refine Z_ fun k hk=> ?_
   have:k<m:=by simpa using u_.1 hf k hk
   simp only[Env.cut];rw[d_,if_pos this]
 | sl b l=>
   obtain⟨fp,h1,h2⟩:=h;exact⟨fp,h1,fun b hb=>⟨fun hm=>(h2 b hb).1 (Rt hm),(h2 b hb).2⟩⟩
 | own k i=>
   obtain⟨hv,o,p,h1,h2,h3,h4⟩:=h;have hk:k<n:=by simpa[AC.fits]using hf
   refine⟨hv,o,p, ?_, ?_,h3,h4⟩
   ·rwa[g_ (by omega)]at h1
   ·simp only[Env.cut];rw[d_,if_pos hk];exact h2
 | osub k i pa pb=>
   obtain⟨hv,o,p,h1,h2,h3,h4⟩:=h;have hk:k<n:=by simpa[AC.fits]using hf
   refine⟨hv,o,p, ?_, ?_,h3,h4⟩
   ·rwa[g_ (by omega)]at h1
   ·simp only[Env.cut];rw[d_,if_pos hk];exact h2
theorem Oks.cut{r:List Own}(hn:os.length=n):∀{xs:List AC} {vs:List Value},Oks E (os++r) w xs vs→xs.all (AC.fits n m)=true→Oks (E.cut n m) os w xs vs
 | [],[],_,_=>trivial
 | x::xs,v::vs,h,hf=>by
   simp only[n_,e_]at hf;exact⟨h.1.cut hn hf.1,Oks.cut hn h.2 hf.2⟩
 | [],_::_,h,_=>h.elim
 |_::_,[],h,_=>h.elim
theorem Gok.cut{r:List Own}(hn:os.length=n){g:Bool}{xs:List AC}{v:Value}(h:Gok E (os++r) w g xs v)(hf:xs.all (AC.fits n m)=true):Gok (E.cut n m) os w g xs v:=by
 cases g with
 |true=>obtain⟨vs,h1,h2⟩:=h;exact⟨vs,h1,h2.cut hn hf⟩
 |false=>exact Oks.cut hn (show Oks _ _ _ xs [v] from h) hf
theorem qP.cut{r:List Own}(hn:os.length=n):∀{ys:List (Bool×List AC)} {vs:List Value},qP E (os++r) w ys vs→(ys.all fun y=>y.2.all (AC.fits n m))=true→qP (E.cut n m) os w ys vs
 | [],[],_,_=>trivial
 | x::xs,v::vs,h,hf=>by
   simp only[n_,e_]at hf;exact⟨h.1.cut hn hf.1,qP.cut hn h.2 hf.2⟩
 | [],_::_,h,_=>h.elim
 |_::_,[],h,_=>h.elim
theorem AV.ok.cut{r:List Own}(hn:os.length=n){x:AV}{v:Value}(h:x.ok E (os++r) w v)(hf:x.fits n m=true):x.ok (E.cut n m) os w v:=by
 cases x with
 |any=>trivial
 |c g xs=>exact Gok.cut hn h hf
 | ptr xs=>
   obtain⟨b,o,vs,h1,h2,h3,h4,h5⟩:=h;exact⟨b,o,vs,h1,h2,fun hm=>h3 (Rt hm),h4,h5.cut hn hf⟩
 | bptr k off=>
   obtain⟨p,h1,h2⟩:=h;refine⟨p, ?_,h2⟩;simp only[Env.cut];rw[d_,if_pos (by simpa[AV.fits]using hf)];exact h1
 | eptr k i j off=>
   obtain⟨o,p,h1,h2,h3,h4⟩:=h;have hk:k<n:=by simpa[AV.fits]using hf
   refine⟨o,p, ?_, ?_,h3,h4⟩
   ·rwa[g_ (by omega)]at h1
   ·simp only[Env.cut];rw[d_,if_pos hk];exact h2
 | tup ys=>
   obtain⟨vs,h1,h2⟩:=h;exact⟨vs,h1,h2.cut hn hf⟩
end
theorem Np{n m:Nat}:∀{xs ys:List AV},dW n m xs ys→xs.length=ys.length∧∀(t:Nat) (y:AV),ys[t]? =some y→y= .any∨(xs[t]? =some y∧y.fits n m=true)
 | [],[],_=>⟨rfl,fun t y h=>by simp at h⟩
 | x ::xs,y::ys,h=>by
   obtain⟨h1,h2⟩:=Np h.2;refine⟨by simp[h1],fun t z hz=> ?_⟩;cases t with
   | zero=>
     simp at hz;subst hz;rcases h.1 with h'|⟨h',h''⟩
     ·exact r_ h'
     ·exact o_ ⟨by simp[h'],h''⟩
   |succ t=>simpa using h2 t z (by simpa using hz)
 | [],_::_,h=>h.elim
 |_::_,[],h=>h.elim
theorem Rel.weak{B:Nat}{Xs:List Nat}{G:Org}{w0:World}{st st':St}{E:Env}{a:Act}{w:World}(h:Rel B Xs G w0 st E a w)(hle:XI st st')(hG1:G.os.length≤st'.owns.length)(hG2:G.E.bm.length≤st'.boxes.length):∃E',Rel B Xs G w0 st' E' a w:=by
 obtain⟨h1,⟨r1,h2⟩,⟨r2,h3⟩,h4⟩:=hle;obtain⟨hl,hf⟩:=Np h1;obtain⟨fr,os,bs⟩:=st;obtain⟨fr',os',bs'⟩:=st';simp only at h2 h3 h1 hl hf h4;subst h2 h3;have hol:=h.olen;have hbl:=h.blen;simp only[List.length_append]at hol hbl;refine⟨E.cut os'.length bs'.length, ?_⟩;exact
  { eb:=h.eb
    ex:=h.ex
    sim := { base:=h.sim.base,size:=h.sim.size,blk:=h.sim.blk,old:=fun b hb hm=>h.sim.old b hb (Rt hm),
             own:=fun k o p g1 g2=>by
              obtain⟨o',p',q1,q2,q3⟩:=h.sim.own k o p g1 g2;have hk:k<os'.length:=A_ (b_.1 g1).1 hG1;refine⟨o',p', ?_, ?_,q3⟩
              ·simp only at q1⊢;rwa[g_ hk]at q1
              ·simp only[Env.cut];rw[d_,if_pos hk];exact q2
             box:=fun k p g=>by
              have hk:k<bs'.length:=A_ (b_.1 g).1 hG2;simp only[Env.cut];rw[d_,if_pos hk];exact h.sim.box k p g}
    defers:=h.defers
    size:=by rw[h.size];exact hl
    fr:=fun t y hy=>by
     rcases hf t y hy with rfl|⟨h5,h6⟩
     ·trivial
     ·exact(h.fr t y h5).cut rfl h6
    olen:=by simp only[Env.cut,N_];omega
    own:=fun k o p g1 g2=>by
     have hk:k<os'.length:=(b_.1 g1).1;simp only[Env.cut]at g2;rw[d_,if_pos hk]at g2;obtain⟨cs,h5,h6,h7,h8⟩:=h.own k o p (by simp only;rw[g_ hk];exact g1) g2;exact⟨cs,h5,h6,h7,fun b hb=>⟨fun hm=>(h8 b hb).1 (Rt hm),(h8 b hb).2⟩⟩
    blen:=by simp only[Env.cut,N_];omega
    box:=fun k xs p g1 g2=>by
     have hk:k<bs'.length:=(b_.1 g1).1;simp only[Env.cut]at g2;rw[d_,if_pos hk]at g2;obtain⟨h5,vs,h6,h7⟩:=h.box k xs p (by simp only;rw[g_ hk];exact g1) g2;exact⟨h5,vs,h6,h7.cut rfl (h4 xs (f_ g1))⟩
    nodup:=by
     have:=h.nodup;unfold Env.M at this⊢;rw[q_]at this⊢;refine⟨this.1.sublist (by simp only[Env.cut];exact(w_ _ _).map _),this.2.1.sublist (by
      simp only[Env.cut];have e:=congrArg (a_B (fun p:Value×List Nat=>p.1.ownBlock.toList)) (List.take_append_drop os'.length E.om);rw[List.flatMap_append]at e;rw[← e];exact List.sublist_append_left _ _),fun x hx y hy=> ?_⟩
     refine this.2.2 x ?_ y ?_
     ·exact((w_ bs'.length E.bm).map _).subset hx
     ·obtain⟨p,hp,hpy⟩:=j_.1 hy;exact j_.2 ⟨p,List.mem_of_mem_take hp,hpy⟩
    lin:=by
     refine h.lin.map (fun k=>k) (fun j k e _ _=>e) fun k o p g1 g2 g3=>o_ ⟨o, ?_, ?_,g3⟩
     ·simp only;rw[g_ (b_.1 g1).1];exact g1
     ·simp only[Env.cut]at g2;rwa[d_,if_pos (b_.1 g1).1]at g2
    unf:=by
     refine h.unf.map (fun k=>k) fun k o p g1 g2 g3=>o_ ⟨o, ?_, ?_,g3⟩
     ·simp only;rw[g_ (b_.1 g1).1];exact g1
     ·simp only[Env.cut]at g2;rwa[d_,if_pos (b_.1 g1).1]at g2
    below:=h.below
    base:=h.base}
theorem Hl{P:Program}{Q:Exit→Act→World→Prop}{a:Act}{w:World}{c:Code}(I:Nat→Act→World→Prop)(n:Nat)(h₀:I n a w)
 (round:∀n a w,I n a w→c.wp P (Exit.then (fun a' w'=>∃m,m<n∧I m a' w') Q) a w):(Code.loop c).wp P Q a w:=by
 intro b k cs;have key:∀n a w,I n a w→∃e a' w',Q e a' w'∧Arrives P (lone (b.at a (.code c:: .inLoop c::k)) cs w) b k cs e a' w':=by
  intro n
  induction n using Nat.strongRecOn with
  | _ n ih=>
    intro a w hI;obtain⟨e,a₁,w₁,hq,harr⟩:=round n a w hI b (.inLoop c::k) cs;cases e with
    | normal=>
      obtain⟨m,hlt,hI₁⟩:=hq;obtain⟨e₂,a₂,w₂,hq₂,harr₂⟩:=ih m hlt a₁ w₁ hI₁;exact⟨e₂,a₂,w₂,hq₂,.of_steps (Steps.trans harr (.one step_inLoop)) harr₂⟩
    |exit id=>exact⟨_,a₁,w₁,hq,.pass (x:= .inLoop c) rfl (fun _ _=> .inl (by simp)) harr⟩
    |goto l=>exact⟨_,a₁,w₁,hq,.pass (x:= .inLoop c) rfl (fun _ _=> .inl (by simp)) harr⟩
    |ret=>exact⟨_,a₁,w₁,hq,.pass (x:= .inLoop c) rfl (fun _ _=> .inl (by simp)) harr⟩
    |panic ch=>exact⟨_,a₁,w₁,hq,.pass (x:= .inLoop c) rfl (fun _ _=> .inl (by simp)) harr⟩
    |outgrown=>exact⟨_,a₁,w₁,hq,.pass (x:= .inLoop c) rfl (fun _ _=> .inl (by simp)) harr⟩
 obtain⟨e,a',w',hq,harr⟩:=key n a w h₀;exact⟨e,a',w',hq,.of_steps (.one step_loop) harr⟩
def yI{X:Type}(F:X→St)(inv:X→Prop)(μ:X→Nat)(x:X)(Q:Exit→St→Prop):Exit→St→Prop
 | .normal,st=>∃x',XI st (F x')∧inv x'∧μ x'<μ x
 |e,st=>Q e st
theorem IU{X:Type}{c:IC}(F:X→St)(inv:X→Prop)(μ:X→Nat)(x0:X)(h0:inv x0)(hlo:∀x,lo.1≤(F x).owns.length∧lo.2≤(F x).boxes.length)(hle:XI st (F x0))(round:∀x,inv x→iT lo P c (yI F inv μ x Q) (F x)):iT lo P (.loop c) Q st:=fun code hc B Xs G w0 hG E a w hR=>by
 cases code with
 | loop cc=>
   simp only[ak]at hc;obtain⟨c',hcc,he⟩:=i_.1 hc;simp only[IC.loop.injEq]at he;subst he;obtain⟨E',hR'⟩:=hR.weak hle (p_ hG.1 (hlo _).1) (p_ hG.2 (hlo _).2);refine Hl (fun n a w=>∃x E,μ x=n∧inv x∧Rel B Xs G w0 (F x) E a w) (μ x0) ⟨x0,E',rfl,h0,hR'⟩ ?_;rintro n a w ⟨x,E,rfl,hx,hR⟩;refine wp_mono (round x hx cc hcc B Xs G w0 hG E a w hR) ?_;rintro e a' w' ⟨st',E',h1,h2⟩;cases e with
   | normal=>
     obtain⟨x',h3,h4,h5⟩:=h2;obtain⟨E'',h6⟩:=h1.weak h3 (p_ hG.1 (hlo _).1) (p_ hG.2 (hlo _).2);exact⟨μ x',h5,x',E'',rfl,h4,h6⟩
   |_=>exact⟨st',E',h1,h2⟩
 |region id cops b=>exact(oh hc (by simp) (by simp)).elim
 |block id x=>simp[ak]at hc
 |cond c x y=>simp only[ak]at hc;split at hc<;>simp at hc
 |seq x y=>simp only[ak]at hc;split at hc<;>simp at hc
 |ret=>simp[ak]at hc
 |exit id=>simp[ak]at hc
 |skip=>simp[ak]at hc
 |label l=>simp[ak]at hc
 |rangeFunc=>simp[ak]at hc
 |scope=>simp[ak]at hc
 |goto=>simp[ak]at hc
 |refuse=>simp[ak]at hc
theorem XD{X:Type}{c:IC}(F:X→St)(inv:X→Prop)(μ:X→Nat)(x0:X)(h0:inv x0)(hle:XI st (F x0))(round:∀x,inv x→AWP P c (yI F inv μ x Q) (F x)):AWP P (.loop c) Q st:=
 IU F inv μ x0 h0 (fun _=>⟨t_ _,t_ _⟩) hle round
end
def stN(b:Bool)(n:Nat)(ds:List D):St:=⟨ds.map (D.avN b)++B_ (n - ds.length) (.c false [.raw undef]),[],[]⟩
def st0(n:Nat)(ds:List D):St:=⟨ds.map D.av++B_ (n - ds.length) (.c false [.raw undef]),[],[]⟩
theorem aai{w:World}{F:List Nat}{d:D}{v:Value}{H:Nat}{b:Bool}(h:RdF w F d v):(D.avN b d).ok ⟨H,[],[],if b then F else []⟩ [] w v:=by
 unfold RdF at h;show Gok _ _ _ d.isAgg (d.acs b) v;unfold Gok;have hn:∀x∈F,b=true→(⟨H,[],[],if b then F else []⟩:Env).nw x:=fun x hx e=>by subst e;exact o_ hx
 cases hg:d.isAgg with
 | true=>
   rw[hg,if_pos rfl]at h;obtain⟨fp,cs,h1,h2,h3⟩:=h;rw[if_pos rfl];exact⟨cs,h1,ql h2 (fun x hx=>⟨by simp[Env.M],hn x (h3 x hx)⟩)⟩
 | false=>
   rw[hg,if_neg (by simp)]at h;obtain⟨fp,h2,h3⟩:=h;rw[if_neg (by simp)];exact ql h2 (fun x hx=>⟨by simp[Env.M],hn x (h3 x hx)⟩)
theorem D6{w:World}{F:List Nat}:∀{ds:List D} {vs:List Value},Bc w F ds vs→ds.length=vs.length∧∀(t:Nat) (d:D),ds[t]? =some d→∃v,vs[t]? =some v∧RdF w F d v
 | [],[],_=>⟨rfl,fun t d h=>by simp at h⟩
 | d::ds,v::vs,h=>by
   obtain⟨h1,h2⟩:=D6 h.2;refine⟨by simp[h1],fun t x hx=> ?_⟩;cases t with
   |zero=>simp at hx;subst hx;exact⟨v,rfl,h.1⟩
   |succ t=>simpa using h2 t x (by simpa using hx)
 | [],_::_,h=>h.elim
 |_::_,[],h=>h.elim
theorem Zl{w:World}{d:D}{v:Value}(h:Rd w d v):∃F,RdF w F d v:=by
 unfold Rd at h;unfold RdF;split at h
 ·obtain⟨fp,cs,h1,h2⟩:=h;exact⟨fp,by rw[if_pos ‹_›];exact⟨fp,cs,h1,h2,fun b hb=>hb⟩⟩
 ·obtain⟨fp,h2⟩:=h;exact⟨fp,by rw[if_neg ‹_›];exact⟨fp,h2,fun b hb=>hb⟩⟩
theorem Lj{w:World}:∀{ds:List D} {vs:List Value},Rds w ds vs→∃F,Bc w F ds vs
 | [],[],_=>⟨[],trivial⟩
 | d::ds,v::vs,h=>by
   obtain⟨F1,h1⟩:=Zl h.1;obtain⟨F2,h2⟩:=Lj h.2;exact⟨F1++F2,h1.mono (fun b hb=>y_ _ hb),h2.mono (fun b hb=>x_ _ hb)⟩
 | [],_::_,h=>h.elim
 |_::_,[],h=>h.elim
theorem SN{w:World}{F:List Nat}{ds:List D}{vs:List Value}(b:Bool)(h:Bc w F ds vs)(ht:nJ w)(n:Nat):Rel w.heap.size (if b then F else []) ⟨⟨w.heap.size,[],[],if b then F else []⟩,[],w⟩ w (stN b n ds) ⟨w.heap.size,[],[],if b then F else []⟩ {tmps:=vs.toArray++Array.replicate (n - vs.toArray.size) undef,defers:= []} w where
 eb:=l_ _
 ex:=rfl
 sim:=Sim.refl _ _ _
 defers:=rfl
 size:=by
  obtain⟨hl,_⟩:=D6 h;simp[stN,hl]
 fr :=by
  obtain⟨hl,hg⟩:=D6 h;intro t x hx;simp only[stN]at hx;rw[Y_]at hx;simp only[Array.getD_eq_getD_getElem?];split at hx
  ·next ht=>
   rw[D_]at hx;obtain⟨d,hd,rfl⟩:=i_.1 hx;obtain⟨v,hv,hr⟩:=hg t d hd;rw[Array.getElem?_append_left (by simp at ht⊢;omega)];simp only[V_,hv,m_];exact aai hr
  ·next ht=>
   rw[O_]at hx;split at hx
   ·next hlt=>
    injection hx with hx
    subst hx;simp only[H_]at ht hlt;rw[Array.getElem?_append_right (by simp;omega),Array.getElem?_replicate];simp only[a_k,← hl];rw[if_pos hlt];exact⟨rfl,trivial⟩
   ·cases hx
 olen:=rfl
 own:=fun k o p h1 h2=>by simp[stN]at h1
 blen:=rfl
 box:=fun k xs p h1 h2=>by simp[stN]at h1
 nodup:=by simp[Env.M]
 lin:=Lin.nil
 unf:=Unf.nil
 below:=BelowT.start ht
 base:=l_ _
def yJ(Fin:St→Prop):Exit→St→Prop
 | .normal,st=>Fin st
 | .ret,st=>Fin st
 |_,_=>False
theorem Ph{P:Program}{f:Nat}{fn:Func}{code:Code}{ic:IC}{ds:List D}{Fin:St→Prop}{post:List Nat→World→Ending→World→Prop}(b:Bool)(hf:P.funcs[f]? =some fn)(hb:fn.body=some code)(hc:ak P code=some ic)
 (h:AWP P ic (yJ Fin) (stN b fn.ntmps ds))
 (hfin:∀(F:List Nat) (G:Org) (w w':World) (st:St) (E:Env) (a:Act),Rel w.heap.size (if b then F else []) G w st E a w'→Fin st→∃v,(results fn a.tmps).run P w'= .ok v w'∧post F w (.returned v) w'):
 ∀(w:World) (F:List Nat) (vs:List Value),Bc w F ds vs→nJ w→Calls P f vs.toArray w (post F w):=by
 intro w F vs hr ht;refine calls_of_wp hf hb ?_;have:=h code hc w.heap.size _ _ w ⟨l_ _,l_ _⟩ _ _ w (SN b hr ht fn.ntmps);refine wp_mono this ?_;rintro e a' w' ⟨st',E',h1,h2⟩;cases e with
 | normal=>
   obtain⟨v,h3,h4⟩:=hfin F _ w w' st' E' a' h1 h2;exact⟨h1.defers,v,h3,h4⟩
 | ret=>
   obtain⟨v,h3,h4⟩:=hfin F _ w w' st' E' a' h1 h2;exact⟨h1.defers,v,h3,h4⟩
 |_=>exact h2.elim
theorem nG{P:Program}{f:Nat}{fn:Func}{code:Code}{ic:IC}{ds:List D}{Fin:St→Prop}{post:World→Ending→World→Prop}(hf:P.funcs[f]? =some fn)(hb:fn.body=some code)(hc:ak P code=some ic)
 (h:AWP P ic (yJ Fin) (st0 fn.ntmps ds))
 (hfin:∀(G:Org) (w w':World) (st:St) (E:Env) (a:Act),Rel w.heap.size [] G w st E a w'→Fin st→∃v,(results fn a.tmps).run P w'= .ok v w'∧post w (.returned v) w'):
 ∀(w:World) (vs:List Value),Rds w ds vs→nJ w→Calls P f vs.toArray w (post w):=by
 intro w vs hr ht;obtain⟨F,hF⟩:=Lj hr;exact Ph (post:=fun _=>post) false hf hb hc h (fun F G w w' st E a hR=>hfin G w w' st E a hR) w F vs hF ht
def lC(l:List D):Prop:=∀(w:World) (f:List Nat) (cs:List Value),Rs w l f cs→f= []
def bM(os:List Own):AC→AC→Prop
 |_,.any=>True
 | .raw v,.raw u=>v=u
 | .sl n l,.sl _ l'=>n=true∧l=l'
 | .own k i,.sl _ l=>∃o,os[k]? =some o∧o.ver=i∧o.l=l∧(o.nw.n=true∨lC l)
 | .raw v,.sl _ l=>v= .slice none 0 0∧l= []
 |_,_=>False
def aS(os:List Own):List AC→List AC→Prop
 | [],[]=>True
 |x::xs,y::ys=>bM os x y∧aS os xs ys
 |_,_=>False
section
variable{B:Nat}{Xs:List Nat}{G:Org}{w0:World}{st:St}{E E':Env}{a:Act}{w:World}
def F5(B:Nat)(Xs:List Nat)(E':Env):Prop:=∀b,(B≤b∨b∈Xs)→b∉E'.M∧E'.nw b
theorem Dk(B:Nat):F5 B [] (jA B):=fun b hb=>by
 have:B≤b:=by simpa using hb
 exact⟨mO.2 this,r_ this⟩
theorem Ap(h:Rel B Xs G w0 st E a w){b:Nat}(hb:E.nw b):B≤b∨b∈Xs:=by
 unfold Env.nw at hb;rw[h.ex]at hb;exact hb.imp_left (p_ h.eb)
theorem Uf(h:Rel B Xs G w0 st E a w)(hE:F5 B Xs E'){x y:AC}{v:Value}(hf:bM st.owns x y)(hx:x.ok E st.owns w v):y.ok E' [] w v:=by
 cases y with
 |any=>trivial
 | raw u=>cases x with
   |raw v'=>obtain rfl:=hf;exact hx
   |_=>exact hf.elim
 | sl n l=>cases x with
   | sl n' l'=>
     obtain⟨rfl,rfl⟩:=hf;obtain⟨fp,h1,h2⟩:=hx;refine⟨fp,h1,fun b hb=> ?_⟩;have hB:=hE b (Ap h ((h2 b hb).2 rfl));exact⟨hB.1,fun _=>hB.2⟩
   | own k i=>
     obtain⟨o,h1,h2,rfl,h3⟩:=hf;obtain⟨_,o',p,g1,g2,g3,g4⟩:=hx;rw[h1]at g1;injection g1 with g1
     subst g1;obtain rfl:=g4 h2;obtain⟨cs,h5,h6,h7,h8⟩:=h.own k o p h1 g2;refine⟨_,Sl.oJ h5 h6,fun b hb=> ?_⟩;have hB:E.nw b:=by
      rcases s_.1 hb with hb|hb
      ·exact h.xu (aK.lt h5 b (by simpa using hb)).1
      ·rcases h3 with h3|h3
       ·exact(h8 b hb).2 h3
       ·rw[h3 _ _ _ h6]at hb;simp at hb
     have hB:=hE b (Ap h hB);exact⟨hB.1,fun _=>hB.2⟩
   | raw v'=>
     obtain⟨rfl,rfl⟩:=hf;obtain rfl:=hx;refine⟨[], ?_,fun b hb=>by simp at hb⟩;unfold Sl;rw[R];exact⟨none,0,rfl,l_ _,t_ _,r_ ⟨rfl,rfl⟩⟩
   |any=>exact hf.elim
   |osub _ _ _ _=>exact hf.elim
   |cl _ _=>exact hf.elim
 |own k i=>cases x<;>exact hf.elim
 |osub k i pa pb=>cases x<;>exact hf.elim
 |cl f caps=>cases x<;>exact hf.elim
theorem tN(h:Rel B Xs G w0 st E a w)(hE:F5 B Xs E'):∀{xs ys:List AC} {vs:List Value},aS st.owns xs ys→Oks E st.owns w xs vs→Oks E' [] w ys vs
 | [],[],[],_,_=>trivial
 |x::xs,y::ys,v::vs,hf,hx=>⟨Uf h hE hf.1 hx.1,tN h hE hf.2 hx.2⟩
 | [],[],_::_,_,hx=>hx.elim
 |_::_,_::_,[],_,hx=>hx.elim
 | [],_::_,_,hf,_=>hf.elim
 |_::_,[],_,hf,_=>hf.elim
theorem Nk(h:Rel B Xs G w0 st E a w)(hE:F5 B Xs E'){g:Bool}{xs ys:List AC}{v:Value}(hf:aS st.owns xs ys)(hx:Gok E st.owns w g xs v):Gok E' [] w g ys v:=by
 cases g with
 |true=>obtain⟨vs,h1,h2⟩:=hx;exact⟨vs,h1,tN h hE hf h2⟩
 |false=>exact tN h hE hf (show Oks _ _ _ xs [v] from hx)
end
theorem BZ{os:List Own}:∀{xs ys:List AC},aS os xs ys→xs.length=ys.length
 | [],[],_=>rfl
 |_::xs,_::ys,h=>by rw[v_,v_,BZ h.2]
 | [],_::_,h=>h.elim
 |_::_,[],h=>h.elim
def aam(t:Nat)(g:Bool)(ys:List AC)(st:St):Prop:=∃xs,st.fr.getD t .any= .c g xs∧aS st.owns xs ys
def aap(t:Nat)(ys:List AC)(st:St):Prop:=∃k xs,st.fr.getD t .any= .bptr k 0∧st.boxes[k]? =some xs∧aS st.owns xs ys
def ZN(r:ResultVar)(g:Bool)(ys:List AC)(st:St):Prop:=match r with
 | .tmp t=>aam t g ys st
 | .cell t _=>aap t ys st
def yN(P:Program)(ty:TypeId)(n:Nat):Bool:=match P.info? ty,P.underlying ty with
 |some i,some d=>i.size==n && ny d
 |_,_=>false
def nS(P:Program)(r:ResultVar)(g:Bool)(n:Nat):Bool:=match r with
 | .tmp _=>true
 | .cell _ ty=>g && yN P ty n
def jE(r:ResultVar)(tmps:Array Value):Sem Value:=match r with
 | .tmp t=>pure (tmps.getD t undef)
 | .cell a t=>do loadVar t (← asAddr (tmps.getD a undef))
section
variable{P:Program}{f:Nat}{fn:Func}{code:Code}{ic:IC}{ds:List D}
theorem pY{B:Nat}{Xs:List Nat}{G:Org}{w0:World}{st:St}{E:Env}{a:Act}{w:World}(h:Rel B Xs G w0 st E a w){t:Nat}{x:AV}(hx:st.fr.getD t .any=x):x.ok E st.owns w (a.tmps.getD t undef):=by
 have:=dK h (.tmp t);simp only[opd,St.ev,Act.eval]at this;rwa[hx]at this
theorem JZ{B:Nat}{Xs:List Nat}{G:Org}{w0:World}{st:St}{E E':Env}{a:Act}{w:World}(h:Rel B Xs G w0 st E a w)(hE:F5 B Xs E'){r:ResultVar}{g:Bool}{ys:List AC}(hp:nS P r g ys.length=true)(hf:ZN r g ys st):
 ∃v,(jE r a.tmps).run P w= .ok v w∧Gok E' [] w g ys v:=by
 cases r with
 | tmp t=>
   obtain⟨xs,h1,h2⟩:=hf;exact⟨_,rfl,Nk h hE h2 (pY h h1)⟩
 | cell t ty=>
   obtain⟨k,xs,h1,h2,h3⟩:=hf;simp only[nS,e_,yN]at hp;obtain⟨rfl,hp⟩:=hp;split at hp
   ·next i d hi hd=>
    simp only[e_,beq_iff_eq]at hp;obtain⟨p,g1,g2⟩:=pY h h1;obtain⟨_,vs,h4,h5⟩:=h.box k xs p h2 g1;have hlen:vs.length=i.size:=by rw[← h5.len,BZ h3,hp.1]
    refine⟨.agg vs.toArray, ?_,vs,rfl,tN h hE h3 h5⟩;simp only[jE];rw[g2];have:=run_loadVar_row (P:=P) w p.1 p.2 ty vs.toArray (0,0) d h4 hd (by have:=hp.2;cases d<;>simp_all [ny]) (by rw[hi];simp[hlen]);simp[asAddr,this]
   ·cases hp
theorem BA{r:ResultVar}(hr:fn.results= #[r])(tmps:Array Value){w:World}{v:Value}(h:(jE r tmps).run P w= .ok v w):(results fn tmps).run P w= .ok v w:=by
 cases r with
 |tmp t=>simp[jE]at h;simp[results,hr,h]
 |cell t ty=>simp[jE]at h;simp[results,hr,h]
theorem Bz{r q:ResultVar}(hr:fn.results= #[r,q])(tmps:Array Value){w:World}{v u:Value}(h:(jE r tmps).run P w= .ok v w)(h2:(jE q tmps).run P w= .ok u w):(results fn tmps).run P w= .ok (.tuple #[v,u]) w:=by
 have e:(results fn tmps).run P w=(jE r tmps >>=fun v=>jE q tmps >>=fun u=>pure (.tuple #[v,u]):Sem Value).run P w:=by
  have a1:∀(x:Result Addr) (f:Addr→World→Result Value) (g:Value→World→Result Value),(x.andThen f).andThen g=x.andThen fun a w=>(f a w).andThen g:=by
   intro x f g;cases x<;>rfl
  cases r<;>cases q<;>simp[results,hr,jE,a1]
 rw[e];simp[h,h2]
theorem kQ{t:Nat}{g:Bool}{ys:List AC}(hf:P.funcs[f]? =some fn:=by kernel_rfl)(hb:fn.body=some code:=by kernel_rfl)(hr:fn.results= #[.tmp t]:=by kernel_rfl)(hc:ak P code=some ic)
 (h:AWP P ic (yJ (aam t g ys)) (st0 fn.ntmps ds)):aB P f ds (.c g ys):=by
 refine nG (post:=fun w e w'=>zW (.c g ys) w e w') hf hb hc h ?_;rintro G w w' st E a hR ⟨xs,h1,h2⟩;refine⟨_,results_tmp hr a.tmps P w',_,rfl,Nk hR (Dk _) h2 (pY hR h1),hR.below.out⟩
theorem iU{t:Nat}{ty:TypeId}{ys:List AC}(hf:P.funcs[f]? =some fn:=by kernel_rfl)(hb:fn.body=some code:=by kernel_rfl)(hr:fn.results= #[.cell t ty]:=by kernel_rfl)(hp:yN P ty ys.length=true:=by kernel_rfl)(hc:ak P code=some ic)
 (h:AWP P ic (yJ (aap t ys)) (st0 fn.ntmps ds)):aB P f ds (.c true ys):=by
 refine nG (post:=fun w e w'=>zW (.c true ys) w e w') hf hb hc h ?_;rintro G w w' st E a hR hF;obtain⟨v,h1,h2⟩:=JZ (P:=P) (r:= .cell t ty) (g:=true) hR (Dk _) (by simp[nS,hp]) hF;exact⟨v,BA hr _ h1,v,rfl,h2,hR.below.out⟩
theorem eH{r q:ResultVar}{g g':Bool}{ys zs:List AC}(hf:P.funcs[f]? =some fn:=by kernel_rfl)(hb:fn.body=some code:=by kernel_rfl)(hr:fn.results= #[r,q]:=by kernel_rfl)(hp:(nS P r g ys.length && nS P q g' zs.length)=true:=by kernel_rfl)(hc:ak P code=some ic)
 (h:AWP P ic (yJ (fun st=>ZN r g ys st∧ZN q g' zs st)) (st0 fn.ntmps ds)):aB P f ds (.tup [(g,ys),(g',zs)]):=by
 refine nG (post:=fun w e w'=>zW (.tup [(g,ys),(g',zs)]) w e w') hf hb hc h ?_;rintro G w w' st E a hR ⟨h1,h2⟩;simp only[Bool.and_eq_true]at hp;obtain⟨v,h3,h4⟩:=JZ hR (Dk _) hp.1 h1;obtain⟨u,h5,h6⟩:=JZ hR (Dk _) hp.2 h2;exact⟨_,Bz hr _ h3 h5,_,rfl,⟨[v,u],rfl,h4,h6,trivial⟩,hR.below.out⟩
def aal(k i:Nat)(l:List D)(e s:Nat)(st:St):Prop:=∃o,st.owns[k]? =some o∧o.ver=i∧o.l=l∧o.e=e∧o.s=s∧(o.nw.n=true∨lC l)
def aao(t:Nat)(l:List D)(e s:Nat)(st:St):Prop:=∃k i o,st.fr.getD t .any= .c false [.own k i]∧st.owns[k]? =some o∧o.ver=i∧o.l=l∧o.e=e∧o.s=s∧(o.nw.n=true∨lC l)
theorem LH{G:Org}{w w':World}{st:St}{E:Env}{a:Act}(hR:Rel w.heap.size [] G w st E a w'){k i:Nat}{l:List D}{e s:Nat}{v:Value}(hv:(AC.own k i).ok E st.owns w' v)(h:aal k i l e s st):
 ∃cs f,aK w' w.heap.size e s v l.length cs∧Rs w' l f cs∧∀b∈f,some b≠v.ownBlock∧w.heap.size≤b:=by
 obtain⟨o,h2,h3,rfl,rfl,rfl,h4⟩:=h;obtain⟨_,o',p,g1,g2,g3,g4⟩:=hv;rw[h2]at g1;injection g1 with g1
 subst g1;obtain⟨cs,h5,h6,h7,h8⟩:=hR.own k o p h2 g2;rw[g4 h3];refine⟨cs,p.2,lV h5 hR.eb,h6,fun b hb=>⟨fun e=> ?_, ?_⟩⟩
 ·exact(h8 b hb).1 (jr.2 (o_ ⟨k,p,g2,e.symm⟩))
 ·rcases h4 with h4|h4
  ·simpa using Ap hR ((h8 b hb).2 h4)
  ·rw[h4 _ _ _ h6]at hb;simp at hb
theorem jH{t:Nat}{l:List D}{e s:Nat}(hf:P.funcs[f]? =some fn:=by kernel_rfl)(hb:fn.body=some code:=by kernel_rfl)(hr:fn.results= #[.tmp t]:=by kernel_rfl)(hc:ak P code=some ic)
 (h:AWP P ic (yJ (aao t l e s)) (st0 fn.ntmps ds)):dU P f ds l e s:=by
 refine nG (post:=fun w e' w'=>qI false l e s w e' w') hf hb hc h ?_;rintro G w w' st E a hR ⟨k,i,o,h1,h2⟩;obtain⟨hv,_⟩:=pY hR h1;obtain⟨cs,f',h3,h4,h5⟩:=LH hR hv ⟨o,h2⟩;exact⟨_,results_tmp hr a.tmps P w',_,cs,f',rfl,h3,h4,h5,hR.below.out⟩
def qJ(os:List Own)(pk:List Nat):AC→AC→Prop
 |_,.any=>True
 | .raw v,.raw u=>v=u
 | .sl n l,.sl m l'=>n=true∧m=true∧l=l'
 | .own k i,.sl m l=>m=true∧k∉pk∧∃o,os[k]? =some o∧o.ver=i∧o.l=l∧(o.nw.n=true∨lC l)
 | .own k i,.own j z=>pk[j]? =some k∧z=0∧∃o,os[k]? =some o∧o.ver=i
 |_,_=>False
def kE(os:List Own)(pk:List Nat):List AC→List AC→Prop
 | [],[]=>True
 |x::xs,y::ys=>qJ os pk x y∧kE os pk xs ys
 |_,_=>False
def Cc(o o':Own):Prop:=match o'.nw.lin with
 |false=>o.nw.n=true∨lC o.l
 |true=>(o.nw.n=true∧o.nw.lin=true)∨lC o.l
def qR(os:List Own):List Nat→List Own→Prop
 | [],[]=>True
 |k::pk,o'::os'=>(∃o,os[k]? =some o∧o'=⟨o.l,o.e,o.s,0,⟨true,o'.nw.lin⟩⟩∧Cc o o')∧qR os pk os'
 |_,_=>False
def RP(pk:List Nat)(r:ResultVar)(g:Bool)(ys:List AC)(st:St):Prop:=match r with
 | .tmp t=>∃xs,st.fr.getD t .any= .c g xs∧kE st.owns pk xs ys
 | .cell t _=>∃k xs,st.fr.getD t .any= .bptr k 0∧st.boxes[k]? =some xs∧kE st.owns pk xs ys
theorem zF{os:List Own}{pk:List Nat}:∀{xs ys:List AC},kE os pk xs ys→xs.length=ys.length
 | [],[],_=>rfl
 |_::xs,_::ys,h=>by rw[v_,v_,zF h.2]
 | [],_::_,h=>h.elim
 |_::_,[],h=>h.elim
theorem Cc.weak{o o':Own}(h:Cc o o'):o.nw.n=true∨lC o.l:=by
 unfold Cc at h;split at h
 ·exact h
 ·exact h.imp And.left id
theorem Cc.lin{o o':Own}(h:Cc o o')(e:o'.nw.lin=true):o.nw.lin=true∨lC o.l:=by
 unfold Cc at h;rw[e]at h;exact h.imp And.right id
theorem yX{os:List Own}:∀{pk:List Nat} {os':List Own},qR os pk os'→pk.length=os'.length∧∀(j k:Nat) (o':Own),pk[j]? =some k→os'[j]? =some o'→∃o,os[k]? =some o∧o'=⟨o.l,o.e,o.s,0,⟨true,o'.nw.lin⟩⟩∧Cc o o'
 | [],[],_=>⟨rfl,fun j k o' h=>by simp at h⟩
 | k::pk,o'::os',h=>by
   obtain⟨h1,h2⟩:=yX h.2;refine⟨by simp[h1],fun j k' o'' g1 g2=> ?_⟩;cases j with
   |zero=>simp at g1 g2;subst g1 g2;exact h.1
   |succ j=>exact h2 j k' o'' (by simpa using g1) (by simpa using g2)
 | [],_::_,h=>h.elim
 |_::_,[],h=>h.elim
section
variable{B:Nat}{G:Org}{w0:World}{st:St}{E:Env}{a:Act}{w:World}{pk:List Nat}{os':List Own}
def xU(E:Env)(pk:List Nat):List (Value×List Nat):=pk.map fun k=>E.om.getD k (undef,[])
theorem D8{j k:Nat}(h:pk[j]? =some k):(xU E pk)[j]? =some (E.om.getD k (undef,[])):=by simp[xU,h]
theorem D7(h:Rel B [] G w0 st E a w)(ho:qR st.owns pk os'){b:Nat}(hb:b∈(xU E pk).flatMap fun q=>q.1.ownBlock.toList):∃k∈pk,∃p,E.om[k]? =some p∧p.1.ownBlock=some b:=by
 obtain⟨q,hq,hqb⟩:=j_.1 hb;obtain⟨k,hk,rfl⟩:=h_.1 hq;obtain⟨j,hj⟩:=W_.1 hk;obtain⟨h1,h2⟩:=yX ho;have hj':j<os'.length:=by rw[← h1];exact(b_.1 hj).1
 obtain⟨o,g1,_⟩:=h2 j k _ hj (a_ hj');have hke:k<E.om.length:=by rw[h.olen];exact(b_.1 g1).1
 exact⟨k,hk,E.om[k],a_ hke,by rw[c_,a_ hke]at hqb;simpa using hqb⟩
theorem FD(h:Rel B [] G w0 st E a w){i j:Nat}{p q:Value×List Nat}{b:Nat}(hi:E.om[i]? =some p)(hj:E.om[j]? =some q)(hp:p.1.ownBlock=some b)(hq:q.1.ownBlock=some b):i=j:=by
 have hn:=h.nodup;unfold Env.M at hn;rw[q_]at hn;have : ∀(L:List (Value×List Nat)) (i j:Nat) (p q:Value×List Nat),(L.flatMap (fun p=>p.1.ownBlock.toList)).Nodup→L[i]? =some p→L[j]? =some q→p.1.ownBlock=some b→q.1.ownBlock=some b→i=j:=by
  intro L
  induction L with
  |nil=>intro i j p q _ hi;simp at hi
  | cons z L ih=>
    intro i j p q hn hi hj hpb hqb;rw[E_,q_]at hn;cases i with
    | zero=>
      cases j with
      |zero=>rfl
      | succ j=>
        simp at hi hj;subst hi;exact absurd rfl (hn.2.2 b (by simp[hpb]) b (j_.2 ⟨q,f_ hj,by simp[hqb]⟩))
    | succ i=>
      cases j with
      | zero=>
        simp at hi hj;subst hj;exact absurd rfl (hn.2.2 b (by simp[hqb]) b (j_.2 ⟨p,f_ hi,by simp[hpb]⟩))
      | succ j=>
        simp at hi hj;rw[ih i j p q hn.2.1 hi hj hpb hqb]
 exact this E.om i j p q hn.2.1 hi hj hp hq
theorem Hz(h:Rel B [] G w0 st E a w)(ho:qR st.owns pk os')(hnd:pk.Nodup):qQ B w (xU E pk) os':=by
 obtain⟨h1,h2⟩:=yX ho;refine⟨by simp[xU,h1],fun j o' p g1 g2=> ?_, ?_⟩
 ·have hj:j<pk.length:=by rw[h1];exact(b_.1 g1).1
  have hk:=a_ hj;obtain⟨o,g3,g4e,g4o⟩:=h2 j _ o' hk g1;have g4:=g4o.weak;rw[g4e];have hke:pk[j]<E.om.length:=by rw[h.olen];exact(b_.1 g3).1
  rw[D8 hk,c_,a_ hke]at g2;simp only[m_,C_]at g2;subst g2;obtain⟨cs,h5,h6,h7,h8⟩:=h.own _ o _ g3 (a_ hke);refine⟨cs,lV h5 h.eb,h6,h7,fun b hb=>⟨?_,fun hm=> ?_⟩⟩
  ·rcases g4 with g4|g4
   ·simpa using Ap h ((h8 b hb).2 g4)
   ·rw[g4 _ _ _ h6]at hb;simp at hb
  ·obtain⟨k,_,p,g5,g6⟩:=D7 h ho hm;exact(h8 b hb).1 (jr.2 (o_ ⟨k,p,g5,g6⟩))
 ·have hpk:∀(j:Nat) (o':Own) (p:Value×List Nat),os'[j]? =some o'→(xU E pk)[j]? =some p→o'.nw.lin=true→p.2= []∨∃o,st.owns[pk.getD j 0]? =some o∧E.om[pk.getD j 0]? =some p∧o.nw.lin=true:=by
   intro j o' p g1 g2 g3;have hj:j<pk.length:=by rw[h1];exact(b_.1 g1).1
   have hk:=a_ hj;obtain⟨o,q1,q2,q3⟩:=h2 j _ o' hk g1;have hke:pk[j]<E.om.length:=by rw[h.olen];exact(b_.1 q1).1
   rw[D8 hk,c_,a_ hke]at g2;simp only[m_,C_]at g2;subst g2;rcases q3.lin g3 with e|e
   ·refine o_ ⟨o, ?_, ?_,e⟩
    ·rw[c_,hk];exact q1
    ·rw[c_,hk];exact a_ hke
   ·obtain⟨cs,_,h6,_⟩:=h.own _ o _ q1 (a_ hke);exact r_ (e _ _ _ h6)
  refine⟨?_, ?_, ?_⟩
  rotate_left
  ·refine h.lin.map (fun j=>pk.getD j 0) (fun i j hij hi hj e=>hij ?_) hpk;have hi':i<pk.length:=by omega
   have hj':j<pk.length:=by omega
   simp only[c_,a_ hi',a_ hj',m_]at e;exact(a_n hnd).1 e
  ·exact h.unf.map (fun j=>pk.getD j 0) hpk
  have :∀(pk:List Nat) (os':List Own),qR st.owns pk os'→pk.Nodup→((xU E pk).flatMap fun q=>q.1.ownBlock.toList).Nodup:=by
   intro pk
   induction pk with
   |nil=>intro os' _ _;exact J_
   | cons k pk ih=>
     intro os' ho hnd
     match os',ho with
     | o'::os',ho=>
       rw[a_p]at hnd;obtain⟨o,g1,_⟩:=ho.1;have hke:k<E.om.length:=by rw[h.olen];exact(b_.1 g1).1
       show(a_B _ (E.om.getD k (undef,[])::xU E pk)).Nodup;rw[E_,q_];refine⟨by cases(E.om.getD k (undef,[])).1.ownBlock<;>simp,ih os' ho.2 hnd.2,fun x hx y hy e=> ?_⟩;subst e;obtain⟨k',hk',p,g5,g6⟩:=D7 h ho.2 hy;rw[c_,a_ hke]at hx;exact hnd.1 (FD h (a_ hke) g5 (by simpa using hx) g6▸hk')
  exact this pk os' ho hnd
theorem PE(h:Rel B [] G w0 st E a w)(ho:qR st.owns pk os'){x y:AC}{v:Value}(hf:qJ st.owns pk x y)(hx:x.ok E st.owns w v):y.ok ⟨B,xU E pk,[],[]⟩ os' w v:=by
 have hnew:∀b,(B≤b)→(∀k∈pk,∀p,E.om[k]? =some p→p.1.ownBlock≠some b)→b∉(⟨B,xU E pk,[],[]⟩:Env).M∧(true=true→(⟨B,xU E pk,[],[]⟩:Env).nw b):=fun b hB hk=>⟨fun hm=>by
  simp only[Env.M,a_e,S_]at hm;obtain⟨k,hk1,p,g1,g2⟩:=D7 h ho hm;exact hk k hk1 p g1 g2,fun _=>r_ hB⟩
 cases y with
 |any=>trivial
 | raw u=>cases x with
   |raw v'=>obtain rfl:=hf;exact hx
   |_=>exact hf.elim
 | sl n l=>cases x with
   | sl n' l'=>
     obtain⟨rfl,rfl,rfl⟩:=hf;obtain⟨fp,h1,h2⟩:=hx;exact⟨fp,h1,fun b hb=>hnew b (by simpa using Ap h ((h2 b hb).2 rfl)) (fun k _ p g1 g2=>(h2 b hb).1 (jr.2 (o_ ⟨k,p,g1,g2⟩)))⟩
   | own k i=>
     obtain⟨rfl,hk,o,h1,h2,rfl,h3⟩:=hf;obtain⟨_,o',p,g1,g2,g3,g4⟩:=hx;rw[h1]at g1;injection g1 with g1
     subst g1;obtain rfl:=g4 h2;obtain⟨cs,h5,h6,h7,h8⟩:=h.own k o p h1 g2;refine⟨_,Sl.oJ h5 h6,fun b hb=> ?_⟩;rcases s_.1 hb with hb|hb
     ·have hb':p.1.ownBlock=some b:=by simpa using hb
      exact hnew b (p_ h.eb (aK.lt h5 b hb').1) (fun k' hk' p' g5 g6=>hk (FD h g2 g5 hb' g6▸hk'))
     ·refine hnew b ?_ (fun k' _ p' g5 g6=>(h8 b hb).1 (jr.2 (o_ ⟨k',p',g5,g6⟩)));rcases h3 with h3|h3
      ·simpa using Ap h ((h8 b hb).2 h3)
      ·rw[h3 _ _ _ h6]at hb;simp at hb
   |raw v'=>exact hf.elim
   |any=>exact hf.elim
   |osub _ _ _ _=>exact hf.elim
   |cl _ _=>exact hf.elim
 |osub _ _ _ _=>cases x<;>exact hf.elim
 | own j z=>cases x with
   | own k i=>
     obtain⟨hj,rfl,o,h1,h2⟩:=hf;obtain⟨hv,o',p,g1,g2,g3,g4⟩:=hx;rw[h1]at g1;injection g1 with g1
     subst g1;obtain⟨l1,l2⟩:=yX ho;have hj':j<os'.length:=by rw[← l1];exact(b_.1 hj).1
     obtain⟨o2,q1,q2,_⟩:=l2 j k _ hj (a_ hj');refine⟨hv,os'[j],p,a_ hj', ?_,t_ _,fun _=>g4 h2⟩;rw[D8 hj,c_,g2];rfl
   |_=>exact hf.elim
 |cl f caps=>cases x<;>exact hf.elim
theorem qG(h:Rel B [] G w0 st E a w)(ho:qR st.owns pk os'):∀{xs ys:List AC} {vs:List Value},kE st.owns pk xs ys→Oks E st.owns w xs vs→Oks ⟨B,xU E pk,[],[]⟩ os' w ys vs
 | [],[],[],_,_=>trivial
 |x::xs,y::ys,v::vs,hf,hx=>⟨PE h ho hf.1 hx.1,qG h ho hf.2 hx.2⟩
 | [],[],_::_,_,hx=>hx.elim
 |_::_,_::_,[],_,hx=>hx.elim
 | [],_::_,_,hf,_=>hf.elim
 |_::_,[],_,hf,_=>hf.elim
theorem Fb{P:Program}(h:Rel B [] G w0 st E a w)(ho:qR st.owns pk os'){r:ResultVar}{g:Bool}{ys:List AC}(hp:nS P r g ys.length=true)(hf:RP pk r g ys st):
 ∃v,(jE r a.tmps).run P w= .ok v w∧Gok ⟨B,xU E pk,[],[]⟩ os' w g ys v:=by
 cases r with
 | tmp t=>
   obtain⟨xs,h1,h2⟩:=hf;refine⟨_,rfl, ?_⟩;have hx:=pY h h1;cases g with
   |true=>obtain⟨vs,h3,h4⟩:=hx;exact⟨vs,h3,qG h ho h2 h4⟩
   |false=>exact qG h ho h2 (show Oks _ _ _ xs [_] from hx)
 | cell t ty=>
   obtain⟨k,xs,h1,h2,h3⟩:=hf;simp only[nS,e_,yN]at hp;obtain⟨rfl,hp⟩:=hp;split at hp
   ·next i d hi hd=>
    simp only[e_,beq_iff_eq]at hp;obtain⟨p,g1,g2⟩:=pY h h1;obtain⟨_,vs,h4,h5⟩:=h.box k xs p h2 g1;have hlen:vs.length=i.size:=by rw[← h5.len,zF h3,hp.1]
    refine⟨.agg vs.toArray, ?_,vs,rfl,qG h ho h3 h5⟩;simp only[jE];rw[g2];have:=run_loadVar_row (P:=P) w p.1 p.2 ty vs.toArray (0,0) d h4 hd (by have:=hp.2;cases d<;>simp_all [ny]) (by rw[hi];simp[hlen]);simp[asAddr,this]
   ·cases hp
end
theorem NR{r q:ResultVar}{g g':Bool}{ys zs:List AC}{os':List Own}(hf:P.funcs[f]? =some fn:=by kernel_rfl)(hb:fn.body=some code:=by kernel_rfl)(hr:fn.results= #[r,q]:=by kernel_rfl)(hp:(nS P r g ys.length && nS P q g' zs.length)=true:=by kernel_rfl)(hc:ak P code=some ic)
 (h:AWP P ic (yJ (fun st=>∃pk:List Nat,pk.Nodup∧qR st.owns pk os'∧RP pk r g ys st∧RP pk q g' zs st)) (st0 fn.ntmps ds)):dX P f ds (.tup [(g,ys),(g',zs)]) os':=by
 refine nG (post:=fun w e w'=>Dy (.tup [(g,ys),(g',zs)]) os' w e w') hf hb hc h ?_;rintro G w w' st E a hR ⟨pk,hnd,ho,h1,h2⟩;simp only[Bool.and_eq_true]at hp;obtain⟨v,h3,h4⟩:=Fb hR ho hp.1 h1;obtain⟨u,h5,h6⟩:=Fb hR ho hp.2 h2;exact⟨_,Bz hr _ h3 h5,_,xU E pk,rfl,Hz hR ho hnd,⟨[v,u],rfl,h4,h6,trivial⟩,hR.below.out⟩
theorem qE{r:ResultVar}{g:Bool}{ys:List AC}{os':List Own}(hf:P.funcs[f]? =some fn:=by kernel_rfl)(hb:fn.body=some code:=by kernel_rfl)(hr:fn.results= #[r]:=by kernel_rfl)(hp:nS P r g ys.length=true:=by kernel_rfl)(hc:ak P code=some ic)
 (h:AWP P ic (yJ (fun st=>∃pk:List Nat,pk.Nodup∧qR st.owns pk os'∧RP pk r g ys st)) (st0 fn.ntmps ds)):dX P f ds (.c g ys) os':=by
 refine nG (post:=fun w e w'=>Dy (.c g ys) os' w e w') hf hb hc h ?_;rintro G w w' st E a hR ⟨pk,hnd,ho,h1⟩;obtain⟨v,h3,h4⟩:=Fb hR ho hp h1;exact⟨_,BA hr _ h3,_,xU E pk,rfl,Hz hR ho hnd,h4,hR.below.out⟩
end
section
variable{lo:Nat×Nat}{P:Program}{y:IC}{Q:Exit→St→Prop}{st:St}{i j:Nat}{c:Opd}
theorem qF(h:iT lo P y Q st):KH lo P y Q .normal st:=h
theorem iD(h:Q (.exit i) st):KH lo P y Q (.exit i) st:=h
theorem jK(h:Q .ret st):KH lo P y Q .ret st:=h
theorem dP(h:Q .normal st):Bj i Q .normal st:=h
theorem iJ(h:Q .ret st):Bj i Q .ret st:=h
theorem fP(h:Q .normal st):Bj i Q (.exit i) st:=by
 show ite _ _ _;rw[if_pos rfl];exact h
theorem fO(hij:(j==i)=false)(h:Q (.exit j) st):Bj i Q (.exit j) st:=by
 show ite _ _ _;rw[if_neg (by simpa using hij)];exact h
theorem fJ{X:Type}{F:X→St}{inv:X→Prop}{μ:X→Nat}{x:X}(h:Q (.exit i) st):yI F inv μ x Q (.exit i) st:=h
theorem iG{X:Type}{F:X→St}{inv:X→Prop}{μ:X→Nat}{x:X}(h:Q .ret st):yI F inv μ x Q .ret st:=h
theorem Iy{Fin:St→Prop}(h:Fin st):yJ Fin .normal st:=h
theorem aU{Fin:St→Prop}(h:Fin st):yJ Fin .ret st:=h
theorem fQ{x:IC}(hb:st.ev c= .c false [.raw (.bool true)])(h:iT lo P x Q st):iT lo P (.cond c x y) Q st:=FI hb (fun _=>h) (fun e=>by cases e)
theorem fV{x:IC}(hb:st.ev c= .c false [.raw (.bool false)])(h:iT lo P y Q st):iT lo P (.cond c x y) Q st:=FI hb (fun e=>by cases e) (fun _=>h)
end
theorem VB{x0:Opd}:I.plain (.mov x0)=true:=by simp only[I.plain]
theorem Qs{x0:Opd}{x1:Opd}{x2:Opd}:I.plain (.pick x0 x1 x2)=true:=by simp only[I.plain]
theorem VN{x0:BinOp}{x1:Opd}{x2:Opd}:I.plain (.bin x0 x1 x2)=true:=by simp only[I.plain]
theorem VO{x0:Bool}{x1:Opd}{x2:Opd}:I.plain (.beq x0 x1 x2)=true:=by simp only[I.plain]
theorem Vz{x0:Opd}:I.plain (.not x0)=true:=by simp only[I.plain]
theorem Qu{x0:Nat}{x1:Bool}{x2:Opd}:I.plain (.load x0 x1 x2)=true:=by simp only[I.plain]
theorem VG{x0:Nat}{x1:Opd}:I.plain (.fad x0 x1)=true:=by simp only[I.plain]
theorem VA{x0:Opd}:I.plain (.nck x0)=true:=by simp only[I.plain]
theorem LD{x0:List Value}:I.plain (.alloc x0)=true:=by simp only[I.plain]
theorem VK{x0:Opd}:I.plain (.box x0)=true:=by simp only[I.plain]
theorem LC{x0:Nat}{x1:Opd}{x2:Opd}:I.plain (.store x0 x1 x2)=true:=by simp only[I.plain]
theorem Qw{x0:Bool}{x1:Nat}{x2:Nat}{x3:Nat}{x4:Bool}{x5:List Opd}:I.plain (.brow x0 x1 x2 x3 x4 x5)=true:=by simp only[I.plain]
theorem VL{x0:List Value}{x1:List (Nat×Nat×Opd)}:I.plain (.bld x0 x1)=true:=by simp only[I.plain]
theorem VF{x0:Nat}{x1:Nat}{x2:Bool}{x3:Opd}:I.plain (.fld x0 x1 x2 x3)=true:=by simp only[I.plain]
theorem Qr{x0:Opd}{x1:Opd}:I.plain (.sidx x0 x1)=true:=by simp only[I.plain]
theorem Vy{x0:Opd}{x1:Option Opd}{x2:Option Opd}:I.plain (.ssl x0 x1 x2)=true:=by simp only[I.plain]
theorem VH{x0:Nat}{x1:Opd}:I.plain (.ext x0 x1)=true:=by simp only[I.plain]
theorem VE{x0:Bool}{x1:Opd}:I.plain (.len x0 x1)=true:=by simp only[I.plain]
theorem Vh{x0:Opd}:I.plainW (.mov x0)=true:=by simp only[I.plainW]
theorem Qk{x0:Opd}{x1:Opd}{x2:Opd}:I.plainW (.pick x0 x1 x2)=true:=by simp only[I.plainW]
theorem Vt{x0:BinOp}{x1:Opd}{x2:Opd}:I.plainW (.bin x0 x1 x2)=true:=by simp only[I.plainW]
theorem Vu{x0:Bool}{x1:Opd}{x2:Opd}:I.plainW (.beq x0 x1 x2)=true:=by simp only[I.plainW]
theorem Vf{x0:Opd}:I.plainW (.not x0)=true:=by simp only[I.plainW]
theorem Ql{x0:Nat}{x1:Bool}{x2:Opd}:I.plainW (.load x0 x1 x2)=true:=by simp only[I.plainW]
theorem Vm{x0:Nat}{x1:Opd}:I.plainW (.fad x0 x1)=true:=by simp only[I.plainW]
theorem Vg{x0:Opd}:I.plainW (.nck x0)=true:=by simp only[I.plainW]
theorem Lr{x0:List Value}:I.plainW (.alloc x0)=true:=by simp only[I.plainW]
theorem Vr{x0:Opd}:I.plainW (.box x0)=true:=by simp only[I.plainW]
theorem Vs{x0:List Value}{x1:List (Nat×Nat×Opd)}:I.plainW (.bld x0 x1)=true:=by simp only[I.plainW]
theorem Vl{x0:Nat}{x1:Nat}{x2:Bool}{x3:Opd}:I.plainW (.fld x0 x1 x2 x3)=true:=by simp only[I.plainW]
theorem Qj{x0:Opd}{x1:Opd}:I.plainW (.sidx x0 x1)=true:=by simp only[I.plainW]
theorem Ve{x0:Opd}{x1:Option Opd}{x2:Option Opd}:I.plainW (.ssl x0 x1 x2)=true:=by simp only[I.plainW]
theorem Vo{x0:Nat}{x1:Opd}:I.plainW (.ext x0 x1)=true:=by simp only[I.plainW]
theorem Vk{x0:Bool}{x1:Opd}:I.plainW (.len x0 x1)=true:=by simp only[I.plainW]
theorem VD{f:Nat}{xs:List Opd}:I.plain (.mkf f xs)=true:=by simp only[I.plain]
theorem Qv{b:Bool}{x:Opd}:I.plain (.fnil b x)=true:=by simp only[I.plain]
theorem Qq{b:Bool}{x:Opd}:I.plain (.snil b x)=true:=by simp only[I.plain]
theorem Qx{b:Bool}{k:List Value}{x y:Opd}:I.plain (.beqS b k x y)=true:=by simp only[I.plain]
theorem Qn{b:Bool}{k:List Value}{x y:Opd}:I.plainW (.beqS b k x y)=true:=by simp only[I.plainW]
theorem Rn{b:Bool}{k:List Value}{x y:Opd}:eff (.beqS b k x y)=false:=by simp[eff,I.cls]
theorem VJ{k:IntKind}{x:Opd}:I.plain (.cvi k x)=true:=by simp only[I.plain]
theorem VI{x:Opd}:I.plain (.cvs x)=true:=by simp only[I.plain]
theorem Qy{e:Nat}{x y:Opd}:I.plain (.apps e x y)=true:=by simp only[I.plain]
theorem Vq{k:IntKind}{x:Opd}:I.plainW (.cvi k x)=true:=by simp only[I.plainW]
theorem Vp{x:Opd}:I.plainW (.cvs x)=true:=by simp only[I.plainW]
theorem Qo{e:Nat}{x y:Opd}:I.plainW (.apps e x y)=true:=by simp only[I.plainW]
theorem Xf{k:IntKind}{x:Opd}:eff (.cvi k x)=false:=by simp[eff,I.cls]
theorem Xe{x:Opd}:eff (.cvs x)=false:=by simp[eff,I.cls]
theorem Ro{e:Nat}{x y:Opd}:eff (.apps e x y)=true:=by simp[eff,I.cls]
theorem YS{e:Nat}{z:Value}{x:Opd}:I.plain (.mk e z x)=true:=by simp only[I.plain]
theorem Vj{f:Nat}{xs:List Opd}:I.plainW (.mkf f xs)=true:=by simp only[I.plainW]
theorem Qm{b:Bool}{x:Opd}:I.plainW (.fnil b x)=true:=by simp only[I.plainW]
theorem Qi{b:Bool}{x:Opd}:I.plainW (.snil b x)=true:=by simp only[I.plainW]
theorem YR{e:Nat}{z:Value}{x:Opd}:I.plainW (.mk e z x)=true:=by simp only[I.plainW]
theorem W9{f:Nat}{xs:List Opd}:eff (.mkf f xs)=false:=by simp[eff,I.cls]
theorem Rj{b:Bool}{x:Opd}:eff (.fnil b x)=false:=by simp[eff,I.cls]
theorem Q9{b:Bool}{x:Opd}:eff (.snil b x)=false:=by simp[eff,I.cls]
theorem Y1{e:Nat}{z:Value}{x:Opd}:eff (.mk e z x)=true:=by simp[eff,I.cls]
theorem WZ{x0:Opd}:eff (.mov x0)=false:=by simp[eff,I.cls]
theorem Rh{x0:Opd}{x1:Opd}{x2:Opd}:eff (.pick x0 x1 x2)=false:=by simp[eff,I.cls]
theorem Xi{x0:BinOp}{x1:Opd}{x2:Opd}:eff (.bin x0 x1 x2)=false:=by simp[eff,I.cls]
theorem Xj{x0:Bool}{x1:Opd}{x2:Opd}:eff (.beq x0 x1 x2)=false:=by simp[eff,I.cls]
theorem WX{x0:Opd}:eff (.not x0)=false:=by simp[eff,I.cls]
theorem Ri{x0:Nat}{x1:Bool}{x2:Opd}:eff (.load x0 x1 x2)=false:=by simp[eff,I.cls]
theorem Xc{x0:Nat}{x1:Opd}:eff (.fad x0 x1)=false:=by simp[eff,I.cls]
theorem WY{x0:Opd}:eff (.nck x0)=false:=by simp[eff,I.cls]
theorem NG{x0:List Value}:eff (.alloc x0)=true:=by simp[eff,I.cls]
theorem Xg{x0:Opd}:eff (.box x0)=true:=by simp[eff,I.cls]
theorem ND{x0:Nat}{x1:Opd}{x2:Opd}:eff (.store x0 x1 x2)=true:=by simp[eff,I.cls]
theorem Xh{x0:List Value}{x1:List (Nat×Nat×Opd)}:eff (.bld x0 x1)=false:=by simp[eff,I.cls]
theorem Xb{x0:Nat}{x1:Nat}{x2:Bool}{x3:Opd}:eff (.fld x0 x1 x2 x3)=false:=by simp[eff,I.cls]
theorem Rf{x0:Opd}{x1:Opd}:eff (.sidx x0 x1)=false:=by simp[eff,I.cls]
theorem WW{x0:Opd}{x1:Option Opd}{x2:Option Opd}:eff (.ssl x0 x1 x2)=false:=by simp[eff,I.cls]
theorem Xd{x0:Nat}{x1:Opd}:eff (.ext x0 x1)=false:=by simp[eff,I.cls]
theorem Xa{x0:Bool}{x1:Opd}:eff (.len x0 x1)=false:=by simp[eff,I.cls]
theorem Rk{e s n:Nat}{g:Bool}{xs:List Opd}:eff (.brow false e s n g xs)=false:=by simp[eff,I.cls]
theorem Rl{e s n:Nat}{g:Bool}{xs:List Opd}:eff (.brow true e s n g xs)=true:=by simp[eff,I.cls]
theorem uy{st:St}:mo true st= []:=by simp[mo]
theorem uz{st:St}:mo false st=st.owns:=by simp[mo]
inductive Sp where
 |k
 |d
 |v (x:AV)
def bQ :List Sp→List AV→List AV
 | .k::ss,x::xs=>x::bQ ss xs
 | .d::ss,_::xs=> .any::bQ ss xs
 | .v y::ss,_::xs=>y::bQ ss xs
 | [],_::xs=> .any::bQ [] xs
 |_,[]=> []
def FB{X:Type}(fr0:List AV)(bs0:List (List AC))(sp:X→List Sp)(ow:X→List Own)(bx:X→List (List AC)→List (List AC))(x:X):St:=⟨bQ (sp x) fr0,ow x,bx x bs0⟩
theorem dZ{P:Program}{Q:Exit→St→Prop}{X:Type}{c:IC}{fr0:List AV}{os0:List Own}{bs0:List (List AC)}(sp:X→List Sp)(ow:X→List Own)(bx:X→List (List AC)→List (List AC))(inv:X→Prop)(μ:X→Nat)(x0:X)(h0:inv x0)
 (hle:bU ⟨fr0,os0,bs0⟩ (FB fr0 bs0 sp ow bx x0)) (round:∀x,inv x→AWP P c (yI (FB fr0 bs0 sp ow bx) inv μ x Q) (FB fr0 bs0 sp ow bx x)):AWP P (.loop c) Q ⟨fr0,os0,bs0⟩:=
 XD (FB fr0 bs0 sp ow bx) inv μ x0 h0 (Je hle) round
theorem dB{Q:Exit→St→Prop}{st:St}{X:Type}{F:X→St}{inv:X→Prop}{μ:X→Nat}{x:X}(x':X)(h1:bU st (F x'))(h2:inv x')(h3:μ x'<μ x):yI F inv μ x Q .normal st:=⟨x',Je h1,h2,h3⟩
theorem eY(b:Bool)(n:Int):(li n).acs b= [.raw (.int .i64 n)]:=rfl
theorem eX(b:Bool)(s:ByteArray):(ls s).acs b= [.raw (.string s)]:=rfl
theorem dD(b:Bool)(v:Value):(D.leaf v).acs b= [.raw v]:=rfl
theorem gy(b:Bool)(l:List D):(D.sl l).acs b= [.sl b l]:=rfl
theorem iI(l:List Int):El 1 (l.map li):=fun d h=>by obtain⟨x,_,rfl⟩:=h_.1 h;exact⟨rfl,rfl⟩
theorem bC(l:List ByteArray):El 1 (l.map ls):=fun d h=>by obtain⟨x,_,rfl⟩:=h_.1 h;exact⟨rfl,rfl⟩
theorem WU(s:Nat):El s []:=fun d h=>by simp at h
theorem Q8{s:Nat}{d:D}{l:List D}:El s (d::l)=((d.one∧d.sz=s)∧El s l):=by
 apply propext;constructor
 ·intro h;exact⟨h d (by simp),fun x hx=>h x (by simp[hx])⟩
 ·rintro⟨h1,h2⟩ x hx;rcases List.mem_cons.1 hx with rfl|hx
  ·exact h1
  ·exact h2 x hx
theorem nC{α:Type}{g:α→D}(hg:∀(x:α) (w:World) (f:List Nat) (cs:List Value),R w (g x) f cs→f= []):∀(l:List α),lC (l.map g)
 | [],w,f,cs,h=>h.1
 | x::l,w,f,cs,h=>by
   rw[L_,Rs]at h;obtain⟨f1,f2,c1,c2,rfl,rfl,h1,h2⟩:=h;rw[hg x w f1 c1 h1,nC hg l w f2 c2 h2];rfl
theorem TL(l:List Int):lC (l.map li):=nC (g:=li) (fun x w f cs h=>(show f= []∧_ from h).1) l
theorem lK(l:List ByteArray):lC (l.map ls):=nC (g:=ls) (fun x w f cs h=>(show f= []∧_ from h).1) l
theorem QS(l:List D)(k:Nat):idx l (some (k:Int))=l[k]? :=by simp[idx]
theorem Dt{α:Type}(f:α→D)(l:List α){k:Nat}(h:k<l.length):idx (l.map f) (some (k:Int))=some (f l[k]):=by
 rw[QS,D_,a_ h];rfl
theorem yL{n:Nat}(h:n≤9223372036854775806):IntKind.i64.wrap ((n:Int)+1)=((n+1:Nat):Int):=by
 rw[IntWalk.i64_in _ (by omega)];rfl
theorem qI.tos{l:List D}{e s:Nat}{w:World}{en:Ending}{w':World}(h:qI false l e s w en w')(hf:lC l):kS l w en w':=by
 obtain⟨v,cs,f,rfl,h1,h2,h3,h4⟩:=h;have:=hf _ _ _ h2;subst this;exact⟨_,v,rfl,Sl.oJ h1 h2,aV.oJ h1 aV.nil (fun g hg=>by simp),h4⟩
theorem dU.to{P:Program}{f:Nat}{ds l:List D}{e s:Nat}(h:dU P f ds l e s)(hf:lC l):aB P f ds (.c false [.sl true l]):=by
 intro w vs hr ht;refine(h w vs hr ht).mono ?_;rintro en w' ⟨v,cs,f',rfl,h1,h2,h3,h4⟩;have:=hf _ _ _ h2;subst this;refine⟨v,rfl,⟨⟨_,Sl.oJ h1 h2,fun b hb=> ?_⟩,trivial⟩,h4⟩;rw[T_]at hb;have:=(aK.lt h1 b (by simpa using hb)).1;exact⟨mO.2 this,fun _=>r_ this⟩
theorem GOrigin.aA(x:GOrigin):x.toD.flat= [.leaf (.int .i64 x.cell),.leaf (.int .i64 x.row)]:=by
 simp[GOrigin.aj,D.flat,D.jv,li,ls]
theorem GOrigin.aF(x:GOrigin)(b:Bool):x.toD.acs b= [.raw (.int .i64 x.cell),.raw (.int .i64 x.row)]:=by
 simp[D.acs,GOrigin.aA,D.ac]
theorem GOrigin.aH(x:GOrigin):x.toD.isAgg=true:=by rw[GOrigin.aj];rfl
theorem GOrigin.gV(x:GOrigin):x.toD.one:=by
 simp[GOrigin.aj,D.one,D.ones,li,ls,k_]
theorem GOrigin.el(l:List GOrigin):El 2 (l.map GOrigin.toD):=fun d h=>by obtain⟨x,_,rfl⟩:=h_.1 h;exact⟨x.gV,x.sz_eq⟩
theorem GOrigin.QY(l:List GOrigin):lC (l.map GOrigin.toD):=nC (fun x w f cs h=>(GOrigin.opened.1 h).1) l
theorem GRow.aA(x:GRow):x.toD.flat= [.sl (x.cells.map li),.sl (x.src.map GOrigin.toD)]:=by
 simp[GRow.aj,D.flat,D.jv,li,ls]
theorem GRow.aF(x:GRow)(b:Bool):x.toD.acs b= [.sl b (x.cells.map li),.sl b (x.src.map GOrigin.toD)]:=by
 simp[D.acs,GRow.aA,D.ac]
theorem GRow.aH(x:GRow):x.toD.isAgg=true:=by rw[GRow.aj];rfl
theorem GRow.gV(x:GRow):x.toD.one:=by
 simp[GRow.aj,D.one,D.ones,li,ls,k_]
theorem GRow.el(l:List GRow):El 2 (l.map GRow.toD):=fun d h=>by obtain⟨x,_,rfl⟩:=h_.1 h;exact⟨x.gV,x.sz_eq⟩
theorem GVal.aA(x:GVal):x.toD.flat= [.leaf (.int .i64 x.kind),.leaf (.int .i64 x.n),.leaf (.int .i64 x.step),.leaf (.string x.text),.sl (x.list.map GVal.toD),.sl (x.cols.map ls),.sl (x.rows.map GRow.toD)]:=by
 simp[GVal.aj,D.flat,D.jv,li,ls]
theorem GVal.aF(x:GVal)(b:Bool):x.toD.acs b= [.raw (.int .i64 x.kind),.raw (.int .i64 x.n),.raw (.int .i64 x.step),.raw (.string x.text),.sl b (x.list.map GVal.toD),.sl b (x.cols.map ls),.sl b (x.rows.map GRow.toD)]:=by
 simp[D.acs,GVal.aA,D.ac]
theorem GVal.aH(x:GVal):x.toD.isAgg=true:=by rw[GVal.aj];rfl
theorem GVal.gV(x:GVal):x.toD.one:=by
 simp[GVal.aj,D.one,D.ones,li,ls,k_]
theorem GVal.el(l:List GVal):El 7 (l.map GVal.toD):=fun d h=>by obtain⟨x,_,rfl⟩:=h_.1 h;exact⟨x.gV,x.sz_eq⟩
theorem GTok.aA(x:GTok):x.toD.flat= [.leaf (.int .i64 x.kind),.leaf (.int .i64 x.n),.leaf (.int .i64 x.pos),.leaf (.string x.text)]:=by
 simp[GTok.aj,D.flat,D.jv,li,ls]
theorem GTok.aF(x:GTok)(b:Bool):x.toD.acs b= [.raw (.int .i64 x.kind),.raw (.int .i64 x.n),.raw (.int .i64 x.pos),.raw (.string x.text)]:=by
 simp[D.acs,GTok.aA,D.ac]
theorem GTok.aH(x:GTok):x.toD.isAgg=true:=by rw[GTok.aj];rfl
theorem GTok.gV(x:GTok):x.toD.one:=by
 simp[GTok.aj,D.one,D.ones,li,ls,k_]
theorem GTok.el(l:List GTok):El 4 (l.map GTok.toD):=fun d h=>by obtain⟨x,_,rfl⟩:=h_.1 h;exact⟨x.gV,x.sz_eq⟩
theorem GTok.QY(l:List GTok):lC (l.map GTok.toD):=nC (fun x w f cs h=>(GTok.opened.1 h).1) l
theorem GExpr.aA(x:GExpr):x.toD.flat= [.leaf (.int .i64 x.kind),.leaf (.int .i64 x.n),.leaf (.string x.text),.sl (x.args.map GExpr.toD)]:=by
 simp[GExpr.aj,D.flat,D.jv,li,ls]
theorem GExpr.aF(x:GExpr)(b:Bool):x.toD.acs b= [.raw (.int .i64 x.kind),.raw (.int .i64 x.n),.raw (.string x.text),.sl b (x.args.map GExpr.toD)]:=by
 simp[D.acs,GExpr.aA,D.ac]
theorem GExpr.aH(x:GExpr):x.toD.isAgg=true:=by rw[GExpr.aj];rfl
theorem GExpr.gV(x:GExpr):x.toD.one:=by
 simp[GExpr.aj,D.one,D.ones,li,ls,k_]
theorem GExpr.el(l:List GExpr):El 4 (l.map GExpr.toD):=fun d h=>by obtain⟨x,_,rfl⟩:=h_.1 h;exact⟨x.gV,x.sz_eq⟩
theorem GCell.aA(x:GCell):x.toD.flat= [.leaf (.int .i64 x.id),.leaf (.int .i64 x.ver),.leaf (.int .i64 x.kind),.leaf (.string x.name),.leaf (.string x.code),.leaf (.int .i64 x.n)]:=by
 simp[GCell.aj,D.flat,D.jv,li,ls]
theorem GCell.aF(x:GCell)(b:Bool):x.toD.acs b= [.raw (.int .i64 x.id),.raw (.int .i64 x.ver),.raw (.int .i64 x.kind),.raw (.string x.name),.raw (.string x.code),.raw (.int .i64 x.n)]:=by
 simp[D.acs,GCell.aA,D.ac]
theorem GCell.aH(x:GCell):x.toD.isAgg=true:=by rw[GCell.aj];rfl
theorem GCell.gV(x:GCell):x.toD.one:=by
 simp[GCell.aj,D.one,D.ones,li,ls,k_]
theorem GCell.el(l:List GCell):El 6 (l.map GCell.toD):=fun d h=>by obtain⟨x,_,rfl⟩:=h_.1 h;exact⟨x.gV,x.sz_eq⟩
theorem GCell.QY(l:List GCell):lC (l.map GCell.toD):=nC (fun x w f cs h=>(GCell.opened.1 h).1) l
theorem GNb.aA(x:GNb):x.toD.flat= [.sl (x.cells.map GCell.toD)]:=by
 simp[GNb.aj,D.flat,D.jv,li,ls]
theorem GNb.aF(x:GNb)(b:Bool):x.toD.acs b= [.sl b (x.cells.map GCell.toD)]:=by
 simp[D.acs,GNb.aA,D.ac]
theorem GNb.aH(x:GNb):x.toD.isAgg=true:=by rw[GNb.aj];rfl
theorem GNb.gV(x:GNb):x.toD.one:=by
 simp[GNb.aj,D.one,D.ones,li,ls,k_]
theorem GNb.el(l:List GNb):El 1 (l.map GNb.toD):=fun d h=>by obtain⟨x,_,rfl⟩:=h_.1 h;exact⟨x.gV,x.sz_eq⟩
theorem GPart.aA(x:GPart):x.toD.flat= [.leaf (.int .i64 x.kind),.leaf (.string x.name),.leaf (.int .i64 x.expr.kind),.leaf (.int .i64 x.expr.n),.leaf (.string x.expr.text),.sl (x.expr.args.map GExpr.toD),.leaf (.int .i64 x.value.kind),.leaf (.int .i64 x.value.n),.leaf (.int .i64 x.value.step),.leaf (.string x.value.text),.sl (x.value.list.map GVal.toD),.sl (x.value.cols.map ls),.sl (x.value.rows.map GRow.toD),.leaf (.int .i64 x.pos)]:=by
 simp[GPart.aj,GExpr.aj,GVal.aj,D.flat,D.jv,li,ls]
theorem GPart.aF(x:GPart)(b:Bool):x.toD.acs b= [.raw (.int .i64 x.kind),.raw (.string x.name),.raw (.int .i64 x.expr.kind),.raw (.int .i64 x.expr.n),.raw (.string x.expr.text),.sl b (x.expr.args.map GExpr.toD),.raw (.int .i64 x.value.kind),.raw (.int .i64 x.value.n),.raw (.int .i64 x.value.step),.raw (.string x.value.text),.sl b (x.value.list.map GVal.toD),.sl b (x.value.cols.map ls),.sl b (x.value.rows.map GRow.toD),.raw (.int .i64 x.pos)]:=by
 simp[D.acs,GPart.aA,D.ac]
theorem GPart.aH(x:GPart):x.toD.isAgg=true:=by rw[GPart.aj];rfl
theorem GPart.gV(x:GPart):x.toD.one:=by
 simp[GPart.aj,GExpr.aj,GVal.aj,D.one,D.ones,li,ls,k_]
theorem GPart.el(l:List GPart):El 14 (l.map GPart.toD):=fun d h=>by obtain⟨x,_,rfl⟩:=h_.1 h;exact⟨x.gV,x.sz_eq⟩
theorem GEdit.aA(x:GEdit):x.toD.flat= [.leaf (.int .i64 x.kind),.leaf (.int .i64 x.pos),.leaf (.int .i64 x.cell.id),.leaf (.int .i64 x.cell.ver),.leaf (.int .i64 x.cell.kind),.leaf (.string x.cell.name),.leaf (.string x.cell.code),.leaf (.int .i64 x.cell.n)]:=by
 simp[GEdit.aj,GCell.aj,D.flat,D.jv,li,ls]
theorem GEdit.aF(x:GEdit)(b:Bool):x.toD.acs b= [.raw (.int .i64 x.kind),.raw (.int .i64 x.pos),.raw (.int .i64 x.cell.id),.raw (.int .i64 x.cell.ver),.raw (.int .i64 x.cell.kind),.raw (.string x.cell.name),.raw (.string x.cell.code),.raw (.int .i64 x.cell.n)]:=by
 simp[D.acs,GEdit.aA,D.ac]
theorem GEdit.aH(x:GEdit):x.toD.isAgg=true:=by rw[GEdit.aj];rfl
theorem GEdit.gV(x:GEdit):x.toD.one:=by
 simp[GEdit.aj,GCell.aj,D.one,D.ones,li,ls,k_]
theorem GEdit.el(l:List GEdit):El 8 (l.map GEdit.toD):=fun d h=>by obtain⟨x,_,rfl⟩:=h_.1 h;exact⟨x.gV,x.sz_eq⟩
theorem GEdit.QY(l:List GEdit):lC (l.map GEdit.toD):=nC (fun x w f cs h=>(GEdit.opened.1 h).1) l
theorem GRead.aA(x:GRead):x.toD.flat= [.leaf (.int .i64 x.kind),.leaf (.int .i64 x.n),.leaf (.int .i64 x.time),.leaf (.string x.text),.leaf (.int .i64 x.result.kind),.leaf (.int .i64 x.result.n),.leaf (.int .i64 x.result.step),.leaf (.string x.result.text),.sl (x.result.list.map GVal.toD),.sl (x.result.cols.map ls),.sl (x.result.rows.map GRow.toD)]:=by
 simp[GRead.aj,GVal.aj,D.flat,D.jv,li,ls]
theorem GRead.aF(x:GRead)(b:Bool):x.toD.acs b= [.raw (.int .i64 x.kind),.raw (.int .i64 x.n),.raw (.int .i64 x.time),.raw (.string x.text),.raw (.int .i64 x.result.kind),.raw (.int .i64 x.result.n),.raw (.int .i64 x.result.step),.raw (.string x.result.text),.sl b (x.result.list.map GVal.toD),.sl b (x.result.cols.map ls),.sl b (x.result.rows.map GRow.toD)]:=by
 simp[D.acs,GRead.aA,D.ac]
theorem GRead.aH(x:GRead):x.toD.isAgg=true:=by rw[GRead.aj];rfl
theorem GRead.gV(x:GRead):x.toD.one:=by
 simp[GRead.aj,GVal.aj,D.one,D.ones,li,ls,k_]
theorem GRead.el(l:List GRead):El 11 (l.map GRead.toD):=fun d h=>by obtain⟨x,_,rfl⟩:=h_.1 h;exact⟨x.gV,x.sz_eq⟩
theorem GTape.aA(x:GTape):x.toD.flat= [.leaf (.int .i64 x.cell),.leaf (.int .i64 x.ver),.sl (x.reads.map GRead.toD)]:=by
 simp[GTape.aj,D.flat,D.jv,li,ls]
theorem GTape.aF(x:GTape)(b:Bool):x.toD.acs b= [.raw (.int .i64 x.cell),.raw (.int .i64 x.ver),.sl b (x.reads.map GRead.toD)]:=by
 simp[D.acs,GTape.aA,D.ac]
theorem GTape.aH(x:GTape):x.toD.isAgg=true:=by rw[GTape.aj];rfl
theorem GTape.gV(x:GTape):x.toD.one:=by
 simp[GTape.aj,D.one,D.ones,li,ls,k_]
theorem GTape.el(l:List GTape):El 3 (l.map GTape.toD):=fun d h=>by obtain⟨x,_,rfl⟩:=h_.1 h;exact⟨x.gV,x.sz_eq⟩
theorem GBind.aA(x:GBind):x.toD.flat= [.leaf (.string x.name),.leaf (.int .i64 x.value.kind),.leaf (.int .i64 x.value.n),.leaf (.int .i64 x.value.step),.leaf (.string x.value.text),.sl (x.value.list.map GVal.toD),.sl (x.value.cols.map ls),.sl (x.value.rows.map GRow.toD)]:=by
 simp[GBind.aj,GVal.aj,D.flat,D.jv,li,ls]
theorem GBind.aF(x:GBind)(b:Bool):x.toD.acs b= [.raw (.string x.name),.raw (.int .i64 x.value.kind),.raw (.int .i64 x.value.n),.raw (.int .i64 x.value.step),.raw (.string x.value.text),.sl b (x.value.list.map GVal.toD),.sl b (x.value.cols.map ls),.sl b (x.value.rows.map GRow.toD)]:=by
 simp[D.acs,GBind.aA,D.ac]
theorem GBind.aH(x:GBind):x.toD.isAgg=true:=by rw[GBind.aj];rfl
theorem GBind.gV(x:GBind):x.toD.one:=by
 simp[GBind.aj,GVal.aj,D.one,D.ones,li,ls,k_]
theorem GBind.el(l:List GBind):El 8 (l.map GBind.toD):=fun d h=>by obtain⟨x,_,rfl⟩:=h_.1 h;exact⟨x.gV,x.sz_eq⟩
theorem Si :type_of% (aaA @GOrigin.aA (aaA @GOrigin.aF (aaA @GOrigin.aH (aaA @GRow.aA (aaA @GRow.aF (aaA @GRow.aH (aaA @GVal.aA (aaA @GVal.aF (aaA @GVal.aH (aaA @GTok.aA (aaA @GTok.aF (aaA @GTok.aH (aaA @GExpr.aA (aaA @GExpr.aF (aaA @GExpr.aH (aaA @GCell.aA (aaA @GCell.aF (aaA @GCell.aH (aaA @GNb.aA (aaA @GNb.aF (aaA @GNb.aH (aaA @GPart.aA (aaA @GPart.aF (aaA @GPart.aH (aaA @GEdit.aA (aaA @GEdit.aF (aaA @GEdit.aH (aaA @GRead.aA (aaA @GRead.aF (aaA @GRead.aH (aaA @GTape.aA (aaA @GTape.aF (aaA @GTape.aH (aaA @GBind.aA (aaA @GBind.aF (@GBind.aH)))))))))))))))))))))))))))))))))))):=aaA @GOrigin.aA (aaA @GOrigin.aF (aaA @GOrigin.aH (aaA @GRow.aA (aaA @GRow.aF (aaA @GRow.aH (aaA @GVal.aA (aaA @GVal.aF (aaA @GVal.aH (aaA @GTok.aA (aaA @GTok.aF (aaA @GTok.aH (aaA @GExpr.aA (aaA @GExpr.aF (aaA @GExpr.aH (aaA @GCell.aA (aaA @GCell.aF (aaA @GCell.aH (aaA @GNb.aA (aaA @GNb.aF (aaA @GNb.aH (aaA @GPart.aA (aaA @GPart.aF (aaA @GPart.aH (aaA @GEdit.aA (aaA @GEdit.aF (aaA @GEdit.aH (aaA @GRead.aA (aaA @GRead.aF (aaA @GRead.aH (aaA @GTape.aA (aaA @GTape.aF (aaA @GTape.aH (aaA @GBind.aA (aaA @GBind.aF (@GBind.aH)))))))))))))))))))))))))))))))))))
theorem dn(l:List D):(D.sl l).isAgg=false:=rfl
theorem aY(v:Value):(D.leaf v).isAgg=false:=rfl
theorem dA(n:Int):(li n).isAgg=false:=rfl
theorem dw(s:ByteArray):(ls s).isAgg=false:=rfl
theorem iY(l:List D):(D.sl l).flat= [.sl l]:=by rw[D.flat]
theorem dR(v:Value):(D.leaf v).flat= [.leaf v]:=by rw[D.flat]
theorem jc(n:Int):(li n).flat= [.leaf (.int .i64 n)]:=dR _
theorem iZ(s:ByteArray):(ls s).flat= [.leaf (.string s)]:=dR _
section
variable{P:Program}{f:Nat}{w:World}
theorem U6{d:D}{vs:List Value}(h:Rds w [d] vs):∃v,vs= [v]∧Rd w d v:=by
 match vs,h with
 | [v],h=>exact⟨v,rfl,h.1⟩
theorem Ll{d e:D}{vs:List Value}(h:Rds w [d,e] vs):∃v u,vs= [v,u]∧Rd w d v∧Rd w e u:=by
 match vs,h with
 | [v,u],h=>exact⟨v,u,rfl,h.1,h.2.1⟩
theorem uQ{l:List D}{v:Value}(h:Rd w (.sl l) v):∃fp,Sl w l fp v:=by
 obtain⟨fp,h⟩:=h;exact⟨fp,h⟩
theorem qg{u v:Value}(h:Rd w (.leaf u) v):v=u:=by
 obtain⟨fp,h⟩:=h;have h2:fp= []∧[v]= [u]:=h;simpa using h2.2
theorem U7{d:D}{v:Value}(hd:d.isAgg=true)(h:Rd w d v):∃fp cs,v= .agg cs.toArray∧R w d fp cs:=by
 unfold Rd at h;rw[if_pos hd]at h;exact h
theorem ru{l:List D}{fp:List Nat}{v:Value}(h:Sl w l fp v):Rd w (.sl l) v:=⟨fp,h⟩
theorem sH(u:Value):Rd w (.leaf u) u:=⟨[],rfl,rfl⟩
theorem vV{ds:List D}{u:Value}(h:∀w vs,Rds w ds vs→Calls P f vs.toArray w (XL u w)):aB P f ds (.c false [.raw u]):=fun w vs hr _=>(h w vs hr).mono fun e w' ⟨h1,h2⟩=>⟨u,h1,⟨rfl,trivial⟩,h2⟩
theorem PS{ds:List D}{u:Value}(h:∀w vs,Rds w ds vs→Calls P f vs.toArray w (YM u w)):aB P f ds (.c false [.raw u]):=fun w vs hr _=>(h w vs hr).mono fun e w' ⟨h1,h2⟩=>by
 subst h2;exact⟨u,h1,⟨rfl,trivial⟩,Below.refl _ _⟩
theorem of_own{ds l:List D}{e s:Nat}(h:dU P f ds l e s)(hf:lC l){w:World}{vs:List Value}(hr:Rds w ds vs)(ht:nJ w:=by first|exact trivial|assumption):Calls P f vs.toArray w (kS l w):=(h w vs hr ht).mono fun en w' h1=>qI.tos h1 hf
def Ug(l:List D)(u:Value)(w:World)(e:Ending)(w':World):Prop:=∃fp v,e= .returned (.tuple #[.agg #[v],u])∧Sl w' l fp v∧aV w' w.heap.size fp∧Below w.heap.size w w'
theorem Yh{ds l:List D}{e s:Nat}{u:Value}(h:dX P f ds (.tup [(true,[.own 0 0]),(false,[.raw u])]) [⟨l,e,s,0,true⟩])(hf:lC l){w:World}{vs:List Value}(hr:Rds w ds vs)(ht:nJ w:=by first|exact trivial|assumption):Calls P f vs.toArray w (Ug l u w):=(h w vs hr ht).mono fun en w' ⟨v,om,h1,h2,h3,h4⟩=>by
 obtain⟨us,rfl,h5⟩:=h3
 match us,h5 with
 | [a,b],⟨h6,h7,_⟩=>
   obtain⟨xs,rfl,h8⟩:=h6;obtain rfl:=h7.1
   match xs,h8 with
   | [x],⟨⟨_,o,p,g1,g2,g3,g4⟩,_⟩=>
     simp at g1;subst g1;obtain rfl:=g4 rfl;obtain⟨_,o2,_⟩:=h2;obtain⟨cs,k1,k2,k3,k4⟩:=o2 0 _ p rfl g2;have:=hf _ _ _ k2;rw[this]at k2;exact⟨_,p.1,h1,Sl.oJ k1 k2,aV.oJ k1 aV.nil (fun g hg=>by simp),h4⟩
theorem dX.to{ds l:List D}{e s:Nat}{u:Value}(h:dX P f ds (.tup [(true,[.own 0 0]),(false,[.raw u])]) [⟨l,e,s,0,true⟩])(hf:lC l):aB P f ds (.tup [(true,[.sl true l]),(false,[.raw u])]):=fun w vs hr ht=>(Yh h hf hr ht).mono fun en w' ⟨fp,v,h1,h2,h3,h4⟩=>
 ⟨_,h1,⟨[.agg #[v],u],rfl,⟨[v],rfl,⟨fp,h2,fun b hb=>⟨mO.2 (h3.2 b hb).1,fun _=>r_ (h3.2 b hb).1⟩⟩,trivial⟩,⟨rfl,trivial⟩,trivial⟩,h4⟩
end
section
variable{P:Program}{f:Nat}{w:World}
def vS(w:World)(base:Nat)(fp:List Nat):Prop:=True∧∀b∈fp,base≤b∧True
theorem vS.mono{w:World}{base base':Nat}{fp:List Nat}(h:vS w base fp)(hb:base'≤base):vS w base' fp:=⟨trivial,fun b hm=>⟨p_ hb (h.2 b hm).1,trivial⟩⟩
theorem vS.below{w w':World}{base:Nat}{fp:List Nat}(h:vS w base fp)(hl:∀b∈fp,b<w.heap.size)(hb:Below w.heap.size w w'):vS w' base fp:=⟨trivial,h.2⟩
theorem vS.touch{fp:List Nat}{a b:World}{base:Nat}{g:List Nat}(hF:vS a base g)(hl:∀x∈g,x<a.heap.size)(h:Touch fp a b):vS b base g:=⟨trivial,hF.2⟩
def vP(d:D)(u:Value)(w:World)(e:Ending)(w':World):Prop:=∃fp cs,e= .returned (.tuple #[.agg cs.toArray,u])∧R w' d fp cs∧aV w' w.heap.size fp∧Below w.heap.size w w'
def Bd(d:D)(u:Value)(w:World)(e:Ending)(w':World):Prop:=∃fp cs,e= .returned (.tuple #[.agg cs.toArray,u])∧R w' d fp cs∧vS w' w.heap.size fp∧Below w.heap.size w w'
theorem of_flat{E:Env}{os:List Own}{w:World}:∀{l:List D} {n:Bool} {vs:List Value},(∀d∈l,d.isAgg=false)→Oks E os w (l.map (D.ac n)) vs→∃fp,Rs w l fp vs∧∀b∈fp,b∉E.M∧(n=true→E.nw b)
 | [],_,[],_,_=>⟨[],⟨rfl,rfl⟩,fun b hb=>by simp at hb⟩
 | d ::l,n,v::vs,ha,h=>by
   obtain⟨f2,r2,m2⟩:=of_flat (fun x hx=>ha x (by simp[hx])) h.2;have h1:=h.1;cases d with
   | leaf u=>
     obtain rfl:v=u:=h1;exact⟨f2,⟨[],f2,[v],vs,rfl,rfl,⟨rfl,rfl⟩,r2⟩,m2⟩
   | sl l'=>
     obtain⟨fp,g1,g2⟩:=h1;refine⟨fp++f2,⟨fp,f2,[v],vs,rfl,rfl,g1,r2⟩,fun b hb=> ?_⟩;rcases s_.1 hb with hb|hb
     ·exact g2 b hb
     ·exact m2 b hb
   |agg l'=>have:=ha (.agg l') (by simp);cases this
 | [],_,_::_,_,h=>h.elim
 |_::_,_,[],_,h=>h.elim
theorem ZV{ds:List D}{d:D}{u:Value}(h:aB P f ds (.tup [(true,d.acs true),(false,[.raw u])])){w:World}{vs:List Value}(hr:Rds w ds vs)(ht:nJ w:=by first|exact trivial|assumption):Calls P f vs.toArray w (Bd d u w):=(h w vs hr ht).mono fun e w' ⟨v,h1,h2,h3⟩=>by
 obtain⟨us,rfl,h5⟩:=h2
 match us,h5 with
 | [a,b],⟨h6,h7,_⟩=>
   obtain⟨xs,rfl,h8⟩:=h6;obtain rfl:=h7.1;obtain⟨fp,r,m⟩:=of_flat (jD d) h8;exact⟨fp,xs,h1,lM.2 r,⟨trivial,fun x hx=>⟨mO.1 (m x hx).1,trivial⟩⟩,h3⟩
theorem VQ{w w':World}{om:List (Value×List Nat)}{os:List Own}(h:qQ w.heap.size w' om os)(hb:Below w.heap.size w w')(ht:nJ w):
 Rel w.heap.size [] ⟨⟨w.heap.size,om,[],[]⟩,os,w'⟩ w ⟨[],os,[]⟩ ⟨w.heap.size,om,[],[]⟩ {tmps:= #[],defers:= []} w' where
 eb:=l_ _
 ex:=rfl
 sim:=Sim.refl _ _ _
 defers:=rfl
 size:=rfl
 fr:=fun t y hy=>by simp at hy
 olen:=h.1
 own:=fun k o p g1 g2=>by
  obtain⟨cs,q1,q2,q3,q4⟩:=h.2.1 k o p g1 g2;exact⟨cs,q1,q2,q3,fun b hb=>⟨fun hm=>(q4 b hb).2 (by simpa[Env.M]using hm),fun _=>r_ (q4 b hb).1⟩⟩
 blen:=rfl
 box:=fun k xs p g1 g2=>by simp at g1
 nodup:=by simpa[Env.M]using h.2.2.1
 lin:=h.2.2.2.1
 unf:=h.2.2.2.2
 below:=(BelowT.start ht).trans hb
 base:=hb.size
theorem H7{w w':World}{om:List (Value×List Nat)}{os:List Own}(h:qQ w.heap.size w' om os)(hb:Below w.heap.size w w')(ht:nJ w){xs:List AC}{dd:List D}{cs:List Value}(hd:jU os xs=some dd)
 (hn:(xs.flatMap lcK).Nodup) (hk:∀k∈xs.flatMap lcK,fA os k) (hx:Oks ⟨w.heap.size,om,[],[]⟩ os w' xs cs):∃fp,R w' (.agg dd) fp cs∧aV w' w.heap.size fp:=by
 have hR:=VQ h hb ht;obtain⟨E',q1,q2,q3,q4,q5,q6,q7⟩:=Rel.UO _ hR hn hk;obtain⟨_,_,r⟩:=JA hR hd hx;refine⟨_,by rw[dJ];exact r,q4,fun b hb1=>⟨?_,fun o=> ?_⟩⟩
 ·have:=(q5 b hb1).2;simpa[Env.nw]using this
 ·obtain⟨k,hk1,hk2⟩:=j_.1 hb1;exact hR.NV (hk k hk1) b hk2 o
theorem V3{ds:List D}{xs:List AC}{u:Value}{os:List Own}{dd:List D}(h:dX P f ds (.tup [(true,xs),(false,[.raw u])]) os)(hd:jU os xs=some dd)(hn:(xs.flatMap lcK).Nodup)(hk:∀k∈xs.flatMap lcK,fA os k)
 {w:World} {vs:List Value} (hr:Rds w ds vs) (ht:nJ w):Calls P f vs.toArray w (vP (.agg dd) u w):=(h w vs hr ht).mono fun e w' ⟨v,om,h1,h2,h3,h4⟩=>by
 obtain⟨us,rfl,h5⟩:=h3
 match us,h5 with
 | [a,b],⟨h6,h7,_⟩=>
   obtain⟨cs,rfl,h8⟩:=h6;obtain rfl:=h7.1;obtain⟨fp,r,m⟩:=H7 h2 h4 ht hd hn hk h8;exact⟨fp,cs,h1,r,m,h4⟩
end
def stS(n:Nat)(avs:List AV)(os:List Own)(bs:List (List AC)):St:=⟨avs++B_ (n - avs.length) (.c false [.raw undef]),os,bs⟩
theorem Kv{E:Env}{os:List Own}{w:World}:∀{xs:List AV} {vs:List Value},mZ E os w xs vs→xs.length=vs.length∧∀(t:Nat) (x:AV),xs[t]? =some x→∃v,vs[t]? =some v∧x.ok E os w v
 | [],[],_=>⟨rfl,fun t d h=>by simp at h⟩
 | x::xs,v::vs,h=>by
   obtain⟨h1,h2⟩:=Kv h.2;refine⟨by simp[h1],fun t y hy=> ?_⟩;cases t with
   |zero=>simp at hy;subst hy;exact⟨v,rfl,h.1⟩
   |succ t=>simpa using h2 t y (by simpa using hy)
 | [],_::_,h=>h.elim
 |_::_,[],h=>h.elim
theorem Lh{B:Nat}{Xs:List Nat}{G:Org}{w0:World}{fr:List AV}{os:List Own}{bs:List (List AC)}{E:Env}{a:Act}{w:World}{avs:List AV}{vs:List Value}(h:Rel B Xs G w0 ⟨fr,os,bs⟩ E a w)(hv:mZ E os w avs vs)(n:Nat):
 Rel B Xs ⟨E,os,w⟩ w0 (stS n avs os bs) E {tmps:=vs.toArray++Array.replicate (n - vs.toArray.size) undef,defers:= []} w where
 eb:=h.eb
 ex:=h.ex
 sim:=Sim.refl _ _ _
 defers:=rfl
 size:=by
  obtain⟨hl,_⟩:=Kv hv;simp[stS,hl]
 fr :=by
  obtain⟨hl,hg⟩:=Kv hv;intro t x hx;simp only[stS]at hx;rw[Y_]at hx;simp only[Array.getD_eq_getD_getElem?];split at hx
  ·next ht=>
   obtain⟨v,hv,hr⟩:=hg t x hx;rw[Array.getElem?_append_left (by simp at ht⊢;omega)];simp only[V_,hv,m_];exact hr
  ·next ht=>
   rw[O_]at hx;split at hx
   ·next hlt=>
    injection hx with hx
    subst hx;rw[Array.getElem?_append_right (by simp;omega),Array.getElem?_replicate];simp only[a_k,← hl];rw[if_pos hlt];exact⟨rfl,trivial⟩
   ·cases hx
 olen:=h.olen
 own:=h.own
 blen:=h.blen
 box:=h.box
 nodup:=h.nodup
 lin:=h.lin
 unf:=h.unf
 below:=h.below
 base:=h.base
theorem E8{n m:Nat}:∀(fr:List AV),dW n m fr (B_ fr.length .any)
 | []=>trivial
 |x::fr=>⟨r_ rfl,E8 fr⟩
theorem Nl{n m:Nat}{x:AV}(hx:x.fits n m=true):∀(fr:List AV) (t:Nat),fr.getD t .any=x→dW n m fr ((B_ fr.length AV.any).set t x)
 | [],t,_=>trivial
 |y::fr,0,h=>⟨o_ ⟨h,hx⟩,E8 fr⟩
 |y::fr,t+1,h=>⟨r_ rfl,Nl hx fr t (by simpa using h)⟩
def aan(rs:List ResultVar)(r:AV)(os':List Own)(bs':List (List AC))(st:St):Prop:=
 bH st.owns os'∧bK st.boxes bs'∧(bs'.all fun xs=>xs.all (AC.fits os'.length bs'.length))=true∧
  (match rs with
   | []=>r= .c false [.raw (.tuple #[])]
   | [.tmp t]=>st.fr.getD t .any=r∧r.fits os'.length bs'.length=true
   |_=>False)
theorem Kr{P:Program}{f:Nat}{fn:Func}{code:Code}{ic:IC}{avs:List AV}{os os':List Own}{bs bs':List (List AC)}{r:AV}{rs:List ResultVar}(hf:P.funcs[f]? =some fn:=by kernel_rfl)(hb:fn.body=some code:=by kernel_rfl)(hr:fn.results=rs.toArray:=by kernel_rfl)(hc:ak P code=some ic)
 (h1:os.length≤os'.length) (h2:bs.length≤bs'.length) (h:iT (os.length,bs.length) P ic (yJ (aan rs r os' bs')) (stS fn.ntmps avs os bs)):fE P f avs os bs r os' bs':=by
 intro B Xs G w0 fr E a w vs hR hv;have hol:=hR.olen;have hbl:=hR.blen;simp only at hol hbl;refine calls_of_wp hf hb ?_;have:=h code hc B Xs ⟨E,os,w⟩ w0 ⟨Nat.le_refl _,by simp only;omega⟩ E _ w (Lh hR hv fn.ntmps);refine wp_mono this ?_;rintro e a' w' ⟨st',E',g1,g2⟩;have fin:aan rs r os' bs' st'→∃v,(results fn a'.tmps).run P w'= .ok v w'∧∃v' E',Ending.returned v= .returned v'∧Rel B Xs ⟨E,os,w⟩ w0 ⟨[],os',bs'⟩ E' {tmps:= #[],defers:= []} w'∧r.ok E' os' w' v':=by
  rintro⟨q1,q2,q3,q4⟩;obtain⟨r1,k1⟩:=xW q1;obtain⟨r2,k2⟩:=yD q2;have drop:∀{fr':List AV} {E'':Env},Rel B Xs ⟨E,os,w⟩ w0 ⟨fr',os',bs'⟩ E'' a' w'→Rel B Xs ⟨E,os,w⟩ w0 ⟨[],os',bs'⟩ E'' {tmps:= #[],defers:= []} w':=fun hh=>
   {eb:=hh.eb,ex:=hh.ex,sim:=hh.sim,defers:=rfl,size:=rfl,fr:=fun t y hy=>by simp at hy,olen:=hh.olen,own:=hh.own,blen:=hh.blen,box:=hh.box,nodup:=hh.nodup,lin:=hh.lin,unf:=hh.unf,below:=hh.below,base:=hh.base}
  match rs,q4 with
  | [],q4=>
    obtain⟨E'',hh⟩:=g1.weak (st':=⟨List.replicate st'.fr.length .any,os',bs'⟩) ⟨E8 _,⟨r1,k1⟩,⟨r2,k2⟩,fun xs hx=>List.all_eq_true.1 q3 xs hx⟩ (by simp only;omega) (by simp only;omega);subst q4;exact⟨_,results_none hr _ P w',_,E'',rfl,drop hh,rfl,trivial⟩
  | [.tmp t],q4=>
    obtain⟨E'',hh⟩:=g1.weak (st':=⟨(List.replicate st'.fr.length .any).set t r,os',bs'⟩) ⟨Nl q4.2 _ _ q4.1,⟨r1,k1⟩,⟨r2,k2⟩,fun xs hx=>List.all_eq_true.1 q3 xs hx⟩ (by simp only;omega) (by simp only;omega);refine⟨_,results_tmp hr _ P w',_,E'',rfl,drop hh, ?_⟩;have hlen:t<st'.fr.length∨r= .any:=by
     rcases Nat.lt_or_ge t st'.fr.length with hlt|hge
     ·exact Or.inl hlt
     ·refine Or.inr ?_;rw[← q4.1,List.getD_eq_getElem?_getD,List.getElem?_eq_none hge];rfl
    rcases hlen with hlt|rfl
    ·exact hh.fr t r (by simp only;rw[List.getElem?_set_self (by simpa using hlt)])
    ·trivial
 cases e with
 | normal=>
   obtain⟨v,h3,h4⟩:=fin g2;exact⟨g1.defers,v,h3,h4⟩
 | ret=>
   obtain⟨v,h3,h4⟩:=fin g2;exact⟨g1.defers,v,h3,h4⟩
 |_=>exact g2.elim
section
variable{lo:Nat×Nat}{P:Program}{K:St→Prop}{Q:Exit→St→Prop}{st:St}{m:Bool}
theorem fU{c:Opd}{x y:IC}{b:Bool}(hb:st.ev c= .c false [.raw (.bool b)])(h1:b=true→iT lo P x Q st)(h2:b=false→iT lo P y Q st):iT lo P (.cond c x y) Q st:=FI hb h1 h2
theorem jS{os:List Own}{xs:List AV}{ds:List D}(h:aQ os xs ds):aQ os xs ds:=h
theorem jO{f:Nat}(h:AB P f=true):AB P f=true:=h
theorem Ue{a b:Prop}(h1:a)(h2:b):a∧b:=⟨h1,h2⟩
theorem Y5{d:Option Nat}{f:Nat}{avs:List AV}{rest:List IOp}(h:lD P K d f avs rest st):lD P K d f avs rest st:=h
theorem Xq{d:Option Nat}{f:Nat}{avs:List AV}{rest:List IOp}(h:rZ P m K d f avs rest st):rZ P m K d f avs rest st:=h
theorem NK{d:Option Nat}{x:AV}{avs:List AV}{rest:List IOp}(h:wU P K d x avs rest st):wU P K d x avs rest st:=h
theorem Fq{d:Option Nat}{x:AV}{avs:List AV}{rest:List IOp}(h:uf P m K d x avs rest st):uf P m K d x avs rest st:=h
theorem qV{l:List IOp}(h:sw P K l st):sw P K l st:=h
theorem qY{l:List IOp}(h:sd P m K l st):sd P m K l st:=h
theorem Ad{d:Option Nat}{g:Nat}{w:Bool}{i:I}{rest:List IOp}(hg:gdA st (some (g,w))=some true)(h:sw P K (⟨d,none,i⟩::rest) st):sw P K (⟨d,some (g,w),i⟩::rest) st:=by
 rw[KN,hg];exact h
theorem Ae{d:Option Nat}{g:Nat}{w:Bool}{i:I}{rest:List IOp}(hg:gdA st (some (g,w))=some false)(h:sw P K rest (st.put d (.c false [.raw undef]))):sw P K (⟨d,some (g,w),i⟩::rest) st:=by
 rw[KN,hg];exact h
theorem Ag{d:Option Nat}{g:Nat}{w:Bool}{i:I}{rest:List IOp}(hg:gdA st (some (g,w))=some true)(h:sd P m K (⟨d,none,i⟩::rest) st):sd P m K (⟨d,some (g,w),i⟩::rest) st:=by
 rw[KZ,hg];exact h
theorem Ah{d:Option Nat}{g:Nat}{w:Bool}{i:I}{rest:List IOp}(hg:gdA st (some (g,w))=some false)(h:sd P m K rest (st.put d (.c false [.raw undef]))):sd P m K (⟨d,some (g,w),i⟩::rest) st:=by
 rw[KZ,hg];exact h
theorem qo{g:Nat}{w b:Bool}(h:st.fr.getD g .any= .c false [.raw (.bool b)]):gdA st (some (g,w))=some (b==w):=by
 simp only[gdA,h]
theorem Sj{d:Option Nat}{g:Nat}{w b:Bool}{i:I}{rest:List IOp}(hg:st.fr.getD g .any= .c false [.raw (.bool b)])(h1:b=w→sw P K (⟨d,none,i⟩::rest) st)(h2:b= !w→sw P K rest (st.put d (.c false [.raw undef]))):
 sw P K (⟨d,some (g,w),i⟩::rest) st:=by
 cases b<;>cases w
 ·exact Ad (qo hg) (h1 rfl)
 ·exact Ae (qo hg) (h2 rfl)
 ·exact Ae (qo hg) (h2 rfl)
 ·exact Ad (qo hg) (h1 rfl)
theorem SI{d:Option Nat}{g:Nat}{w b:Bool}{i:I}{rest:List IOp}(hg:st.fr.getD g .any= .c false [.raw (.bool b)])(h1:b=w→sd P m K (⟨d,none,i⟩::rest) st)(h2:b= !w→sd P m K rest (st.put d (.c false [.raw undef]))):
 sd P m K (⟨d,some (g,w),i⟩::rest) st:=by
 cases b<;>cases w
 ·exact Ag (qo hg) (h1 rfl)
 ·exact Ah (qo hg) (h2 rfl)
 ·exact Ah (qo hg) (h2 rfl)
 ·exact Ag (qo hg) (h1 rfl)
end
theorem yE{lo:Nat×Nat}{P:Program}{Q:Exit→St→Prop}{X:Type}{c:IC}{fr0:List AV}{os0:List Own}{bs0:List (List AC)}(sp:X→List Sp)(ow:X→List Own)(bx:X→List (List AC)→List (List AC))(inv:X→Prop)(μ:X→Nat)(x0:X)(h0:inv x0)
 (hlo:∀x,lo.1≤(ow x).length∧lo.2≤(bx x bs0).length) (hle:bU ⟨fr0,os0,bs0⟩ (FB fr0 bs0 sp ow bx x0)) (round:∀x,inv x→iT lo P c (yI (FB fr0 bs0 sp ow bx) inv μ x Q) (FB fr0 bs0 sp ow bx x)):iT lo P (.loop c) Q ⟨fr0,os0,bs0⟩:=
 IU (FB fr0 bs0 sp ow bx) inv μ x0 h0 hlo (Je hle) round
theorem PL{z:Int}(h1: -9223372036854775808≤z)(h2:z≤9223372036854775807):IntKind.i64.wrap z=z:=IntWalk.i64_in _ ⟨h1,h2⟩
theorem YV{α:Type}{a b:Nat}{x y:α}(h:a<b):(if a<b then x else y)=x:=if_pos h
theorem YW{α:Type}{a b:Nat}{x y:α}(h:a≤b):(if a≤b then x else y)=x:=if_pos h
theorem Y3{p:Prop}[Decidable p](h:p):decide p=true:=decide_eq_true h
theorem Y4{p:Prop}[Decidable p](h:¬p):decide p=false:=decide_eq_false h
theorem Za{a b:Int}(h:a=b):(a==b)=true:=by simp[h]
theorem Zb{a b:Int}(h:a≠b):(a==b)=false:=by simp[h]
theorem Y8{a b:Int}(h:a≠b):(a !=b)=true:=by simp[h]
theorem Y9{a b:Int}(h:a=b):(a !=b)=false:=by simp[h]
theorem Ws{l:List D}{k:Nat}(h:k<l.length):idx l (some (k:Int))=some l[k]:=by
 rw[QS,a_ h]
theorem MJ{α:Type}(f:α→D)(l:List α){z:Int}(h0:0≤z)(h:z.toNat<l.length):idx (l.map f) (some z)=some (f l[z.toNat]):=by
 simp only[idx];rw[if_pos h0,D_,a_ h];rfl
theorem PZ{k n:Nat}(h:k≤n):mF none (some (k:Int)) n=some (0,k):=by
 simp[mF,h]
theorem Af{k n:Nat}(h:k≤n):mF (some (k:Int)) none n=some (k,n):=by
 simp[mF,h]
theorem Ho{j k n:Nat}(h:j≤k)(h':k≤n):mF (some (j:Int)) (some (k:Int)) n=some (j,k):=by
 simp only[mF,m_];rw[if_pos (by omega)];simp
theorem KR{n:Nat}(h:1≤n):mF (some (1:Int)) none n=some (1,n):=by
 have:=Af h;simpa using this
theorem KT{n:Nat}:mF none none n=some (0,n):=by
 simp[mF]
section
variable{α:Type}
theorem kW(l ys:List α)(k:Nat):(l++ys)[l.length+k]? =ys[k]? :=by
 rw[z_ (by omega),P_]
theorem kK(l ys:List α):(l++ys)[l.length]? =ys[0]? :=by
 have:=kW l ys 0;simpa using this
theorem mD(l ys:List α)(k:Nat)(y:α):(l++ys).set (l.length+k) y=l++ys.set k y:=by
 rw[List.set_append_right _ _ (by omega),P_]
theorem kJ(l ys:List α)(y:α):(l++ys).set l.length y=l++ys.set 0 y:=by
 simp
end
theorem gU :∀(os:List Own),bH os os
 | []=>trivial
 |o::os=>⟨⟨rfl,rfl,rfl,rfl,rfl⟩,gU os⟩
theorem SS(os:List Own):bH os []:=by cases os<;>trivial
theorem H6 :∀(os:List Own) {r s:List Own} (_:bH r s),bH (os++r) (os++s)
 | [],_,_,h=>h
 |o::os,_,_,h=>⟨⟨rfl,rfl,rfl,rfl,rfl⟩,H6 os h⟩
theorem HY(os r:List Own):bH (os++r) os:=by
 have:=H6 os (SS r);rwa[T_]at this
theorem tK :∀(bs:List (List AC)),bK bs bs
 | []=>trivial
 |b::bs=>⟨rfl,tK bs⟩
theorem TW(bs:List (List AC)):bK bs []:=by cases bs<;>trivial
theorem wQ :∀(bs:List (List AC)) {r s:List (List AC)} (_:bK r s),bK (bs++r) (bs++s)
 | [],_,_,h=>h
 |b::bs,_,_,h=>⟨rfl,wQ bs h⟩
theorem wP(bs r:List (List AC)):bK (bs++r) bs:=by
 have:=wQ bs (TW r);rwa[T_]at this
theorem N9{n m n' m':Nat}(h:n≤n')(h':m≤m'){x:AC}(hx:x.fits n m=true):x.fits n' m'=true:=by
 cases x with
 |own k i=>simp[AC.fits]at hx⊢;omega
 |osub k i a b=>simp[AC.fits]at hx⊢;omega
 | cl f caps=>
   simp only[AC.fits,u_,decide_eq_true_eq]at hx⊢;exact fun k hk=>A_ (hx k hk) h'
 |_=>rfl
def gu(n m:Nat)(bx:List (List AC)):Prop:=(bx.all fun xs=>xs.all (AC.fits n m))=true
theorem Kt{n m:Nat}{bx:List (List AC)}(h:gu n m bx):gu n m bx:=h
theorem gu.mono{n m n' m':Nat}{bx:List (List AC)}(h:gu n m bx)(h1:n≤n')(h2:m≤m'):gu n' m' bx:=by
 simp only[gu,u_]at h⊢;exact fun xs hx x hxx=>N9 h1 h2 (h xs hx x hxx)
theorem NS{P:Program}{f:Nat}{avs avs':List AV}{os os':List Own}{bs bs':List (List AC)}{r:AV}(h:fE P f avs os bs r os' bs')(hle:∀E w vs,mZ E os w avs' vs→mZ E os w avs vs):fE P f avs' os bs r os' bs':=
 fun B Xs G w0 fr E a w vs hR hv=>h B Xs G w0 fr E a w vs hR (hle E w vs hv)
theorem Zu{E:Env}{os:List Own}{w:World}{b:Bool}{v:Value}(h:(AV.c false [.raw (.slice none 0 0)]).ok E os w v):(AV.c false [.sl b []]).ok E os w v:=by
 obtain rfl:=h.1;refine⟨⟨[], ?_,fun b hb=>by simp at hb⟩,trivial⟩;unfold Sl;rw[R];exact⟨none,0,rfl,l_ _,t_ _,r_ ⟨rfl,rfl⟩⟩
theorem pkA :type_of% (aaA @L_.{0,0} (aaA @a_e.{0,0} (aaA @G_.{0} (aaA @S_.{0} (aaA @v_.{0} (aaA @a_r.{0} (aaA @H_.{0,0} (aaA @a_a.{0} (aaA @a_b.{0} (aaA @Q_.{0} (aaA @R_.{0} (aaA @a_f.{0} (aaA @a_g.{0} (aaA @a_c.{0} (aaA @a_u.{0} (aaA @a_d.{0} (aaA @a_v.{0} (aaA @a_w.{0} (aaA @a_x.{0} (aaA @a_C (aaA @a_D (aaA @a_E.{0} (aaA @n_.{0} (aaA @a_y (aaA @a_z (aaA @a_A (aaA @M_ (aaA @K_ (aaA @beq_self_eq_true.{0} (aaA @if_true.{1} (aaA @if_false.{1} (aaA @ite_true.{1} (aaA @ite_false.{1} (aaA @a_h (aaA @true_and (aaA @and_true (aaA @decide_true (aaA @decide_false (aaA @m_.{0} (aaA @a_o.{0} (aaA @l_ (aaA @t_ (aaA @Int.toNat_natCast (aaA @Int.natCast_nonneg (aaA @BEq.rfl.{0} (aaA @U_.{0,0} (aaA @a_s.{0,0} (aaA @Xx (aaA @Xw (aaA @eY (aaA @eX (aaA @dD (aaA @gy (aaA @iI (aaA @bC (aaA @WU (@Q8))))))))))))))))))))))))))))))))))))))))))))))))))))))))):=aaA @L_.{0,0} (aaA @a_e.{0,0} (aaA @G_.{0} (aaA @S_.{0} (aaA @v_.{0} (aaA @a_r.{0} (aaA @H_.{0,0} (aaA @a_a.{0} (aaA @a_b.{0} (aaA @Q_.{0} (aaA @R_.{0} (aaA @a_f.{0} (aaA @a_g.{0} (aaA @a_c.{0} (aaA @a_u.{0} (aaA @a_d.{0} (aaA @a_v.{0} (aaA @a_w.{0} (aaA @a_x.{0} (aaA @a_C (aaA @a_D (aaA @a_E.{0} (aaA @n_.{0} (aaA @a_y (aaA @a_z (aaA @a_A (aaA @M_ (aaA @K_ (aaA @beq_self_eq_true.{0} (aaA @if_true.{1} (aaA @if_false.{1} (aaA @ite_true.{1} (aaA @ite_false.{1} (aaA @a_h (aaA @true_and (aaA @and_true (aaA @decide_true (aaA @decide_false (aaA @m_.{0} (aaA @a_o.{0} (aaA @l_ (aaA @t_ (aaA @Int.toNat_natCast (aaA @Int.natCast_nonneg (aaA @BEq.rfl.{0} (aaA @U_.{0,0} (aaA @a_s.{0,0} (aaA @Xx (aaA @Xw (aaA @eY (aaA @eX (aaA @dD (aaA @gy (aaA @iI (aaA @bC (aaA @WU (@Q8))))))))))))))))))))))))))))))))))))))))))))))))))))))))
theorem pkN :type_of% (aaA @YV (aaA @YW (aaA @Y3 (aaA @Y4 (aaA @Za (aaA @Zb (aaA @Y8 (aaA @Y9 (aaA @yL (aaA @PL (aaA @Ws (aaA @Dt (aaA @MJ (aaA @PZ (aaA @Af (aaA @Ho (aaA @KR (@KT)))))))))))))))))):=aaA @YV (aaA @YW (aaA @Y3 (aaA @Y4 (aaA @Za (aaA @Zb (aaA @Y8 (aaA @Y9 (aaA @yL (aaA @PL (aaA @Ws (aaA @Dt (aaA @MJ (aaA @PZ (aaA @Af (aaA @Ho (aaA @KR (@KT)))))))))))))))))
theorem pkC :type_of% (aaA @decide_eq_true_eq (aaA @decide_eq_false_iff_not (aaA @beq_iff_eq.{0} (aaA @bne_iff_ne.{0} (aaA @ne_eq.{1} (aaA @beq_eq_false_iff_ne.{0} (aaA @bne_eq_false_iff_eq.{0} (aaA @a_m (aaA @a_j (aaA @X_ (aaA @M_ (@K_)))))))))))):=aaA @decide_eq_true_eq (aaA @decide_eq_false_iff_not (aaA @beq_iff_eq.{0} (aaA @bne_iff_ne.{0} (aaA @ne_eq.{1} (aaA @beq_eq_false_iff_ne.{0} (aaA @bne_eq_false_iff_eq.{0} (aaA @a_m (aaA @a_j (aaA @X_ (aaA @M_ (@K_)))))))))))
theorem pkW :type_of% (aaA @Vh (aaA @Qk (aaA @Vt (aaA @Vu (aaA @Vf (aaA @Ql (aaA @Vm (aaA @Vg (aaA @Lr (aaA @Vr (aaA @Vs (aaA @Vl (aaA @Qj (aaA @Ve (aaA @Vo (aaA @Vk (aaA @Vj (aaA @Qm (aaA @Qi (aaA @YR (aaA @Vq (aaA @Vp (aaA @Qo (@Qn)))))))))))))))))))))))):=aaA @Vh (aaA @Qk (aaA @Vt (aaA @Vu (aaA @Vf (aaA @Ql (aaA @Vm (aaA @Vg (aaA @Lr (aaA @Vr (aaA @Vs (aaA @Vl (aaA @Qj (aaA @Ve (aaA @Vo (aaA @Vk (aaA @Vj (aaA @Qm (aaA @Qi (aaA @YR (aaA @Vq (aaA @Vp (aaA @Qo (@Qn)))))))))))))))))))))))
theorem pkS :type_of% (aaA @Uz (aaA @UC (aaA @UA (aaA @PW (aaA @KO (aaA @UD (aaA @KL (aaA @PX (@YP))))))))):=aaA @Uz (aaA @UC (aaA @UA (aaA @PW (aaA @KO (aaA @UD (aaA @KL (aaA @PX (@YP))))))))
theorem pkD :type_of% (aaA @VB (aaA @Qs (aaA @VN (aaA @VO (aaA @Vz (aaA @Qu (aaA @VG (aaA @VA (aaA @LD (aaA @VK (aaA @LC (aaA @Qw (aaA @VL (aaA @VF (aaA @Qr (aaA @Vy (aaA @VH (aaA @VE (aaA @VD (aaA @Qv (aaA @Qq (aaA @YS (aaA @VJ (aaA @VI (aaA @Qy (aaA @Qx (aaA @WZ (aaA @Rh (aaA @Xi (aaA @Xj (aaA @WX (aaA @Ri (aaA @Xc (aaA @WY (aaA @NG (aaA @Xg (aaA @ND (aaA @Rk (aaA @Xh (aaA @Xb (aaA @Rf (aaA @WW (aaA @Xd (aaA @Xa (aaA @W9 (aaA @Rj (aaA @Q9 (aaA @Y1 (aaA @Xf (aaA @Xe (aaA @Ro (aaA @Rn (aaA @Rl (aaA @uy (@uz))))))))))))))))))))))))))))))))))))))))))))))))))))))):=aaA @VB (aaA @Qs (aaA @VN (aaA @VO (aaA @Vz (aaA @Qu (aaA @VG (aaA @VA (aaA @LD (aaA @VK (aaA @LC (aaA @Qw (aaA @VL (aaA @VF (aaA @Qr (aaA @Vy (aaA @VH (aaA @VE (aaA @VD (aaA @Qv (aaA @Qq (aaA @YS (aaA @VJ (aaA @VI (aaA @Qy (aaA @Qx (aaA @WZ (aaA @Rh (aaA @Xi (aaA @Xj (aaA @WX (aaA @Ri (aaA @Xc (aaA @WY (aaA @NG (aaA @Xg (aaA @ND (aaA @Rk (aaA @Xh (aaA @Xb (aaA @Rf (aaA @WW (aaA @Xd (aaA @Xa (aaA @W9 (aaA @Rj (aaA @Q9 (aaA @Y1 (aaA @Xf (aaA @Xe (aaA @Ro (aaA @Rn (aaA @Rl (aaA @uy (@uz))))))))))))))))))))))))))))))))))))))))))))))))))))))
theorem pkR :type_of% (aaA @UR (aaA @UW (aaA @UU (aaA @Jk (aaA @La (aaA @U0 (aaA @UY (@UZ)))))))):=aaA @UR (aaA @UW (aaA @UU (aaA @Jk (aaA @La (aaA @U0 (aaA @UY (@UZ)))))))
def AC.ren(pk:List Nat):AC→AC
 | .own k i=> .own (pk.getD k 0) i
 | .osub k i a b=> .osub (pk.getD k 0) i a b
 |x=>x
def AV.ren(pk:List Nat):AV→AV
 | .c g xs=> .c g (xs.map (AC.ren pk))
 | .ptr xs=> .ptr (xs.map (AC.ren pk))
 | .eptr k i j off=> .eptr (pk.getD k 0) i j off
 | .tup ys=> .tup (ys.map fun y=>(y.1,y.2.map (AC.ren pk)))
 |x=>x
def Ce(pk:List Nat)(n m:Nat):List AV→List AV→Prop
 | [],[]=>True
 |x::xs,y::ys=>(y= .any∨(x=y.ren pk∧y.fits n m=true))∧Ce pk n m xs ys
 |_,_=>False
def Bf(os:List Own):List Nat→List Own→Prop
 | [],[]=>True
 |k::pk,o'::os'=>(match os[k]? with|some o=>o.l=o'.l∧o.e=o'.e∧o.s=o'.s∧o.ver=o'.ver∧o.nw=o'.nw|none=>False)∧Bf os pk os'
 |_,_=>False
def yG(pk:List Nat):List (List AC)→List (List AC)→Prop
 |_,[]=>True
 |x::xs,y::ys=>x=y.map (AC.ren pk)∧yG pk xs ys
 | [],_::_=>False
def zJ(pk:List Nat)(st st':St):Prop:=pk.Nodup∧Ce pk st'.owns.length st'.boxes.length st.fr st'.fr∧Bf st.owns pk st'.owns∧yG pk st.boxes st'.boxes∧(st'.boxes.all fun xs=>xs.all (AC.fits st'.owns.length st'.boxes.length))=true
theorem Ed{os:List Own}:∀{pk:List Nat} {os':List Own},Bf os pk os'→pk.length=os'.length∧∀(j:Nat) (o':Own),os'[j]? =some o'→∃k,pk[j]? =some k∧os[k]? =some o'
 | [],[],_=>⟨rfl,fun j o' h=>by simp at h⟩
 | k ::pk,o'::os',h=>by
   obtain⟨h1,h2⟩:=Ed h.2;refine⟨by simp[h1],fun j o'' g=> ?_⟩;cases j with
   | zero=>
     simp at g;subst g;have h3:=h.1;split at h3
     ·next o ho=>
      refine⟨k,rfl, ?_⟩;rw[ho];congr 1;cases o;cases o';simp_all
     ·exact h3.elim
   |succ j=>simpa using h2 j o'' (by simpa using g)
 | [],_::_,h=>h.elim
 |_::_,[],h=>h.elim
theorem FC{pk:List Nat}:∀{xs ys:List (List AC)},yG pk xs ys→ys.length≤xs.length∧∀(j:Nat) (y:List AC),ys[j]? =some y→xs[j]? =some (y.map (AC.ren pk))
 |xs,[],_=>⟨t_ _,fun j y h=>by simp at h⟩
 | x::xs,y::ys,h=>by
   obtain⟨h1,h2⟩:=FC h.2;refine⟨by simp;exact h1,fun j z g=> ?_⟩;cases j with
   |zero=>simp at g;subst g;simp[h.1]
   |succ j=>simpa using h2 j z (by simpa using g)
 | [],_::_,h=>h.elim
theorem Ip{pk:List Nat}{n m:Nat}:∀{xs ys:List AV},Ce pk n m xs ys→xs.length=ys.length∧∀(t:Nat) (y:AV),ys[t]? =some y→y= .any∨(xs[t]? =some (y.ren pk)∧y.fits n m=true)
 | [],[],_=>⟨rfl,fun t y h=>by simp at h⟩
 | x ::xs,y::ys,h=>by
   obtain⟨h1,h2⟩:=Ip h.2;refine⟨by simp[h1],fun t z hz=> ?_⟩;cases t with
   | zero=>
     simp at hz;subst hz;rcases h.1 with h'|⟨h',h''⟩
     ·exact r_ h'
     ·exact o_ ⟨by simp[h'],h''⟩
   |succ t=>simpa using h2 t z (by simpa using hz)
 | [],_::_,h=>h.elim
 |_::_,[],h=>h.elim
def Env.pick(E:Env)(pk:List Nat)(m:Nat):Env:={E with om:=pk.map fun k=>E.om.getD k (undef,[]),bm:=E.bm.take m}
theorem WO :∀(L:List (Value×List Nat)) (i j:Nat) (p q:Value×List Nat) (b:Nat),(L.flatMap (fun p=>p.1.ownBlock.toList)).Nodup→L[i]? =some p→L[j]? =some q→p.1.ownBlock=some b→q.1.ownBlock=some b→i=j:=by
 intro L
 induction L with
 |nil=>intro i j p q b _ hi;simp at hi
 | cons z L ih=>
   intro i j p q b hn hi hj hpb hqb;rw[E_,q_]at hn;cases i with
   | zero=>
     cases j with
     |zero=>rfl
     | succ j=>
       simp at hi hj;subst hi;exact absurd rfl (hn.2.2 b (by simp[hpb]) b (j_.2 ⟨q,f_ hj,by simp[hqb]⟩))
   | succ i=>
     cases j with
     | zero=>
       simp at hi hj;subst hj;exact absurd rfl (hn.2.2 b (by simp[hqb]) b (j_.2 ⟨p,f_ hi,by simp[hpb]⟩))
     | succ j=>
       simp at hi hj;rw[ih i j p q b hn.2.1 hi hj hpb hqb]
theorem Ea{L:List (Value×List Nat)}{pk:List Nat}(hlt:∀k∈pk,k<L.length){b:Nat}(hb:b∈(pk.map fun k=>L.getD k (undef,[])).flatMap fun p=>p.1.ownBlock.toList):∃k∈pk,∃p,L[k]? =some p∧p.1.ownBlock=some b:=by
 obtain⟨q,hq,hqb⟩:=j_.1 hb;obtain⟨k,hk,rfl⟩:=h_.1 hq;have hkl:=hlt k hk;rw[c_,a_ hkl]at hqb;exact⟨k,hk,L[k],a_ hkl,by simpa using hqb⟩
theorem D9{L:List (Value×List Nat)}(hL:(L.flatMap (fun p=>p.1.ownBlock.toList)).Nodup):∀{pk:List Nat},pk.Nodup→(∀k∈pk,k<L.length)→((pk.map fun k=>L.getD k (undef,[])).flatMap fun p=>p.1.ownBlock.toList).Nodup
 | [],_,_=>J_
 | k::pk,hn,hlt=>by
   rw[a_p]at hn;rw[L_,E_,q_];refine⟨by cases(L.getD k (undef,[])).1.ownBlock<;>simp,D9 hL hn.2 (fun j hj=>hlt j (by simp[hj])),fun x hx y hy e=> ?_⟩;subst e;obtain⟨j,hj,p,g1,g2⟩:=Ea (fun j hj=>hlt j (by simp[hj])) hy;have hkl:=hlt k (by simp);rw[c_,a_ hkl]at hx;have:=WO L k j L[k] p x hL (a_ hkl) g1 (by simpa using hx) g2;subst this;exact hn.1 hj
section
variable{B:Nat}{Xs:List Nat}{G:Org}{w0:World}{st st':St}{E:Env}{a:Act}{w:World}{pk:List Nat}{m:Nat}{os os':List Own}
theorem Jt(hlt:∀k∈pk,k<E.om.length){b:Nat}(h:b∈(E.pick pk m).M):b∈E.M:=by
 unfold Env.M at h⊢;rcases s_.1 h with h|h
 ·refine y_ _ ?_;exact((w_ m E.bm).map _).subset h
 ·refine x_ _ ?_;obtain⟨k,hk,p,g1,g2⟩:=Ea hlt h;exact j_.2 ⟨p,f_ g1,by simp[g2]⟩
theorem wo{j k:Nat}(hk:pk[j]? =some k){p:Value×List Nat}(hp:E.om[k]? =some p):(E.pick pk m).om[j]? =some p:=by
 simp only[Env.pick,D_,hk,U_,c_,hp,m_]
theorem AC.ok.pick(hlt:∀k∈pk,k<E.om.length)(hl:pk.length=os'.length)(ho:∀(j:Nat) (o':Own),os'[j]? =some o'→∃k,pk[j]? =some k∧os[k]? =some o'){x:AC}{v:Value}(h:(x.ren pk).ok E os w v)(hf:x.fits os'.length m=true):x.ok (E.pick pk m) os' w v:=by
 cases x with
 |any=>trivial
 |raw u=>exact h
 | cl f caps=>
   obtain⟨ps,h1,h2⟩:=h;refine⟨ps, ?_,h2⟩;rw[← h1];refine Z_ fun k hk=> ?_
   have:k<m:=by simpa using u_.1 hf k hk
   simp only[Env.pick];rw[d_,if_pos this]
 | sl b l=>
   obtain⟨fp,h1,h2⟩:=h;exact⟨fp,h1,fun b hb=>⟨fun hm=>(h2 b hb).1 (Jt hlt hm),(h2 b hb).2⟩⟩
 | own k i=>
   obtain⟨hv,o,p,h1,h2,h3,h4⟩:=h;have hk:k<os'.length:=by simpa[AC.fits]using hf
   obtain⟨k0,g1,g2⟩:=ho k _ (a_ hk);have e:pk.getD k 0=k0:=by rw[c_,g1];rfl
   rw[e]at h1 h2;rw[h1]at g2;injection g2 with g2
   exact⟨hv,o,p,by rw[a_ hk,← g2],wo g1 h2,h3,h4⟩
 | osub k i pa pb=>
   obtain⟨hv,o,p,h1,h2,h3,h4⟩:=h;have hk:k<os'.length:=by simpa[AC.fits]using hf
   obtain⟨k0,g1,g2⟩:=ho k _ (a_ hk);have e:pk.getD k 0=k0:=by rw[c_,g1];rfl
   rw[e]at h1 h2;rw[h1]at g2;injection g2 with g2
   exact⟨hv,o,p,by rw[a_ hk,← g2],wo g1 h2,h3,h4⟩
theorem Oks.pick(hlt:∀k∈pk,k<E.om.length)(hl:pk.length=os'.length)(ho:∀(j:Nat) (o':Own),os'[j]? =some o'→∃k,pk[j]? =some k∧os[k]? =some o'):∀{xs:List AC} {vs:List Value},Oks E os w (xs.map (AC.ren pk)) vs→xs.all (AC.fits os'.length m)=true→Oks (E.pick pk m) os' w xs vs
 | [],[],_,_=>trivial
 | x::xs,v::vs,h,hf=>by
   simp only[n_,e_]at hf;exact⟨AC.ok.pick hlt hl ho h.1 hf.1,Oks.pick hlt hl ho h.2 hf.2⟩
 | [],_::_,h,_=>h.elim
 |_::_,[],h,_=>h.elim
theorem Gok.pick(hlt:∀k∈pk,k<E.om.length)(hl:pk.length=os'.length)(ho:∀(j:Nat) (o':Own),os'[j]? =some o'→∃k,pk[j]? =some k∧os[k]? =some o'){g:Bool}{xs:List AC}{v:Value}(h:Gok E os w g (xs.map (AC.ren pk)) v)(hf:xs.all (AC.fits os'.length m)=true):Gok (E.pick pk m) os' w g xs v:=by
 cases g with
 |true=>obtain⟨vs,h1,h2⟩:=h;exact⟨vs,h1,h2.pick hlt hl ho hf⟩
 |false=>exact Oks.pick hlt hl ho (show Oks _ _ _ _ [v] from h) hf
theorem qP.pick(hlt:∀k∈pk,k<E.om.length)(hl:pk.length=os'.length)(ho:∀(j:Nat) (o':Own),os'[j]? =some o'→∃k,pk[j]? =some k∧os[k]? =some o'):∀{ys:List (Bool×List AC)} {vs:List Value},qP E os w (ys.map fun y=>(y.1,y.2.map (AC.ren pk))) vs→(ys.all fun y=>y.2.all (AC.fits os'.length m))=true→qP (E.pick pk m) os' w ys vs
 | [],[],_,_=>trivial
 | y::ys,v::vs,h,hf=>by
   simp only[n_,e_]at hf;exact⟨Gok.pick hlt hl ho h.1 hf.1,qP.pick hlt hl ho h.2 hf.2⟩
 | [],_::_,h,_=>h.elim
 |_::_,[],h,_=>h.elim
theorem AV.ok.pick(hlt:∀k∈pk,k<E.om.length)(hl:pk.length=os'.length)(ho:∀(j:Nat) (o':Own),os'[j]? =some o'→∃k,pk[j]? =some k∧os[k]? =some o'){x:AV}{v:Value}(h:(x.ren pk).ok E os w v)(hf:x.fits os'.length m=true):x.ok (E.pick pk m) os' w v:=by
 cases x with
 |any=>trivial
 |c g xs=>exact Gok.pick hlt hl ho h hf
 | ptr xs=>
   obtain⟨b,o,vs,h1,h2,h3,h4,h5⟩:=h;exact⟨b,o,vs,h1,h2,fun hm=>h3 (Jt hlt hm),h4,h5.pick hlt hl ho hf⟩
 | bptr k off=>
   obtain⟨p,h1,h2⟩:=h;refine⟨p, ?_,h2⟩;simp only[Env.pick];rw[d_,if_pos (by simpa[AV.fits]using hf)];exact h1
 | eptr k i j off=>
   obtain⟨o,p,h1,h2,h3,h4⟩:=h;have hk:k<os'.length:=by simpa[AV.fits]using hf
   obtain⟨k0,g1,g2⟩:=ho k _ (a_ hk);have e:pk.getD k 0=k0:=by rw[c_,g1];rfl
   rw[e]at h1 h2;rw[h1]at g2;injection g2 with g2
   exact⟨o,p,by rw[a_ hk,← g2],wo g1 h2,h3,h4⟩
 | tup ys=>
   obtain⟨vs,h1,h2⟩:=h;exact⟨vs,h1,h2.pick hlt hl ho hf⟩
theorem Rel.Ur(h:Rel B Xs G w0 st E a w)(hle:zJ pk st st')(hG1:G.os.length=0)(hG2:G.E.bm.length≤st'.boxes.length):∃E',Rel B Xs G w0 st' E' a w:=by
 obtain⟨hnd,h1,h2,h3,h4⟩:=hle;obtain⟨hl,hf⟩:=Ip h1;obtain⟨hpl,ho⟩:=Ed h2;obtain⟨hbl,hb⟩:=FC h3;have hol:=h.olen;have hbl':=h.blen;have hlt:∀k∈pk,k<E.om.length:=fun k hk=>by
  obtain⟨j,hj⟩:=W_.1 hk;have hjl:j<st'.owns.length:=by rw[← hpl];exact(b_.1 hj).1
  obtain⟨k',g1,g2⟩:=ho j _ (a_ hjl);rw[hj]at g1;injection g1 with g1
  subst g1;rw[hol];exact(b_.1 g2).1
 have hnil:G.os= []:=List.eq_nil_of_length_eq_zero hG1;refine⟨E.pick pk st'.boxes.length, ?_⟩;exact
  { eb :=h.eb
    ex:=h.ex
    sim := { base:=h.sim.base,size:=h.sim.size,blk:=h.sim.blk,old:=fun b hb hm=>h.sim.old b hb (Jt hlt hm),
             own:=fun k o p g1 g2=>by rw[hnil]at g1;simp at g1
             box:=fun k p g=>by
              have hk:k<st'.boxes.length:=A_ (b_.1 g).1 hG2;simp only[Env.pick];rw[d_,if_pos hk];exact h.sim.box k p g}
    defers:=h.defers
    size:=by rw[h.size];exact hl
    fr:=fun t y hy=>by
     rcases hf t y hy with rfl|⟨h5,h6⟩
     ·trivial
     ·exact AV.ok.pick hlt hpl ho (h.fr t _ h5) h6
    olen:=by simp only[Env.pick,H_];exact hpl
    own:=fun k o p g1 g2=>by
     obtain⟨k0,q1,q2⟩:=ho k o g1;have hk0:k0<E.om.length:=hlt k0 (f_ q1);have hp:E.om[k0]? =some p:=by
      have:=wo (m:=st'.boxes.length) q1 (a_ hk0);rw[this]at g2;rw[a_ hk0];exact g2
     obtain⟨cs,h5,h6,h7,h8⟩:=h.own k0 o p q2 hp;exact⟨cs,h5,h6,h7,fun b hb=>⟨fun hm=>(h8 b hb).1 (Jt hlt hm),(h8 b hb).2⟩⟩
    blen:=by simp only[Env.pick,N_];omega
    box:=fun k xs p g1 g2=>by
     have hk:k<st'.boxes.length:=(b_.1 g1).1;simp only[Env.pick]at g2;rw[d_,if_pos hk]at g2;obtain⟨h5,vs,h6,h7⟩:=h.box k _ p (hb k xs g1) g2;exact⟨h5,vs,h6,h7.pick hlt hpl ho (u_.1 h4 xs (f_ g1))⟩
    nodup:=by
     have:=h.nodup;unfold Env.M at this⊢;rw[q_]at this⊢;refine⟨this.1.sublist (by simp only[Env.pick];exact(w_ _ _).map _),D9 this.2.1 hnd hlt,fun x hx y hy=> ?_⟩;refine this.2.2 x ?_ y ?_
     ·exact((w_ st'.boxes.length E.bm).map _).subset hx
     ·obtain⟨k,hk,p,g1,g2⟩:=Ea hlt hy;exact j_.2 ⟨p,f_ g1,by simp[g2]⟩
    lin:=by
     have hpl':pk.length=st'.owns.length:=hpl;refine h.lin.map (fun j=>pk.getD j 0) (fun i j hij hi hj e=>hij ?_) fun j o p g1 g2 g3=> ?_
     ·have hi':i<pk.length:=by omega
      have hj':j<pk.length:=by omega
      simp only[c_,a_ hi',a_ hj',m_]at e;exact(a_n hnd).1 e
     ·obtain⟨k0,q1,q2⟩:=ho j o g1;have hk0:k0<E.om.length:=hlt k0 (f_ q1);have hp:E.om[k0]? =some p:=by
       have:=wo (m:=st'.boxes.length) q1 (a_ hk0);rw[this]at g2;rw[a_ hk0];exact g2
      refine o_ ⟨o, ?_, ?_,g3⟩
      ·rw[c_,q1];exact q2
      ·rw[c_,q1];exact hp
    unf:=by
     refine h.unf.map (fun j=>pk.getD j 0) fun j o p g1 g2 g3=> ?_
     obtain⟨k0,q1,q2⟩:=ho j o g1;have hk0:k0<E.om.length:=hlt k0 (f_ q1);have hp:E.om[k0]? =some p:=by
      have:=wo (m:=st'.boxes.length) q1 (a_ hk0);rw[this]at g2;rw[a_ hk0];exact g2
     refine o_ ⟨o, ?_, ?_,g3⟩
     ·rw[c_,q1];exact q2
     ·rw[c_,q1];exact hp
    below:=h.below
    base:=h.base}
end
def zX{X:Type}(F:X→St)(inv:X→Prop)(μ:X→Nat)(x:X)(Q:Exit→St→Prop):Exit→St→Prop
 | .normal,st=>∃x' pk,zJ pk st (F x')∧inv x'∧μ x'<μ x
 |e,st=>Q e st
section
variable{P:Program}{Q:Exit→St→Prop}{st:St}{i:Nat}
theorem eF{X:Type}{F:X→St}{inv:X→Prop}{μ:X→Nat}{x:X}(h:Q (.exit i) st):zX F inv μ x Q (.exit i) st:=h
theorem fH{X:Type}{F:X→St}{inv:X→Prop}{μ:X→Nat}{x:X}(h:Q .ret st):zX F inv μ x Q .ret st:=h
theorem U3{X:Type}{F:X→St}{inv:X→Prop}{μ:X→Nat}{x:X}(x':X)(pk:List Nat)(h1:zJ pk st (F x'))(h2:inv x')(h3:μ x'<μ x):zX F inv μ x Q .normal st:=⟨x',pk,h1,h2,h3⟩
theorem Pq{X:Type}{c:IC}(F:X→St)(inv:X→Prop)(μ:X→Nat)(x0:X)(pk0:List Nat)(h0:inv x0)(hle:zJ pk0 st (F x0))(round:∀x,inv x→AWP P c (zX F inv μ x Q) (F x)):AWP P (.loop c) Q st:=fun code hc B Xs G w0 hG E a w hR=>by
 have hG1:G.os.length=0:=Nat.le_zero.1 hG.1;have hG2:∀x,G.E.bm.length≤(F x).boxes.length:=fun x=>p_ hG.2 (t_ _)
 cases code with
 | loop cc=>
   simp only[ak]at hc;obtain⟨c',hcc,he⟩:=i_.1 hc;simp only[IC.loop.injEq]at he;subst he;obtain⟨E',hR'⟩:=hR.Ur hle hG1 (hG2 _);refine Hl (fun n a w=>∃x E,μ x=n∧inv x∧Rel B Xs G w0 (F x) E a w) (μ x0) ⟨x0,E',rfl,h0,hR'⟩ ?_;rintro n a w ⟨x,E,rfl,hx,hR⟩;refine wp_mono (round x hx cc hcc B Xs G w0 hG E a w hR) ?_;rintro e a' w' ⟨st',E',h1,h2⟩;cases e with
   | normal=>
     obtain⟨x',pk,h3,h4,h5⟩:=h2;obtain⟨E'',h6⟩:=h1.Ur h3 hG1 (hG2 _);exact⟨μ x',h5,x',E'',rfl,h4,h6⟩
   |_=>exact⟨st',E',h1,h2⟩
 |region id cops b=>exact(oh hc (by simp) (by simp)).elim
 |block id x=>simp[ak]at hc
 |cond c x y=>simp only[ak]at hc;split at hc<;>simp at hc
 |seq x y=>simp only[ak]at hc;split at hc<;>simp at hc
 |ret=>simp[ak]at hc
 |exit id=>simp[ak]at hc
 |skip=>simp[ak]at hc
 |label l=>simp[ak]at hc
 |rangeFunc=>simp[ak]at hc
 |scope=>simp[ak]at hc
 |goto=>simp[ak]at hc
 |refuse=>simp[ak]at hc
theorem Ua{X:Type}{c:IC}{fr0:List AV}{os0:List Own}{bs0:List (List AC)}(sp:X→List Sp)(ow:X→List Own)(bx:X→List (List AC)→List (List AC))(inv:X→Prop)(μ:X→Nat)(x0:X)(pk0:List Nat)(h0:inv x0)
 (hle:zJ pk0 ⟨fr0,os0,bs0⟩ (FB fr0 bs0 sp ow bx x0)) (round:∀x,inv x→AWP P c (zX (FB fr0 bs0 sp ow bx) inv μ x Q) (FB fr0 bs0 sp ow bx x)):AWP P (.loop c) Q ⟨fr0,os0,bs0⟩:=
 Pq (FB fr0 bs0 sp ow bx) inv μ x0 pk0 h0 hle round
end
def XO(t:Nat)(l:List D)(e s:Nat)(st:St):Prop:=aao t l e s st∨(st.fr.getD t .any= .c false [.raw (.slice none 0 0)]∧l= [])
theorem tJ{P:Program}{f:Nat}{fn:Func}{code:Code}{ic:IC}{ds:List D}{t:Nat}{l:List D}{e s:Nat}(hf:P.funcs[f]? =some fn:=by kernel_rfl)(hb:fn.body=some code:=by kernel_rfl)(hr:fn.results= #[.tmp t]:=by kernel_rfl)(hc:ak P code=some ic)
 (h:AWP P ic (yJ (XO t l e s)) (st0 fn.ntmps ds)):dU P f ds l e s:=by
 refine nG (post:=fun w e' w'=>qI false l e s w e' w') hf hb hc h ?_;rintro G w w' st E a hR (⟨k,i,o,h1,h2⟩|⟨h1,rfl⟩)
 ·obtain⟨hv,_⟩:=pY hR h1;obtain⟨cs,f',h3,h4,h5⟩:=LH hR hv ⟨o,h2⟩;exact⟨_,results_tmp hr a.tmps P w',_,cs,f',rfl,h3,h4,h5,hR.below.out⟩
 ·obtain⟨hv,_⟩:=pY hR h1;have hv':a.tmps.getD t undef= .slice none 0 0:=hv;exact⟨_,results_tmp hr a.tmps P w',.slice none 0 0,[],[],congrArg Ending.returned hv',aK.nil,⟨rfl,rfl⟩,fun b hb=>by simp at hb,hR.below.out⟩
theorem Fe{t k i:Nat}{l:List D}{e s:Nat}{st:St}{o:Own}(h1:st.fr.getD t .any= .c false [.own k i])(h2:st.owns[k]? =some o)(h3:o.ver=i)(h4:o.l=l)(h5:o.e=e)(h6:o.s=s)(h7:o.nw.n=true∨lC l):yJ (XO t l e s) .ret st:=r_ ⟨k,i,o,h1,h2,h3,h4,h5,h6,h7⟩
theorem WT{t:Nat}{e s:Nat}{st:St}(h1:st.fr.getD t .any= .c false [.raw (.slice none 0 0)]):yJ (XO t [] e s) .ret st:=o_ ⟨h1,rfl⟩
section
variable{B H:Nat}{X:List Nat}{bm0:List (Nat×TypeId)}{G:Org}{w0:World}{st:St}{E:Env}{a:Act}{w:World}{pk:List Nat}{os':List Own}
structure OutAt (B H:Nat) (X:List Nat) (bm0:List (Nat×TypeId)) (E:Env) (pk:List Nat) (os:List Own) (os':List Own):Prop where
 nw:∀x,E.nw x→H≤x∨x∈X
 own:∀(k:Nat) (p:Value×List Nat) (x:Nat),E.om[k]? =some p→p.1.ownBlock=some x→H≤x
 bm:∀q:Nat×TypeId,q∈bm0→∃k':Nat,E.bm[k']? =some q
 get:∀(j k:Nat),pk[j]? =some k→∃o',os'[j]? =some o'
 lt:∀k∈pk,k<E.om.length
end
section
variable{P:Program}{f:Nat}{fn:Func}{code:Code}{ic:IC}{ds:List D}
end
section
variable{P:Program}{B:Nat}{Xs:List Nat}{G:Org}{w0:World}{fr:List AV}{os:List Own}{bs:List (List AC)}{E:Env}{a:Act}{w w':World}
theorem Kw{t:Bool}:∀{xs:List AC} {ds:List D} {vs:List Value},iP [] xs=some ds→(t=true→xs.all AC.nw=true)→Oks E os w xs vs→∃fp,Rs w ds fp vs∧∀b∈fp,b<w.heap.size∧b∉E.M∧(t=true→E.nw b)
 | [],ds,[],hd,_,_=>by
   injection hd with hd
   subst hd;exact⟨[],⟨rfl,rfl⟩,fun b hb=>by simp at hb⟩
 | x::xs,ds,v::vs,hd,hn,hx=>by
   rw[iP]at hd;split at hd
   ·next d ds' h1 h2=>
    injection hd with hd
    subst hd;have h1':x.toD=some d:=by cases x<;>simp_all [kV]
    obtain⟨_,_,f1,r1,m1⟩:=toD_ok h1' hx.1;obtain⟨f2,r2,m2⟩:=Kw h2 (fun e=>by have:=hn e;simp only[n_,e_]at this;exact this.2) hx.2;refine⟨f1++f2,⟨f1,f2,[v],vs,rfl,rfl,r1,r2⟩,fun b hb=> ?_⟩;rcases s_.1 hb with hb|hb
    ·exact⟨R.lt r1 b hb,(m1 b hb).1,fun e=>(m1 b hb).2 (by have:=hn e;simp only[n_,e_]at this;exact this.1)⟩
    ·exact m2 b hb
   ·cases hd
 | [],_,_::_,_,_,h=>h.elim
 |_::_,_,[],_,_,h=>h.elim
theorem aaj{t:Bool}{x:AV}{dd:D}{v:Value}(hd:lF [] x dd)(hn:t=true→x.nw=true)(hx:x.ok E os w v):∃F,RdF w F dd v∧∀b∈F,b<w.heap.size∧b∉E.M∧(t=true→E.nw b):=by
 cases x with
 | c g xs=>
   obtain⟨h1,rfl⟩:=hd;unfold RdF;cases hg:dd.isAgg with
   | true=>
     rw[hg]at hx;obtain⟨vs,h2,h3⟩:=hx;obtain⟨fp,h4,h5⟩:=Kw h1 hn h3;exact⟨fp,by rw[if_pos rfl];exact⟨fp,vs,h2,lM.2 h4,fun b hb=>hb⟩,h5⟩
   | false=>
     rw[hg]at hx;obtain⟨fp,h4,h5⟩:=Kw h1 hn (show Oks E os w xs [v] from hx);exact⟨fp,by rw[if_neg (by simp)];exact⟨fp,lM.2 h4,fun b hb=>hb⟩,h5⟩
 |any=>exact hd.elim
 |ptr _=>exact hd.elim
 |bptr _ _=>exact hd.elim
 |eptr _ _ _ _=>exact hd.elim
 |tup _=>exact hd.elim
theorem Py{t:Bool}:∀{xs:List AV} {ds:List D} {vs:List Value},aQ [] xs ds→(t=true→xs.all AV.nw=true)→mZ E os w xs vs→∃F,Bc w F ds vs∧∀b∈F,b<w.heap.size∧b∉E.M∧(t=true→E.nw b)
 | [],[],[],_,_,_=>⟨[],trivial,fun b hb=>by simp at hb⟩
 | x::xs,d::ds,v::vs,hd,hn,hv=>by
   obtain⟨F1,h1,h2⟩:=aaj hd.1 (fun e=>by have:=hn e;simp only[n_,e_]at this;exact this.1) hv.1;obtain⟨F2,h3,h4⟩:=Py hd.2 (fun e=>by have:=hn e;simp only[n_,e_]at this;exact this.2) hv.2;refine⟨F1++F2,⟨h1.mono (fun b hb=>y_ _ hb),h3.mono (fun b hb=>x_ _ hb)⟩,fun b hb=> ?_⟩;rcases s_.1 hb with hb|hb
   ·exact h2 b hb
   ·exact h4 b hb
 | [],_::_,_,hd,_,_=>hd.elim
 |_::_,[],_,hd,_,_=>hd.elim
 | [],[],_::_,_,_,hv=>hv.elim
 |_::_,_::_,[],_,_,hv=>hv.elim
def AC.oD :AC→Bool
 | .raw _=>true
 | .any=>true
 | .sl n _=>n
 |_=>false
def AV.oD :AV→Bool
 | .any=>true
 | .c _ xs=>xs.all AC.oD
 | .tup ys=>ys.all fun y=>y.2.all AC.oD
 |_=>false
theorem Zp{F:List Nat}{t:Bool}{st:St}(h:Rel B Xs G w0 st E a w)(hF:∀b∈F,b∉E.M∧(t=true→E.nw b)){x:AC}{v:Value}(ho:x.oD=true)(hx:x.ok (lJ w.heap.size F) [] w' v):(x.fl t).ok E st.owns w' v:=by
 cases x with
 |any=>trivial
 |raw u=>exact hx
 | sl n l=>
   obtain rfl:n=true:=ho;obtain⟨fp,h1,h2⟩:=hx;refine⟨fp,h1,fun b hb=>⟨fun hm=> ?_,fun e=> ?_⟩⟩
   ·rcases Ee.1 (h2 b hb).1 with h3|h3
    ·have:=(yF h hm).2;omega
    ·exact(hF b h3).1 hm
   ·rcases Ee.1 (h2 b hb).1 with h3|h3
    ·exact h.xu (p_ h.base h3)
    ·exact(hF b h3).2 e
 |own k i=>simp[AC.oD]at ho
 |osub k i a b=>simp[AC.oD]at ho
 |cl f caps=>simp[AC.oD]at ho
theorem Jw{F:List Nat}{t:Bool}{st:St}(h:Rel B Xs G w0 st E a w)(hF:∀b∈F,b∉E.M∧(t=true→E.nw b)):∀{xs:List AC} {vs:List Value},xs.all AC.oD=true→Oks (lJ w.heap.size F) [] w' xs vs→Oks E st.owns w' (xs.map (AC.fl t)) vs
 | [],[],_,_=>trivial
 | x::xs,v::vs,ho,hx=>by
   simp only[n_,e_]at ho;exact⟨Zp h hF ho.1 hx.1,Jw h hF ho.2 hx.2⟩
 | [],_::_,_,hx=>hx.elim
 |_::_,[],_,hx=>hx.elim
theorem Yg{F:List Nat}{t:Bool}{st:St}(h:Rel B Xs G w0 st E a w)(hF:∀b∈F,b∉E.M∧(t=true→E.nw b)){r:AV}{v:Value}(ho:r.oD=true)(hx:r.ok (lJ w.heap.size F) [] w' v):(r.fl t).ok E st.owns w' v:=by
 have key:∀{g:Bool} {xs:List AC} {v:Value},xs.all AC.oD=true→Gok (lJ w.heap.size F) [] w' g xs v→Gok E st.owns w' g (xs.map (AC.fl t)) v:=by
  intro g xs v hx hv;cases g with
  |true=>obtain⟨vs,h1,h2⟩:=hv;exact⟨vs,h1,Jw h hF hx h2⟩
  |false=>exact Jw h hF hx (show Oks _ _ _ xs [v] from hv)
 cases r with
 |any=>trivial
 |c g xs=>exact key ho hx
 | tup ys=>
   obtain⟨vs,h1,h2⟩:=hx;refine⟨vs,h1, ?_⟩;clear h1;have ho':(ys.all fun y=>y.2.all AC.oD)=true:=ho;clear ho
   induction ys generalizing vs with
   | nil=>cases vs with
     |nil=>trivial
     |cons v vs=>exact h2.elim
   | cons y ys ih=>cases vs with
     |nil=>exact h2.elim
     | cons v vs=>
       simp only[n_,e_]at ho';exact⟨key ho'.1 h2.1,ih vs h2.2 ho'.2⟩
 |ptr _=>cases ho
 |bptr _ _=>cases ho
 |eptr _ _ _ _=>cases ho
theorem ou.toE(t:Bool){f:Nat}{ds:List D}{ys:List AV}{r:AV}(h:ou P f ds r)(hr:r.oD=true)(ha:aQ [] ys ds)(hn:t=true→ys.all AV.nw=true):lN P f ys os bs (fun r2 os2 bs2=>r2=r.fl t∧os2=os∧bs2=bs):=by
 intro B Xs G w0 fr E a w vs hR hv;obtain⟨F,h1,h2⟩:=Py ha hn hv;refine(h w F vs (fun b hb=>(h2 b hb).1) h1 hR.below.now).mono ?_;rintro e w' ⟨v,rfl,hx,hb⟩;have hA:=hR.here;have hB:=hA.nI hb (d:=none) (x:= .any) (v:=undef) trivial;exact⟨v,E,_,_,_,⟨rfl,rfl,rfl⟩,rfl,hB,Yg hR (fun b hb=>⟨(h2 b hb).2.1,(h2 b hb).2.2⟩) hr hx⟩
def RQ(P:Program)(f:Nat)(ds:List D)(c:List AC)(post:AV→List Own→List AC→Prop):Prop:=
 ∀(w:World) (b:Nat) (ty:TypeId) (us vs:List Value) (X:List Nat),BelowT b w w→(∀x∈X,x≠b∧x<w.heap.size)→Row w b ty us→Oks ⟨w.heap.size,[],[(b,ty)],X⟩ [] w c us→
  mZ ⟨w.heap.size,[],[(b,ty)],X⟩ [] w (ds.map (D.avN true)) vs→Calls P f (.pointer (some ⟨b,0,none⟩)::vs).toArray w (Zd X b ty post w)
theorem ZK{H:Nat}{p:Nat×TypeId}{X F:List Nat}{d:D}{v:Value}(hF:∀b∈F,b∈X∧b≠p.1)(h:RdF w F d v):(D.avN true d).ok ⟨H,[],[p],X⟩ [] w v:=by
 have hM:∀b,b∈(⟨H,[],[p],X⟩:Env).M→b=p.1:=fun b hb=>by simpa[Env.M]using hb
 unfold D.avN AV.ok Gok;unfold RdF at h;cases hg:d.isAgg with
 | true=>
   rw[hg,if_pos rfl]at h;obtain⟨fp,cs,h1,h2,h3⟩:=h;exact⟨cs,h1,ql h2 (fun b hb=>⟨fun hm=>(hF b (h3 b hb)).2 (hM b hm),fun _=>o_ (hF b (h3 b hb)).1⟩)⟩
 | false=>
   rw[hg,if_neg (by simp)]at h;obtain⟨fp,h2,h3⟩:=h;exact ql h2 (fun b hb=>⟨fun hm=>(hF b (h3 b hb)).2 (hM b hm),fun _=>o_ (hF b (h3 b hb)).1⟩)
theorem RF{H:Nat}{p:Nat×TypeId}{X F:List Nat}(hF:∀b∈F,b∈X∧b≠p.1):∀{ds:List D} {vs:List Value},Bc w F ds vs→mZ ⟨H,[],[p],X⟩ [] w (ds.map (D.avN true)) vs
 | [],[],_=>trivial
 |d::ds,v::vs,h=>⟨ZK hF h.1,RF hF h.2⟩
 | [],_::_,h=>h.elim
 |_::_,[],h=>h.elim
theorem RQ.toE(t:Bool){f:Nat}{ds:List D}{ys:List AV}{c c0:List AC}{kc:Nat}{post:AV→List Own→List AC→Prop}(h:RQ P f ds c post)(hk:bs[kc]? =some c0)(hc0:c0.all (AC.cin t)=true)(hc:c0.map (AC.fl true)=c)(ha:aQ [] ys ds)(hn:t=true→ys.all AV.nw=true):
 lN P f (.bptr kc 0::ys) os bs (fun r2 os2 bs2=>∃r os' c',post r os' c'∧r2=(r.fl t).shift os.length∧os2=os++os'∧bs2=bs.set kc (c'.map (AC.fl t))):=by
 subst hc;intro B Xs G w0 fr E a w vs hR hv;cases vs with
 |nil=>exact hv.elim
 |cons pv vs=>
 obtain⟨⟨p,hp,rfl⟩,hv⟩:=hv;obtain⟨b,ty⟩:=p;have hpM:b∈E.M:=jr.2 (r_ ⟨kc,_,hp,rfl⟩);obtain⟨hBb,us,hrow,hok⟩:=hR.box kc c0 (b,ty) hk hp;simp only at hBb hrow;have hbH:b<w.heap.size:=hrow.lt;obtain⟨X1,hX1,hcu⟩:=Pg (H:=w.heap.size) (p:=(b,ty)) t hpM hc0 hok;obtain⟨F,hF1,hF2⟩:=Py ha hn hv;obtain⟨X,hXe⟩:∃X,X=X1++F:=⟨_,rfl⟩
 have hX:∀x∈X,x∉E.M∧x<w.heap.size∧(t=true→E.nw x):=fun x hx=>by
  rw[hXe]at hx;rcases s_.1 hx with hx|hx
  ·exact hX1 x hx
  ·exact⟨(hF2 x hx).2.1,(hF2 x hx).1,(hF2 x hx).2.2⟩
 have hcu':Oks ⟨w.heap.size,[],[(b,ty)],X⟩ [] w (c0.map (AC.fl true)) us:=Oks.LQ (fun x hx=>by rw[hXe];exact y_ _ hx) hcu;have hav:=RF (H:=w.heap.size) (p:=(b,ty)) (X:=X) (F:=F) (fun x hx=>⟨by rw[hXe];exact x_ _ hx,fun e=>(hF2 x hx).2.1 (e▸hpM)⟩) hF1;have hT:BelowT b w w:=⟨Below.refl _ _,fun w' hb'=>hR.below.tab w' (hb'.mono hBb)⟩
 refine(h w b ty us vs X hT (fun x hx=>⟨fun e=>(hX x hx).1 (e▸hpM),(hX x hx).2.1⟩) hrow hcu' hav).mono ?_;rintro e w' ⟨v,om,r,os',c',us',hpost,hr,hc',rfl,ho,hrok,hrow',hcok,hbel,hsame⟩
 
 obtain⟨w1,e1,e2⟩:∃w1:World,w1={w' with heap:=w'.heap.setIfInBounds b (.cells us.toArray ty (0,0))}∧True:=⟨_,rfl,trivial⟩
 have hsz:w1.heap.size=w'.heap.size:=by rw[e1];simp
 have hother:∀x,x≠b→w1.heap[x]? =w'.heap[x]? :=fun x hx=>by rw[e1];simp only;rw[Array.getElem?_setIfInBounds_ne (Ne.symm hx)]
 have hself:w1.heap[b]? =some (.cells us.toArray ty (0,0)):=by
  rw[e1];exact Array.getElem?_setIfInBounds_self_of_lt (hrow'.lt)
 have hB1:Below w.heap.size w w1:=by
  refine⟨by rw[e1];exact hbel.os,by rw[e1];exact hbel.tape,by rw[e1];exact hbel.output,by rw[hsz];exact hbel.size,fun x hx=> ?_⟩;by_cases e:x=b
  ·subst e;exact hself.trans hrow.symm
  ·rw[hother x e];exact hsame x hx e
 have ho1:qQ w.heap.size w1 om os':=BD ho (fun x hx=>hother x (by omega)) (a_F hsz.symm);have hA:=hR.here;have hH:∀x∈E.M,x<w.heap.size:=fun x hx=>(yF hR hx).2
 have hn:∀x,w.heap.size≤x→E.nw x:=fun x hx=>hR.xu (p_ hR.base hx)
 have hol:E.om.length=os.length:=hR.olen;have hB:=hA.zD (x:= .any) (u:=undef) hB1 ho1 none (fun _ _ _ _=>trivial);have hM2:∀x,x∈({E with om:=E.om++om}:Env).M↔x∈E.M∨x∈om.flatMap fun q=>q.1.ownBlock.toList:=fun x=>nK E om
 have hsz':w'.heap.size=w1.heap.size:=hsz.symm;have hC:=hB.Ox (k:=kc) (p:=(b,ty)) (w':=w') (ys:=c'.map (AC.fl t)) (us:=us') hk hp
  (by have:=vJ (os:=os) (w1:=w1) (E':={E with om:=E.om++om}) (t:=t) hpM (fun x hx=>⟨(hX x hx).1,(hX x hx).2.2⟩) hH hn hM2 rfl rfl hol hother (a_F hsz') (AP hc') hcok
      rwa[tH hc']at this) hsz' (by rw[e1];exact⟨rfl,rfl,rfl⟩) (fun x hx=>(hother x hx).symm) hrow' none (x:= .any) (v:=undef) trivial
 refine⟨v,_,_,_,_,⟨r,os',c',hpost,rfl,rfl,rfl⟩,rfl,hC, ?_⟩;exact NP (w1:=w') hpM (fun x hx=>⟨(hX x hx).1,(hX x hx).2.2⟩) hH hn hM2 rfl rfl hol (fun _ _=>rfl) (l_ _) hr hrok
end
theorem NZ{os:List Own}{xs:List AV}{ds:List D}(h:aQ os xs ds:=by first|exact⟨⟨rfl,rfl⟩,trivial⟩|exact trivial|exact⟨⟨rfl,rfl⟩,⟨rfl,rfl⟩,trivial⟩|exact⟨⟨rfl,rfl⟩,⟨rfl,rfl⟩,⟨rfl,rfl⟩,trivial⟩|(simp[St.ev,List.map_cons,List.map_nil,List.getD_cons_zero,List.getD_cons_succ,aQ,lF,iP,kV,AC.toD,aO,aC,aI,aN,Value.oneCell',iY,dR,jc,iZ,dn,aY,dA,dw,uy,uz,eY,eX,Si,AV.fl,AC.fl,AV.shift,AC.shift,List.append_nil];first|done|rfl)):aQ os xs ds:=h
section
variable{P:Program}{K:St→Prop}{d:Option Nat}{f:Nat}{ys:List AV}{rest:List IOp}{st:St}{ds:List D}
theorem ZF{r:AV}(ha:aQ st.owns ys ds:=by exact NZ)(hr:r.res:=by trivial)(hc:aB P f ds r)(h:sw P K rest (st.put d r)):lD P K d f ys rest st:=Xz hc hr ha h
theorem YG{m:Bool}{r:AV}(ha:aQ (mo m st) ys ds:=by exact NZ)(hr:r.res:=by trivial)(hc:aB P f ds r)(h:sd P m K rest (st.put d r)):rZ P m K d f ys rest st:=IK hc hr ha h
theorem ZE{post:AV→List Own→Prop}(ha:aQ st.owns ys ds:=by exact NZ)(h:kT P f ds post)
 (hK:∀r os',post r os'→sw P K rest (St.put ⟨st.fr,st.owns++os',st.boxes⟩ d (r.shift st.owns.length))):lD P K d f ys rest st:=by
 refine aae (h.toE ha) ?_;rintro _ _ _ ⟨r,os',hp,rfl,rfl,rfl⟩;exact hK r os' hp
end
section
variable{P:Program}{kc:Nat}{m:Bool}{Ts:List Nat}{K:St→Prop}{d:Option Nat}{f:Nat}{xs:List Opd}{rest:List IOp}{st:St}{ds:List D}
theorem UK{xs:List Opd}(h:sn P kc m Ts K (⟨d,none,.call f xs⟩::rest) st):sn P kc m Ts K (⟨d,none,.call f xs⟩::rest) st:=h
theorem aas{r:AV}(ha:aQ (mo m st) (xs.map st.ev) ds:=by exact NZ)(hr:r.res:=by trivial)(hc:aB P f ds r)(h:sn P kc m Ts K rest (st.put d r)):sn P kc m Ts K (⟨d,none,.call f xs⟩::rest) st:=by
 refine X5 ?_;rw[Jk];exact IK hc hr ha h
theorem aar{pst:AV→List Own→Prop}(ha:aQ st.owns (xs.map st.ev) ds:=by exact NZ)(h:kT P f ds pst)(hne:∃r os',pst r os'∧r.out=true)(hm:∀r os',pst r os'→m=false→os'= []:=by first|(rintro _ _ ⟨_,h⟩ _;exact h)|(intro _ _ _ hm;cases hm))
 (hr:∀r os',pst r os'→sn P kc m Ts K rest (St.put ⟨st.fr,st.owns++os',st.boxes⟩ d (r.shift st.owns.length))):sn P kc m Ts K (⟨d,none,.call f xs⟩::rest) st:=
 XZ h ha hne hm hr
end
def AC.rel(k v:Nat)(n:Bool)(l:List D):AC→AC
 | .own j i=>if j=k∧i=v then .sl n l else .own j i
 |x=>x
def AV.rel(k v:Nat)(n:Bool)(l:List D):AV→AV
 | .c g xs=> .c g (xs.map (AC.rel k v n l))
 |x=>x
def St.rel(st:St)(k:Nat)(o:Own):St:=⟨st.fr.map (AV.rel k o.ver o.nw.n o.l),bZ st.owns k,st.boxes.map (List.map (AC.rel k o.ver o.nw.n o.l))⟩
section
variable{P:Program}{B:Nat}{Xs:List Nat}{G:Org}{w0:World}{st:St}{E:Env}{a:Act}{w:World}
end
theorem pkZ :type_of% (aaA @jB.eq_1 (aaA @jB.eq_2 (aaA @jU.eq_1 (aaA @jU.eq_2 (aaA @bI.eq_1 (aaA @bI.eq_2 (aaA @bZ.eq_1 (aaA @St.put.eq_1 (aaA @St.put.eq_2 (aaA @St.ev.eq_1 (aaA @St.ev.eq_2 (aaA @jq.eq_1 (aaA @jq.eq_2 (aaA @kR.eq_1 (aaA @kR.eq_2 (aaA @D.ones.eq_1 (aaA @D.ones.eq_2 (aaA @D.szs.eq_1 (aaA @D.szs.eq_2 (aaA @undef.eq_1 (aaA @aO (aaA @aC (aaA @aI (aaA @aN (aaA @bF (@aZ)))))))))))))))))))))))))):=aaA @jB.eq_1 (aaA @jB.eq_2 (aaA @jU.eq_1 (aaA @jU.eq_2 (aaA @bI.eq_1 (aaA @bI.eq_2 (aaA @bZ.eq_1 (aaA @St.put.eq_1 (aaA @St.put.eq_2 (aaA @St.ev.eq_1 (aaA @St.ev.eq_2 (aaA @jq.eq_1 (aaA @jq.eq_2 (aaA @kR.eq_1 (aaA @kR.eq_2 (aaA @D.ones.eq_1 (aaA @D.ones.eq_2 (aaA @D.szs.eq_1 (aaA @D.szs.eq_2 (aaA @undef.eq_1 (aaA @aO (aaA @aC (aaA @aI (aaA @aN (aaA @bF (@aZ)))))))))))))))))))))))))
section
variable{P:Program}{B:Nat}{Xs:List Nat}{G:Org}{w0:World}{st:St}{E:Env}{a:Act}{w:World}
theorem QB{os:List Own}{x:AC}{u:Value}:∀{xs:List AC} {vs:List Value} {j:Nat},Oks E os w xs vs→(∀v,vs[j]? =some v→x.ok E os w v)→Oks E os w (xs.set j x) vs
 | [],[],_,_,_=>trivial
 |y::xs,v::vs,0,h,hx=>⟨hx v rfl,h.2⟩
 |y::xs,v::vs,j+1,h,hx=>⟨h.1,QB (u:=u) h.2 (fun z hz=>hx z (by simpa using hz))⟩
 | [],_::_,_,h,_=>h.elim
 |_::_,[],_,h,_=>h.elim
theorem QC{os:List Own}{x:AC}:∀{xs:List AC} {vs:List Value} {j:Nat},Oks E os w xs vs→xs[j]? =some x→∀v,vs[j]? =some v→x.ok E os w v
 | [],[],_,_,hx,_,_=>by simp at hx
 | y::xs,v::vs,0,h,hx,z,hz=>by
   simp at hx hz;subst hx hz;exact h.1
 |y::xs,v::vs,j+1,h,hx,z,hz=>QC h.2 (by simpa using hx) z (by simpa using hz)
 | [],_::_,_,h,_,_,_=>h.elim
 |_::_,[],_,h,_,_,_=>h.elim
def St.LP(st:St)(kb j e s:Nat)(m:Bool):St:=⟨st.fr,st.owns++ [⟨[],e,s,0,⟨true,m⟩⟩],st.boxes.set kb ((st.boxes.getD kb []).set j (.own st.owns.length 0))⟩
theorem Rel.LP(h:Rel B Xs G w0 st E a w){kb j e s:Nat}{m:Bool}{xs:List AC}(hb:st.boxes[kb]? =some xs)(hx:xs[j]? =some (.raw (.slice none 0 0))):
 Rel B Xs G w0 (st.LP kb j e s m) {E with om:=E.om++ [(.slice none 0 0,[])]} a w:=by
 have h1:Rel B Xs G w0 ⟨st.fr,st.owns++ [⟨[],e,s,0,⟨true,m⟩⟩],st.boxes⟩ {E with om:=E.om++ [(.slice none 0 0,[])]} a w:=
  Rel.zD (fr:=st.fr) (os:=st.owns) (bs:=st.boxes) (x:= .any) (u:=undef) h (Below.refl _ _)
   ⟨rfl,fun k o p hk hp=>by
     cases k with
     | zero=>
       simp at hk hp;subst hk hp;exact⟨[],aK.nil,⟨rfl,rfl⟩,fun d hd=>by simp at hd,fun b hb=>by simp at hb⟩
     |succ k=>simp at hk,by simp[Value.ownBlock],Lin.one (fun _=>J_),Unf.one (fun _ b hb=>by simp at hb)⟩ none (fun _ _ _ _=>trivial)
 have hol:=h.olen;exact
  { eb:=h1.eb,ex:=h1.ex,sim:=h1.sim,defers:=h1.defers,size:=h1.size,fr:=h1.fr,olen:=h1.olen,own:=h1.own
    blen:=by rw[h1.blen];simp[St.LP]
    box:=fun k ys p hy hp=>by
     by_cases e1:kb=k
     ·subst e1;have hlt:kb<st.boxes.length:=(b_.1 hb).1;simp only[St.LP]at hy;rw[F_ hlt]at hy;injection hy with hy
      subst hy;have hg:st.boxes.getD kb []=xs:=by rw[c_,hb];rfl
      rw[hg];obtain⟨g1,vs,g2,g3⟩:=h1.box kb xs p hb hp;refine⟨g1,vs,g2,QB (u:=undef) g3 fun v hv=> ?_⟩;have hv2:v= .slice none 0 0:=QC g3 hx v hv;subst hv2;have e2:(st.owns++ [(⟨[],e,s,0,⟨true,m⟩⟩:Own)])[st.owns.length]? =some ⟨[],e,s,0,⟨true,m⟩⟩:=by rw[z_ (l_ _)];simp
      have e3:(E.om++ [(Value.slice none 0 0,([]:List Nat))])[st.owns.length]? =some (.slice none 0 0,[]):=by rw[z_ (by omega),hol];simp
      exact⟨⟨none,0,0,rfl⟩,⟨[],e,s,0,⟨true,m⟩⟩,(.slice none 0 0,[]),e2,e3,l_ _,fun _=>rfl⟩
     ·simp only[St.LP]at hy;rw[I_ e1]at hy;exact h1.box k ys p hy hp
    nodup:=h1.nodup,lin:=h1.lin,unf:=h1.unf,below:=h1.below,base:=h1.base}
theorem XC{lo:Nat×Nat}{c:IC}{Q:Exit→St→Prop}(kb j e s:Nat)(m:Bool){xs:List AC}(hb:st.boxes[kb]? =some xs)(hx:xs[j]? =some (.raw (.slice none 0 0)))(h:iT lo P c Q (st.LP kb j e s m)):iT lo P c Q st:=
 fun code hc B Xs G w0 hG E a w hR=>h code hc B Xs G w0 hG _ a w (hR.LP hb hx)
def Td(os:List Own)(k:Nat):List Own:=match os[k]? with|some o=>os.set k ⟨o.l,o.e,o.s,o.ver,⟨true,true⟩⟩|none=>os
theorem Rel.aav(h:Rel B Xs G w0 st E a w)(k:Nat)(hb:∀o,st.owns[k]? =some o→pU o.l):Rel B Xs G w0 ⟨st.fr,Td st.owns k,st.boxes⟩ E a w:=by
 unfold Td;cases ho:st.owns[k]? with
 |none=>exact h
 | some o=>
   have hlt:k<st.owns.length:=(b_.1 ho).1;have hlt2:k<E.om.length:=by rw[h.olen];exact hlt
   have hget:∀(j:Nat) (o':Own),(st.owns.set k ⟨o.l,o.e,o.s,o.ver,⟨true,true⟩⟩)[j]? =some o'→∃o2,st.owns[j]? =some o2∧o'.l=o2.l∧o'.e=o2.e∧o'.s=o2.s∧o'.ver=o2.ver∧(o'.nw.n=o2.nw.n∨pU o'.l):=fun j o' hj=>by
    by_cases e1:k=j
    ·subst e1;rw[F_ hlt]at hj;injection hj with hj
     subst hj;exact⟨o,ho,rfl,rfl,rfl,rfl,o_ (hb o ho)⟩
    ·rw[I_ e1]at hj;exact⟨o',hj,rfl,rfl,rfl,rfl,r_ rfl⟩
   have hS:Sim E st.owns w E (st.owns.set k ⟨o.l,o.e,o.s,o.ver,⟨true,true⟩⟩) w:=
    { base:=rfl,size:=l_ _,blk:=fun b _ _=>rfl,old:=fun b _ hm=>hm,box:=fun j p hp=>hp
      own:=fun j o' p hj hp=>by
       by_cases e1:k=j
       ·subst e1;rw[ho]at hj;injection hj with hj
        subst hj;exact⟨_,p,F_ hlt,hp,l_ _,fun _=>⟨rfl,rfl⟩⟩
       ·exact⟨o',p,by rw[I_ e1];exact hj,hp,l_ _,fun _=>⟨rfl,rfl⟩⟩}
   have hnil:∀p,E.om[k]? =some p→p.2= []:=fun p hp=>by
    obtain⟨cs,_,h2,_⟩:=h.own k o p ho hp;exact hb o ho _ _ _ h2
   have hp0:=a_ hlt2;have hset:E.om.set k E.om[k]=E.om:=List.set_getElem_self hlt2;exact
    { eb:=h.eb,ex:=h.ex,sim:=h.sim.trans hS,defers:=h.defers,size:=h.size
      fr:=fun t y hy=>(h.fr t y hy).sim hS
      olen:=by simp[h.olen]
      own:=fun j o' p hj hp=>by
       obtain⟨o2,g1,g2,g3,g4,g5,g6⟩:=hget j o' hj;obtain⟨cs,k1,k2,k3,k4⟩:=h.own j o2 p g1 hp;refine⟨cs,by rw[g2,g3,g4];exact k1,by rw[g2];exact k2,by rw[g2,g4];exact k3,fun b hb'=> ?_⟩;rcases g6 with g6|g6
       ·rw[g6];exact k4 b hb'
       ·have:=g6 w p.2 cs (by rw[g2];exact k2);rw[this]at hb';simp at hb'
      blen:=h.blen
      box:=fun j ys p hy hp=>by
       obtain⟨g1,vs,g2,g3⟩:=h.box j ys p hy hp;exact⟨g1,vs,g2,g3.sim hS⟩
      nodup:=h.nodup
      lin:=by
       have h9:=h.lin.set (k:=k) (o1:=⟨o.l,o.e,o.s,o.ver,⟨true,true⟩⟩) (q:=E.om[k]) (fun _=>by rw[hnil _ hp0];exact⟨J_,fun _ _ _ _ _ _ _ b hb=>by simp at hb⟩);rwa[hset]at h9
      unf:=by
       have h9:=h.unf.set (k:=k) (o1:=⟨o.l,o.e,o.s,o.ver,⟨true,true⟩⟩) (q:=E.om[k]) (fun _=>by rw[hnil _ hp0];exact fun b hb=>by simp at hb);rwa[hset]at h9
      below:=h.below,base:=h.base}
theorem FH{lo:Nat×Nat}{c:IC}{Q:Exit→St→Prop}(k:Nat){fr0:List AV}{os0:List Own}{bs0:List (List AC)}{os1:List Own}(hb:∀o,os0[k]? =some o→pU o.l)(he:Td os0 k=os1)(h:iT lo P c Q ⟨fr0,os1,bs0⟩):iT lo P c Q ⟨fr0,os0,bs0⟩:=
 fun code hc B Xs G w0 hG E a w hR=>h code hc B Xs G w0 hG E a w (he▸hR.aav k hb)
theorem H8 :pU []:=fun w fp cs h=>h.1
end
theorem szD(xs:Array UInt8):ByteArray.size ⟨xs⟩=xs.size:=rfl
theorem nv{G H:Prop}(k:H)(h:H→G:=by first|(with_reducible first|exact jQ|exact fZ|exact iL|exact iM|exact jR|exact qF|exact iD|exact jK|exact dP|exact fP|exact iJ|exact fJ|exact iG|exact eF|exact fH)|((with_reducible refine fO ?_);rfl)|((with_reducible refine fQ ?_);rfl)|((with_reducible refine fV ?_);rfl)):G:=h k
section
variable{lo:Nat×Nat}{P:Program}{K:St→Prop}{Q:Exit→St→Prop}{st:St}{m:Bool}{F H:Prop}{l:List IOp}
theorem ss(f:F)(k:H)(h:F→(sw P K l st)=H:=by intro f;conv=>lhs;simp(disch:=first|decide|omega) only[↓pkS,pkW,pkA,pkZ,List.flatMap_cons,List.flatMap_nil,List.append_nil,dN,lvD,lcD,lvK,lcK,dH,ex,kav,gdA,opI,dF,kF,dY,AV.toD,AC.toD,AV.nw,AC.nw,AC.one,Value.oneCell',if_true,if_false,Bool.false_eq_true,eu,D.one,D.sz,Nat.reduceAdd,Nat.reduceSub,Nat.reduceLeDiff,Nat.reduceEqDiff,reduceIte,pkN,Si,Int.reduceLT,Int.reduceLE,AV.fl,AC.fl,AV.shift,AC.shift,szD,List.size_toArray,ByteArray.size_append,yV,eqV,eqC,f]):sw P K l st:=(h f).mpr k
theorem nN{G:Prop}(k:H)(h:H→G:=by intro k;first|((with_reducible refine X3 ?_ k);(intro off;simp only[↓pkR,St.ev,List.getD_cons_zero,List.getD_cons_succ];first|done|(intro hx;cases hx)|(simp;done)))|((with_reducible refine X0 ?_ k);rfl)|((with_reducible refine UJ ?_ k);rfl)|(with_reducible exact X4 k)):G:=h k
theorem rD{G:Prop}(k:H)(h:H→G:=by intro k;first|(with_reducible exact RD k)|((with_reducible refine zA false ?_ k);rfl)|((with_reducible refine zA true ?_ k);rfl)|((with_reducible refine bG false ?_ k);rfl)|((with_reducible refine bG true ?_ k);rfl)):G:=h k
theorem sS{G:Prop}(f:F)(k:H)(h:F→G=H:=by intro f;conv=>lhs;simp only[undef,stS,st0,stN,D.av,D.avN,dn,aY,dA,dw,gy,dD,eY,eX,Si,List.map_cons,List.map_nil,List.replicate,List.cons_append,List.nil_append,List.length_cons,List.length_nil,Nat.reduceAdd,Nat.reduceSub,f]):G:=(h f).mpr k
theorem cS{c:Opd}{x y:IC}{b:Bool}{p q:Prop}(hb:st.ev c= .c false [.raw (.bool b)])(h1:b=true→p→iT lo P x Q st)(h2:b=false→q→iT lo P y Q st)(hp:(b=true)=p:=by conv=>lhs;(try simp only[pkC]))(hq:(b=false)=q:=by conv=>lhs;(try simp only[pkC])):iT lo P (.cond c x y) Q st:=
 fU hb (fun h=>h1 h (hp.mp h)) (fun h=>h2 h (hq.mp h))
section
variable{d:Option Nat}{g:Nat}{w b:Bool}{i:I}{rest:List IOp}
theorem gi(k:sw P K (⟨d,some (g,w),i⟩::rest) st):sw P K (⟨d,some (g,w),i⟩::rest) st:=k
theorem gxi(k:sd P m K (⟨d,some (g,w),i⟩::rest) st):sd P m K (⟨d,some (g,w),i⟩::rest) st:=k
theorem gF(k:H)(h:(sw P K rest (st.put d (.c false [.raw undef])))=H:=by conv=>lhs;(try simp only[St.put,undef,pkA,Nat.reduceAdd,Nat.reduceSub,Nat.reduceLeDiff,Nat.reduceEqDiff])):sw P K rest (st.put d (.c false [.raw undef])):=h.mpr k
theorem gS{p q:Prop}(hg:st.fr.getD g .any= .c false [.raw (.bool b)])(h1:b=w→p→sw P K (⟨d,none,i⟩::rest) st)(h2:b= !w→q→sw P K rest (st.put d (.c false [.raw undef])))(hp:(b=w)=p:=by conv=>lhs;(try simp only[pkC]))(hq:(b= !w)=q:=by conv=>lhs;(try simp only[pkC])):
 sw P K (⟨d,some (g,w),i⟩::rest) st:=Sj hg (fun h=>h1 h (hp.mp h)) (fun h=>h2 h (hq.mp h))
theorem gxF(k:H)(h:(sd P m K rest (st.put d (.c false [.raw undef])))=H:=by conv=>lhs;(try simp only[St.put,undef,pkA,Nat.reduceAdd,Nat.reduceSub,Nat.reduceLeDiff,Nat.reduceEqDiff])):sd P m K rest (st.put d (.c false [.raw undef])):=h.mpr k
theorem gxS{p q:Prop}(hg:st.fr.getD g .any= .c false [.raw (.bool b)])(h1:b=w→p→sd P m K (⟨d,none,i⟩::rest) st)(h2:b= !w→q→sd P m K rest (st.put d (.c false [.raw undef])))(hp:(b=w)=p:=by conv=>lhs;(try simp only[pkC]))(hq:(b= !w)=q:=by conv=>lhs;(try simp only[pkC])):
 sd P m K (⟨d,some (g,w),i⟩::rest) st:=SI hg (fun h=>h1 h (hp.mp h)) (fun h=>h2 h (hq.mp h))
end
end
theorem gq_{G H:Prop}(k:H)(h:H→G:=by intro k;first|((with_reducible refine gi ?_);first|exact Ad rfl k|(refine Ae rfl ?_;refine gF ?_;exact k))|((with_reducible refine gxi ?_);first|exact Ag rfl k|(refine Ah rfl ?_;refine gxF ?_;exact k))):G:=h k
theorem cq_{lo:Nat×Nat}{P:Program}{c:Opd}{x y:IC}{Q:Exit→St→Prop}{st:St}(k:iT lo P (.cond c x y) Q st):iT lo P (.cond c x y) Q st:=k
theorem c2_{G A B:Prop}(a:A)(b:B)(h:A→B→G:=by intro a b;first|(with_reducible exact gS rfl a b)|(with_reducible exact gxS rfl a b)|((with_reducible refine cq_ ?_);(fail_if_success refine nv ?_);with_reducible exact cS rfl a b)):G:=h a b
theorem ca_{G A B:Prop}(a:A)(b:B)(h:A→B→G:=by intro a b;with_reducible exact Ue a b):G:=h a b
theorem hq_{G H:Prop}(k:H)(h:H→G:=by intro k;with_reducible exact hK _ k):G:=h k
theorem rg_{G H:Prop}(k:H)(h:H→G:=by intro k;first|(with_reducible exact RD k)|((with_reducible refine zA false ?_ k);rfl)|((with_reducible refine zA true ?_ k);rfl)):G:=h k
section
variable{P:Program}{K:St→Prop}{st:St}{m:Bool}{l:List IOp}
theorem aaq{H:Prop}(h:sw P K l st=H):sw P K l st=H:=h
theorem aat{H:Prop}(h:sd P m K l st=H):sd P m K l st=H:=h
end
theorem sz_{G H F:Prop}(f:F)(k:H)(h:F→G=H:=by intro f;first|((with_reducible apply aaq);conv=>lhs;simp(disch:=first|decide|omega) only[↓pkS,pkW,pkA,pkZ,List.flatMap_cons,List.flatMap_nil,List.append_nil,dN,lvD,lcD,lvK,lcK,dH,ex,kav,gdA,opI,dF,kF,dY,AV.toD,AC.toD,AV.nw,AC.nw,AC.one,Value.oneCell',if_true,if_false,Bool.false_eq_true,eu,D.one,D.sz,Nat.reduceAdd,Nat.reduceSub,Nat.reduceLeDiff,Nat.reduceEqDiff,reduceIte,pkN,Si,Int.reduceLT,Int.reduceLE,AV.fl,AC.fl,AV.shift,AC.shift,szD,List.size_toArray,ByteArray.size_append,yV,eqV,eqC,f])|((with_reducible apply aat);conv=>lhs;simp(disch:=first|decide|omega) only[↓pkR,pkD,pkA,pkZ,List.flatMap_cons,List.flatMap_nil,List.append_nil,dN,lvD,lcD,lvK,lcK,dH,ex,kav,gdA,opI,dF,kF,dY,AV.toD,AC.toD,AV.nw,AC.nw,AC.one,Value.oneCell',if_true,if_false,Bool.false_eq_true,eu,D.one,D.sz,Nat.reduceAdd,Nat.reduceSub,Nat.reduceLeDiff,Nat.reduceEqDiff,reduceIte,pkN,Si,Int.reduceLT,Int.reduceLE,AV.fl,AC.fl,AV.shift,AC.shift,szD,List.size_toArray,ByteArray.size_append,yV,eqV,eqC,f])):G:=(h f).mpr k
theorem cg_{G:Prop}(k:G)(h:G→G:=by intro k;first|(with_reducible exact Y5 k)|(with_reducible exact Xq k)):G:=h k
theorem cT_{G H:Prop}{P:Program}{f:Nat}{ds:List D}{r:AV}(hc:aB P f ds r)(k:H)(h:aB P f ds r→H→G:=by intro hc k;first|((with_reducible refine Y5 ?_);exact ZF (hc:=hc) (h:=k))|((with_reducible refine Xq ?_);exact YG (hc:=hc) (h:=k))):G:=h hc k
theorem bq_{G:Prop}(h:G:=by first|(first|(with_reducible rfl)|(with_reducible refine jO ?_;kernel_rfl)|exact bC _|exact iI _|exact aJ _|exact pG _ _|exact qw _ _ _|omega|(simp;done)|(simp;omega))|((with_reducible refine jS ?_);first|exact⟨⟨rfl,rfl⟩,trivial⟩|exact trivial|exact⟨⟨rfl,rfl⟩,⟨rfl,rfl⟩,trivial⟩|exact⟨⟨rfl,rfl⟩,⟨rfl,rfl⟩,⟨rfl,rfl⟩,trivial⟩|(simp[St.ev,List.map_cons,List.map_nil,List.getD_cons_zero,List.getD_cons_succ,aQ,lF,iP,kV,AC.toD,aO,aC,aI,aN,Value.oneCell',iY,dR,jc,iZ,dn,aY,dA,dw,uy,uz,eY,eX,Si,AV.fl,AC.fl,AV.shift,AC.shift,List.append_nil];first|done|rfl))):G:=h
theorem a3_{A B C:Prop}(a:A)(b:B)(c:C):A∧(B∧C):=⟨a,b,c⟩
theorem a4_{A B C D:Prop}(a:A)(b:B)(c:C)(d:D):A∧(B∧(C∧D)):=⟨a,b,c,d⟩
theorem a5_{A B C D E:Prop}(a:A)(b:B)(c:C)(d:D)(e:E):A∧(B∧(C∧(D∧E))):=⟨a,b,c,d,e⟩
theorem a6_{A B C D E F:Prop}(a:A)(b:B)(c:C)(d:D)(e:E)(f:F):A∧(B∧(C∧(D∧(E∧F)))):=⟨a,b,c,d,e,f⟩
theorem a7_{A B C D E F G:Prop}(a:A)(b:B)(c:C)(d:D)(e:E)(f:F)(g:G):A∧(B∧(C∧(D∧(E∧(F∧G))))):=⟨a,b,c,d,e,f,g⟩
theorem a9_{A B C D E F G H I:Prop}(a:A)(b:B)(c:C)(d:D)(e:E)(f:F)(g:G)(h:H)(i:I):A∧(B∧(C∧(D∧(E∧(F∧(G∧(H∧I))))))):=⟨a,b,c,d,e,f,g,h,i⟩
theorem aaz{A B C D E F G H I J:Prop}(a:A)(b:B)(c:C)(d:D)(e:E)(f:F)(g:G)(h:H)(i:I)(j:J):A∧(B∧(C∧(D∧(E∧(F∧(G∧(H∧(I∧J)))))))):=⟨a,b,c,d,e,f,g,h,i,j⟩
def zz_(d:Nat)(i:I):IOp:=⟨some d,none,i⟩
def zy_(d t:Nat)(i:I):IOp:=⟨some d,some (t,true),i⟩
def zx_(d t:Nat)(i:I):IOp:=⟨some d,some (t,false),i⟩
def zw_(d a:Nat):IOp:=⟨some d,none,.mov (.t a)⟩
def zv_(d t a:Nat):IOp:=⟨some d,some (t,true),.mov (.t a)⟩
def zu_(d t a:Nat):IOp:=⟨some d,some (t,false),.mov (.t a)⟩
def zt_(d k a:Nat):IOp:=⟨some d,none,.fad k (.t a)⟩
def zs_(d k a:Nat):IOp:=⟨some d,none,.load k false (.t a)⟩
def zr_(d k a:Nat):IOp:=⟨some d,none,.load k true (.t a)⟩
def zq_(d f a:Nat):IOp:=⟨some d,none,.call f [.t a]⟩
def zp_(d f a b:Nat):IOp:=⟨some d,none,.call f [.t a,.t b]⟩
def zo_(d f a b c:Nat):IOp:=⟨some d,none,.call f [.t a,.t b,.t c]⟩
def zn_(d f a:Nat)(z:Int):IOp:=⟨some d,none,.call f [.t a,.k (.int .i64 z)]⟩
def zm_(d:Nat)(o:BinOp)(a:Nat)(z:Int):IOp:=⟨some d,none,.bin o (.t a) (.k (.int .i64 z))⟩
def zl_(d:Nat)(o:BinOp)(a b:Nat):IOp:=⟨some d,none,.bin o (.t a) (.t b)⟩
def zk_(d:Nat)(z:Int):IOp:=⟨some d,none,.mov (.k (.int .i64 z))⟩
def zj_(d:Nat)(v:Bool):IOp:=⟨some d,none,.mov (.k (.bool v))⟩
def zi_(d a:Nat):IOp:=⟨some d,none,.nck (.t a)⟩
def zh_(d a b:Nat)(v:Bool):IOp:=⟨some d,none,.pick (.t a) (.t b) (.k (.bool v))⟩
def zg_(d a:Nat)(v:Bool)(b:Nat):IOp:=⟨some d,none,.pick (.t a) (.k (.bool v)) (.t b)⟩
def zf_(d:Nat)(v:Bool)(a:Nat):IOp:=⟨some d,none,.len v (.t a)⟩
def ze_(d k a b:Nat):IOp:=⟨some d,none,.iad k (.t a) (.t b)⟩
def zd_(l:List IOp)(x:IC):IC:= .seq (.reg false l) x
def zc_(n:Nat)(v:Bool)(y:IC):IC:= .seq (.reg false [⟨some n,none,.mov (.k (.bool v))⟩]) y
theorem zb_{G H:Prop}(k:H)(h:G=H:=by conv=>lhs;dsimp only[zz_,zy_,zx_,zw_,zv_,zu_,zt_,zs_,zr_,zq_,zp_,zo_,zn_,zm_,zl_,zk_,zj_,zi_,zh_,zg_,zf_,ze_,zd_,zc_]):G:=h.mpr k
theorem za_{a b:Int}(h:a≠b):(a==b)=false:=beq_false_of_ne h
end Go.Proofs.YtagaefgglphkgaaGreat
