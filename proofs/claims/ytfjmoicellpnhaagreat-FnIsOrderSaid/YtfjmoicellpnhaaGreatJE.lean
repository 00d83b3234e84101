/-
  Texts joined: IrE IrF IrT Ty IrG IrL IrS IrW IrR IrN IrU IrV IrX IrY.
-/
import Derived.Test.YtfjmoicellpnhaaGreatJD
import Derived.Test.YtfjmoicellpnhaaGreatJA
set_option linter.unusedSimpArgs false
set_option linter.unusedVariables false
namespace Go.Proofs.YtfjmoicellpnhaaGreat
open Go.RowKit
open List renaming getElem?_eq_getElem→a_,getElem?_eq_some_iff→b_,getD_eq_getElem?_getD→c_,getElem?_take→d_,mem_of_getElem? →e_,mem_map→h_,getElem?_append_left→i_,mem_flatMap→j_,nodup_append→l_,all_cons→n_,mem_append→q_,getElem?_map→t_,all_eq_true→v_,length_cons→w_,take_sublist→x_,mem_append_right→y_,mem_iff_getElem? →z_,mem_append_left→A_,getElem?_append_right→B_,length_map→C_,replicate→E_,flatMap_cons→G_,cons_append→H_,nodup_nil→I_,map_cons→K_,length_take→M_,getElem?_replicate→N_,getElem?_cons_zero→P_,getElem?_cons_succ→Q_,append_nil→R_,getElem?_set_self→T_,getElem?_toArray→U_,getElem?_append→W_,map_congr_left→X_,getD_cons_zero→Y_,getD_cons_succ→Z_,take_succ_cons→a_a,drop_succ_cons→a_b,set_cons_zero→a_c,set_cons_succ→a_d,size_toArray→a_h,getElem_inj→a_k,getElem_mem→a_m,nodup_cons→a_n,nil_append→a_p,length_nil→a_q,take_zero→a_t,drop_zero→a_u,take_nil→a_v,drop_nil→a_w,flatMap→a_A,map_nil→a_B,all_nil→a_E
open Option renaming map_eq_some_iff→f_,getD_some→k_,map_some→S_,getD_none→a_l,map_none→a_r
open Bool renaming and_eq_true→g_,not_false→J_,not_true→L_,not_eq_eq_eq_not→V_,false_eq_true→a_e,not_eq_false'→a_g,not_eq_true'→a_j,and_true→a_x,true_and→a_y,and_self→a_z
open Or renaming inr→m_,inl→r_
open Value renaming oneCell'→o_
open Nat renaming le_trans→p_,le_refl→s_,zero_le→u_,lt_of_lt_of_le→D_,add_sub_cancel_left→O_,zero_add→a_C,add_zero→a_D,le_of_eq→a_F
open Option.some renaming injEq→F_
inductive IC where
 |reg (dr:Bool) (ops:List IOp)
 |regN (b:Bool) (Ts:List Nat) (ops:List IOp)
 |seq (x y:IC)
 |cond (c:Opd) (x y:IC)
 |block (id:Nat) (x:IC)
 |loop (x:IC)
 |exit (id:Nat)
 |ret
 |skip
def ae3(is:List IOp):List Nat:=(is.filterMap fun o=>qF o.i).filter fun t=>is.all fun o=>match o.d with|some u=>u !=t|none=>true
def ahQ(is:List IOp):Bool:=is.any fun o=>match o.i with
 | .store _ (.t x) _=>is.any fun q=>q.d==some x && (match q.i with
   | .iad .. =>true
   | .fad _ (.t y)=>is.any fun r=>r.d==some y && (match r.i with| .iad .. =>true|_=>false)
   |_=>false)
 |_=>false
def aer(ops:List Oper)(is:List IOp):Option IC:=
 if(yA ops is && !(is.any fun o=>o.i.isC)) && !ahQ is then some (.reg true is)
 else if JE [] ops is then some (.regN (yA ops is) [] is)
 else if JE (ae3 is) ops is then some (.regN (yA ops is) (ae3 is) is)
 else if yA ops is then some (.reg true is)
 else if JE (1000000::ae3 is) ops is then some (.regN (yA ops is) (1000000::ae3 is) is)else none
theorem rZ{ops:List Oper}{is:List IOp}{c:IC}(h:aer ops is=some c):(c= .reg true is∧yA ops is=true)∨∃Ts,c= .regN (yA ops is) Ts is∧JE Ts ops is=true:=by
 unfold aer at h;split at h
 ·next h1=>simp only[g_]at h1;injection h with h;exact r_ ⟨h.symm,h1.1.1⟩
 ·split at h
  ·next h1=>injection h with h;exact m_ ⟨_,h.symm,h1⟩
  ·split at h
   ·next h1=>injection h with h;exact m_ ⟨_,h.symm,h1⟩
   ·split at h
    ·next h1=>injection h with h;exact r_ ⟨h.symm,h1⟩
    ·split at h
     ·next h1=>injection h with h;exact m_ ⟨_,h.symm,h1⟩
     ·cases h
def ak(P:Program):Code→Option IC
 | .region id ops false=>(mP P ops ops.toList).map (IC.reg false)
 | .region id ops true=>(match mP P ops ops.toList with|some is=>if P.follows .mixedOrders then aer ops.toList is else none|none=>none)
 | .seq x y=>(match ak P x,ak P y with|some x,some y=>some (.seq x y)|_,_=>none)
 | .cond c x y=>(match ak P x,ak P y with|some x,some y=>some (.cond (opd c) x y)|_,_=>none)
 | .block id x=>(ak P x).map (IC.block id)
 | .loop x=>(ak P x).map IC.loop
 | .exit id=>some (.exit id)
 | .ret=>some .ret
 | .skip=>some .skip
 | .label _=>some .skip
 |_=>none
theorem oL{P:Program}{id:Nat}{ops:Array Oper}{b:Bool}{c:IC}(h:ak P (.region id ops b)=some c)(hc:∀d l,c≠ .reg d l)(hn:∀b T l,c≠ .regN b T l):False:=by
 cases b with
 | false=>
   simp only[ak]at h;obtain⟨l,_,he⟩:=f_.1 h;exact hc _ _ he.symm
 | true=>
   simp only[ak]at h;split at h
   ·split at h
    ·rcases rZ h with⟨h,_⟩|⟨Ts,h,_⟩
     ·exact hc _ _ h
     ·exact hn _ _ _ h
    ·cases h
   ·cases h
def dH(lo:Nat×Nat)(P:Program)(c:IC)(Q:Exit→St→Prop)(st:St):Prop:=
 ∀(code:Code),ak P code=some c→∀(B:Nat) (Xs:List Nat) (G:Org) (w0:World),(G.os.length≤lo.1∧G.E.bm.length≤lo.2)→∀(E:Env) (a:Act) (w:World),Rel B Xs G w0 st E a w→code.wp P (fun e a' w'=>∃st' E',Rel B Xs G w0 st' E' a' w'∧Q e st') a w
abbrev AWP(P:Program)(c:IC)(Q:Exit→St→Prop)(st:St):Prop:=dH (0,0) P c Q st
def PK(lo:Nat×Nat)(P:Program)(y:IC)(Q:Exit→St→Prop):Exit→St→Prop
 | .normal,st=>dH lo P y Q st
 |e,st=>Q e st
def EF(id:Nat)(Q:Exit→St→Prop):Exit→St→Prop
 | .exit id',st=>if id'=id then Q .normal st else Q (.exit id') st
 |e,st=>Q e st
section
variable{lo:Nat×Nat}{P:Program}{Q:Exit→St→Prop}{st:St}
theorem aeE{c:IC}{Q':Exit→St→Prop}(h:dH lo P c Q st)(hq:∀e st,Q e st→Q' e st):dH lo P c Q' st:=
 fun code hc B Xs G w0 hG E a w hR=>wp_mono (h code hc B Xs G w0 hG E a w hR) fun e a' w' ⟨st',E',h1,h2⟩=>⟨st',E',h1,hq e st' h2⟩
theorem lD(h:Q .normal st):dH lo P .skip Q st:=fun code hc B Xs G w0 hG E a w hR=>by
 cases code with
 |skip=>exact wp_skip ⟨st,E,hR,h⟩
 |label l=>exact wp_label ⟨st,E,hR,h⟩
 |region id ops b=>exact(oL hc (by simp) (by simp)).elim
 |seq x y=>simp only[ak]at hc;split at hc<;>simp at hc
 |cond c x y=>simp only[ak]at hc;split at hc<;>simp at hc
 |block id x=>simp[ak]at hc
 |loop x=>simp[ak]at hc
 |exit id=>simp[ak]at hc
 |ret=>simp[ak]at hc
 |rangeFunc=>simp[ak]at hc
 |scope=>simp[ak]at hc
 |goto=>simp[ak]at hc
 |refuse=>simp[ak]at hc
theorem lF{id:Nat}(h:Q (.exit id) st):dH lo P (.exit id) Q st:=fun code hc B Xs G w0 hG E a w hR=>by
 cases code with
 |exit id=>simp[ak]at hc;subst hc;exact wp_exit ⟨st,E,hR,h⟩
 |skip=>simp[ak]at hc
 |label l=>simp[ak]at hc
 |region id ops b=>exact(oL hc (by simp) (by simp)).elim
 |seq x y=>simp only[ak]at hc;split at hc<;>simp at hc
 |cond c x y=>simp only[ak]at hc;split at hc<;>simp at hc
 |block id x=>simp[ak]at hc
 |loop x=>simp[ak]at hc
 |ret=>simp[ak]at hc
 |rangeFunc=>simp[ak]at hc
 |scope=>simp[ak]at hc
 |goto=>simp[ak]at hc
 |refuse=>simp[ak]at hc
theorem oQ(h:Q .ret st):dH lo P .ret Q st:=fun code hc B Xs G w0 hG E a w hR=>by
 cases code with
 |ret=>exact wp_ret ⟨st,E,hR,h⟩
 |exit id=>simp[ak]at hc
 |skip=>simp[ak]at hc
 |label l=>simp[ak]at hc
 |region id ops b=>exact(oL hc (by simp) (by simp)).elim
 |seq x y=>simp only[ak]at hc;split at hc<;>simp at hc
 |cond c x y=>simp only[ak]at hc;split at hc<;>simp at hc
 |block id x=>simp[ak]at hc
 |loop x=>simp[ak]at hc
 |rangeFunc=>simp[ak]at hc
 |scope=>simp[ak]at hc
 |goto=>simp[ak]at hc
 |refuse=>simp[ak]at hc
theorem oP{x y:IC}(h:dH lo P x (PK lo P y Q) st):dH lo P (.seq x y) Q st:=fun code hc B Xs G w0 hG E a w hR=>by
 cases code with
 | seq cx cy=>
   simp only[ak]at hc;split at hc
   ·next x' y' hx hy=>
    simp only[F_,IC.seq.injEq]at hc;obtain⟨rfl,rfl⟩:=hc;refine wp_seq (wp_mono (h cx hx B Xs G w0 hG E a w hR) ?_);rintro e a' w' ⟨st',E',h1,h2⟩;cases e with
    |normal=>exact h2 cy hy B Xs G w0 hG E' a' w' h1
    |_=>exact⟨st',E',h1,h2⟩
   ·cases hc
 |ret=>simp[ak]at hc
 |exit id=>simp[ak]at hc
 |skip=>simp[ak]at hc
 |label l=>simp[ak]at hc
 |region id ops b=>exact(oL hc (by simp) (by simp)).elim
 |cond c x y=>simp only[ak]at hc;split at hc<;>simp at hc
 |block id x=>simp[ak]at hc
 |loop x=>simp[ak]at hc
 |rangeFunc=>simp[ak]at hc
 |scope=>simp[ak]at hc
 |goto=>simp[ak]at hc
 |refuse=>simp[ak]at hc
theorem JY{c:Opd}{x y:IC}{b:Bool}(hb:st.ev c= .c false [.raw (.bool b)])(h1:b=true→dH lo P x Q st)(h2:b=false→dH lo P y Q st):dH lo P (.cond c x y) Q st:=fun code hc B Xs G w0 hG E a w hR=>by
 cases code with
 | cond o cx cy=>
   simp only[ak]at hc;split at hc
   ·next x' y' hx hy=>
    simp only[F_,IC.cond.injEq]at hc;obtain⟨rfl,rfl,rfl⟩:=hc;have he:=dN hR hb;cases b with
    |true=>exact wp_cond_true he (h1 rfl cx hx B Xs G w0 hG E a w hR)
    |false=>exact wp_cond_false he (h2 rfl cy hy B Xs G w0 hG E a w hR)
   ·cases hc
 |seq x y=>simp only[ak]at hc;split at hc<;>simp at hc
 |ret=>simp[ak]at hc
 |exit id=>simp[ak]at hc
 |skip=>simp[ak]at hc
 |label l=>simp[ak]at hc
 |region id ops b=>exact(oL hc (by simp) (by simp)).elim
 |block id x=>simp[ak]at hc
 |loop x=>simp[ak]at hc
 |rangeFunc=>simp[ak]at hc
 |scope=>simp[ak]at hc
 |goto=>simp[ak]at hc
 |refuse=>simp[ak]at hc
theorem jL{id:Nat}{x:IC}(h:dH lo P x (EF id Q) st):dH lo P (.block id x) Q st:=fun code hc B Xs G w0 hG E a w hR=>by
 cases code with
 | block id' cx=>
   simp only[ak]at hc;obtain⟨x',hx,he⟩:=f_.1 hc;simp only[IC.block.injEq]at he;obtain⟨rfl,rfl⟩:=he;refine wp_block (wp_mono (h cx hx B Xs G w0 hG E a w hR) ?_);rintro e a' w' ⟨st',E',h1,h2⟩;cases e with
   | exit j=>
     simp only[Exit.inBlock,EF]at h2⊢;split
     ·next e=>rw[if_pos e]at h2;exact⟨st',E',h1,h2⟩
     ·next e=>rw[if_neg e]at h2;exact⟨st',E',h1,h2⟩
   |_=>exact⟨st',E',h1,h2⟩
 |cond c x y=>simp only[ak]at hc;split at hc<;>simp at hc
 |seq x y=>simp only[ak]at hc;split at hc<;>simp at hc
 |ret=>simp[ak]at hc
 |exit id=>simp[ak]at hc
 |skip=>simp[ak]at hc
 |label l=>simp[ak]at hc
 |region id ops b=>exact(oL hc (by simp) (by simp)).elim
 |loop x=>simp[ak]at hc
 |rangeFunc=>simp[ak]at hc
 |scope=>simp[ak]at hc
 |goto=>simp[ak]at hc
 |refuse=>simp[ak]at hc
theorem iC{ops:List IOp}(h:∀K:St→Prop,(∀st',Q .normal st'→K st')→sw P K ops st):dH lo P (.reg false ops) Q st:=fun code hc B Xs G w0 hG E a w hR=>by
 cases code with
 | region id cops b=>
   cases b with
   | true=>
     simp only[ak]at hc;split at hc
     ·split at hc
      ·rcases rZ hc with⟨hc,_⟩|⟨Ts,hc,_⟩<;>simp at hc
      ·cases hc
     ·cases hc
   | false=>
     simp only[ak]at hc;obtain⟨l,hl,he⟩:=f_.1 hc;simp only[IC.reg.injEq]at he;obtain⟨_,rfl⟩:=he;exact wp_region_list (DK (K:=Q .normal) (fun st' E' a' w' h1 h2=>⟨st',E',h1,h2⟩) _ _ st E a w hl hR (h _ fun _ h=>h))
 |block id x=>simp[ak]at hc
 |cond c x y=>simp only[ak]at hc;split at hc<;>simp at hc
 |seq x y=>simp only[ak]at hc;split at hc<;>simp at hc
 |ret=>simp[ak]at hc
 |exit id=>simp[ak]at hc
 |skip=>simp[ak]at hc
 |label l=>simp[ak]at hc
 |loop x=>simp[ak]at hc
 |rangeFunc=>simp[ak]at hc
 |scope=>simp[ak]at hc
 |goto=>simp[ak]at hc
 |refuse=>simp[ak]at hc
theorem mg{ops:List IOp}(m:Bool)(hm:m=ops.any fun o=>o.i.cls==3)(h:∀K:St→Prop,(∀st',Q .normal st'→K st')→sd P m K ops st):dH lo P (.reg true ops) Q st:=fun code hc B Xs G w0 hG E a w hR=>by
 cases code with
 | region id cops b=>
   cases b with
   | false=>
     simp only[ak]at hc;obtain⟨l,hl,he⟩:=f_.1 hc;simp at he
   | true=>
     simp only[ak]at hc;split at hc
     ·next l hl=>
      split at hc
      ·next hd=>
       rcases rZ hc with⟨hc,hb⟩|⟨Ts,hc,_⟩
       ·simp only[IC.reg.injEq]at hc;obtain⟨_,rfl⟩:=hc;exact agN (K:=Q .normal) hd hl hb hm (fun st' E' a' w' h1 h2=>⟨st',E',h1,h2⟩) (h _ fun _ h=>h) hR
       ·cases hc
      ·cases hc
     ·cases hc
 |block id x=>simp[ak]at hc
 |cond c x y=>simp only[ak]at hc;split at hc<;>simp at hc
 |seq x y=>simp only[ak]at hc;split at hc<;>simp at hc
 |ret=>simp[ak]at hc
 |exit id=>simp[ak]at hc
 |skip=>simp[ak]at hc
 |label l=>simp[ak]at hc
 |loop x=>simp[ak]at hc
 |rangeFunc=>simp[ak]at hc
 |scope=>simp[ak]at hc
 |goto=>simp[ak]at hc
 |refuse=>simp[ak]at hc
theorem Nu{ops:List IOp}{Ts:List Nat}(m:Bool)(hm:m=ops.any fun o=>o.i.cls==3)(h:∀K:St→Prop,(∀st',Q .normal st'→K st')→sd P m K ops st):dH lo P (.regN true Ts ops) Q st:=fun code hc B Xs G w0 hG E a w hR=>by
 cases code with
 | region id cops b=>
   cases b with
   | false=>
     simp only[ak]at hc;obtain⟨l,hl,he⟩:=f_.1 hc;simp at he
   | true=>
     simp only[ak]at hc;split at hc
     ·next l hl=>
      split at hc
      ·next hd=>
       rcases rZ hc with⟨hc,hb⟩|⟨Ts,hc,_⟩
       ·cases hc
       ·simp only[IC.regN.injEq]at hc;obtain⟨hb,_,rfl⟩:=hc;exact agN (K:=Q .normal) hd hl hb.symm hm (fun st' E' a' w' h1 h2=>⟨st',E',h1,h2⟩) (h _ fun _ h=>h) hR
      ·cases hc
     ·cases hc
 |block id x=>simp[ak]at hc
 |cond c x y=>simp only[ak]at hc;split at hc<;>simp at hc
 |seq x y=>simp only[ak]at hc;split at hc<;>simp at hc
 |ret=>simp[ak]at hc
 |exit id=>simp[ak]at hc
 |skip=>simp[ak]at hc
 |label l=>simp[ak]at hc
 |loop x=>simp[ak]at hc
 |rangeFunc=>simp[ak]at hc
 |scope=>simp[ak]at hc
 |goto=>simp[ak]at hc
 |refuse=>simp[ak]at hc
theorem aA{ops:List IOp}{Ts:List Nat}{b:Bool}(kc:Nat)(m:Bool)(hD:dU Ts st)(h:∀K:St→Prop,(∀st',Q .normal st'→K st')→sn P kc m Ts K ops st)(hS:abx Ts=true→∀y∈Ts,∀k off,st.ev (.t y)= .bptr k off→k=kc:=by first|(intro h;exact absurd h (by decide))|(simp[abx,St.ev,List.getD_cons_zero,List.getD_cons_succ];done)):dH lo P (.regN b Ts ops) Q st:=fun code hc B Xs G w0 hG E a w hR=>by
 cases code with
 | region id cops b=>
   cases b with
   | false=>
     simp only[ak]at hc;obtain⟨l,hl,he⟩:=Option.map_eq_some_iff.1 hc;simp at he
   | true=>
     simp only[ak]at hc;split at hc
     ·next l hl=>
      split at hc
      ·next hd=>
       rcases rZ hc with⟨hc,hb⟩|⟨Ts,hc,hb⟩
       ·cases hc
       ·simp only[IC.regN.injEq]at hc;obtain⟨_,rfl,rfl⟩:=hc;exact ah8 (K:=Q .normal) (kc:=kc) (m:=m) hd hl hb ⟨hD,hS⟩ (fun st' E' a' w' h1 h2=>⟨st',E',h1,h2⟩) (h _ fun _ h=>h) hR
      ·cases hc
     ·cases hc
 |block id x=>simp[ak]at hc
 |cond c x y=>simp only[ak]at hc;split at hc<;>simp at hc
 |seq x y=>simp only[ak]at hc;split at hc<;>simp at hc
 |ret=>simp[ak]at hc
 |exit id=>simp[ak]at hc
 |skip=>simp[ak]at hc
 |label l=>simp[ak]at hc
 |loop x=>simp[ak]at hc
 |rangeFunc=>simp[ak]at hc
 |scope=>simp[ak]at hc
 |goto=>simp[ak]at hc
 |refuse=>simp[ak]at hc
theorem bg{st:St}:dU [] st:=fun x hx=>by simp at hx
def AC.fits(n m:Nat):AC→Bool
 | .own k _=>decide (k<n)
 | .osub k _ _ _=>decide (k<n)
 | .cl _ caps=>caps.all fun k=>decide (k<m)
 |_=>true
def AV.fits(n m:Nat):AV→Bool
 | .c _ xs=>xs.all (AC.fits n m)
 | .ptr xs=>xs.all (AC.fits n m)
 | .bptr k _=>decide (k<m)
 | .eptr k _ _ _=>decide (k<n)
 | .tup ys=>ys.all fun y=>y.2.all (AC.fits n m)
 | .any=>true
def aU(n m:Nat):List AV→List AV→Prop
 | [],[]=>True
 |x::xs,y::ys=>(y= .any∨(x=y∧y.fits n m=true))∧aU n m xs ys
 |_,_=>False
def aa5(st st':St):Prop:=aU st'.owns.length st'.boxes.length st.fr st'.fr∧(∃r,st.owns=st'.owns++r)∧(∃r,st.boxes=st'.boxes++r)∧∀xs∈st'.boxes,xs.all (AC.fits st'.owns.length st'.boxes.length)=true
def aC :List Own→List Own→Prop
 |_,[]=>True
 |o::os,o'::os'=>(o.l=o'.l∧o.e=o'.e∧o.s=o'.s∧o.ver=o'.ver∧o.nw=o'.nw)∧aC os os'
 | [],_::_=>False
def aF :List (List AC)→List (List AC)→Prop
 |_,[]=>True
 |x::xs,y::ys=>x=y∧aF xs ys
 | [],_::_=>False
def aG(st st':St):Prop:=aU st'.owns.length st'.boxes.length st.fr st'.fr∧aC st.owns st'.owns∧aF st.boxes st'.boxes∧(st'.boxes.all fun xs=>xs.all (AC.fits st'.owns.length st'.boxes.length))=true
theorem vO :∀{os os':List Own},aC os os'→∃r,os=os'++r
 |os,[],_=>⟨os,rfl⟩
 | o::os,o'::os',h=>by
   obtain⟨r,hr⟩:=vO h.2;obtain⟨⟨h1,h2,h3,h4,h5⟩,_⟩:=h;refine⟨r, ?_⟩;rw[H_,← hr];congr 1;cases o;cases o';simp_all
 | [],_::_,h=>h.elim
theorem wF :∀{xs ys:List (List AC)},aF xs ys→∃r,xs=ys++r
 |xs,[],_=>⟨xs,rfl⟩
 | x::xs,y::ys,h=>by
   obtain⟨r,hr⟩:=wF h.2;exact⟨r,by rw[H_,← hr,h.1]⟩
 | [],_::_,h=>h.elim
theorem Gp{st st':St}(h:aG st st'):aa5 st st':=by
 obtain⟨h1,h2,h3,h4⟩:=h;exact⟨h1,vO h2,wF h3,fun xs hx=>v_.1 h4 xs hx⟩
section
variable{E:Env}{os os':List Own}{w:World}{n m:Nat}
def Env.cut(E:Env)(n m:Nat):Env:={E with om:=E.om.take n,bm:=E.bm.take m}
theorem Za{b:Nat}(h:b∈(E.cut n m).M):b∈E.M:=by
 rcases iV.1 h with⟨k,p,h1,h2⟩|⟨k,p,h1,h2⟩
 ·refine iV.2 (r_ ⟨k,p, ?_,h2⟩);simp only[Env.cut]at h1;rw[d_]at h1;split at h1
  ·exact h1
  ·cases h1
 ·refine iV.2 (m_ ⟨k,p, ?_,h2⟩);simp only[Env.cut]at h1;rw[d_]at h1;split at h1
  ·exact h1
  ·cases h1
theorem AC.ok.cut{r:List Own}{x:AC}{v:Value}(h:x.ok E (os++r) w v)(hn:os.length=n)(hf:x.fits n m=true):x.ok (E.cut n m) os w v:=by
 cases x with
 |any=>trivial
 |raw u=>exact h
 | cl f caps=>
   obtain⟨ps,h1,h2⟩:=h;refine⟨ps, ?_,h2⟩;rw[← h1];refine X_ fun k hk=> ?_
   have:k<m:=by simpa using v_.1 hf k hk
   simp only[Env.cut];rw[d_,if_pos this]
 | sl b l=>
   obtain⟨fp,h1,h2⟩:=h;exact⟨fp,h1,fun b hb=>⟨fun hm=>(h2 b hb).1 (Za hm),(h2 b hb).2⟩⟩
 | own k i=>
   obtain⟨hv,o,p,h1,h2,h3,h4⟩:=h;have hk:k<n:=by simpa[AC.fits]using hf
   refine⟨hv,o,p, ?_, ?_,h3,h4⟩
   ·rwa[i_ (by omega)]at h1
   ·simp only[Env.cut];rw[d_,if_pos hk];exact h2
 | osub k i pa pb=>
   obtain⟨hv,o,p,h1,h2,h3,h4⟩:=h;have hk:k<n:=by simpa[AC.fits]using hf
   refine⟨hv,o,p, ?_, ?_,h3,h4⟩
   ·rwa[i_ (by omega)]at h1
   ·simp only[Env.cut];rw[d_,if_pos hk];exact h2
theorem Oks.cut{r:List Own}(hn:os.length=n):∀{xs:List AC} {vs:List Value},Oks E (os++r) w xs vs→xs.all (AC.fits n m)=true→Oks (E.cut n m) os w xs vs
 | [],[],_,_=>trivial
 | x::xs,v::vs,h,hf=>by
   simp only[n_,g_]at hf;exact⟨h.1.cut hn hf.1,Oks.cut hn h.2 hf.2⟩
 | [],_::_,h,_=>h.elim
 |_::_,[],h,_=>h.elim
theorem Gok.cut{r:List Own}(hn:os.length=n){g:Bool}{xs:List AC}{v:Value}(h:Gok E (os++r) w g xs v)(hf:xs.all (AC.fits n m)=true):Gok (E.cut n m) os w g xs v:=by
 cases g with
 |true=>obtain⟨vs,h1,h2⟩:=h;exact⟨vs,h1,h2.cut hn hf⟩
 |false=>exact Oks.cut hn (show Oks _ _ _ xs [v] from h) hf
theorem uG.cut{r:List Own}(hn:os.length=n):∀{ys:List (Bool×List AC)} {vs:List Value},uG E (os++r) w ys vs→(ys.all fun y=>y.2.all (AC.fits n m))=true→uG (E.cut n m) os w ys vs
 | [],[],_,_=>trivial
 | x::xs,v::vs,h,hf=>by
   simp only[n_,g_]at hf;exact⟨h.1.cut hn hf.1,uG.cut hn h.2 hf.2⟩
 | [],_::_,h,_=>h.elim
 |_::_,[],h,_=>h.elim
theorem AV.ok.cut{r:List Own}(hn:os.length=n){x:AV}{v:Value}(h:x.ok E (os++r) w v)(hf:x.fits n m=true):x.ok (E.cut n m) os w v:=by
 cases x with
 |any=>trivial
 |c g xs=>exact Gok.cut hn h hf
 | ptr xs=>
   obtain⟨b,o,vs,h1,h2,h3,h4,h5⟩:=h;exact⟨b,o,vs,h1,h2,fun hm=>h3 (Za hm),h4,h5.cut hn hf⟩
 | bptr k off=>
   obtain⟨p,h1,h2⟩:=h;refine⟨p, ?_,h2⟩;simp only[Env.cut];rw[d_,if_pos (by simpa[AV.fits]using hf)];exact h1
 | eptr k i j off=>
   obtain⟨o,p,h1,h2,h3,h4⟩:=h;have hk:k<n:=by simpa[AV.fits]using hf
   refine⟨o,p, ?_, ?_,h3,h4⟩
   ·rwa[i_ (by omega)]at h1
   ·simp only[Env.cut];rw[d_,if_pos hk];exact h2
 | tup ys=>
   obtain⟨vs,h1,h2⟩:=h;exact⟨vs,h1,h2.cut hn hf⟩
end
theorem TI{n m:Nat}:∀{xs ys:List AV},aU n m xs ys→xs.length=ys.length∧∀(t:Nat) (y:AV),ys[t]? =some y→y= .any∨(xs[t]? =some y∧y.fits n m=true)
 | [],[],_=>⟨rfl,fun t y h=>by simp at h⟩
 | x ::xs,y::ys,h=>by
   obtain⟨h1,h2⟩:=TI h.2;refine⟨by simp[h1],fun t z hz=> ?_⟩;cases t with
   | zero=>
     simp at hz;subst hz;rcases h.1 with h'|⟨h',h''⟩
     ·exact r_ h'
     ·exact m_ ⟨by simp[h'],h''⟩
   |succ t=>simpa using h2 t z (by simpa using hz)
 | [],_::_,h=>h.elim
 |_::_,[],h=>h.elim
theorem Rel.weak{B:Nat}{Xs:List Nat}{G:Org}{w0:World}{st st':St}{E:Env}{a:Act}{w:World}(h:Rel B Xs G w0 st E a w)(hle:aa5 st st')(hG1:G.os.length≤st'.owns.length)(hG2:G.E.bm.length≤st'.boxes.length):∃E',Rel B Xs G w0 st' E' a w:=by
 obtain⟨h1,⟨r1,h2⟩,⟨r2,h3⟩,h4⟩:=hle;obtain⟨hl,hf⟩:=TI h1;obtain⟨fr,os,bs⟩:=st;obtain⟨fr',os',bs'⟩:=st';simp only at h2 h3 h1 hl hf h4;subst h2 h3;have hol:=h.olen;have hbl:=h.blen;simp only[List.length_append]at hol hbl;refine⟨E.cut os'.length bs'.length, ?_⟩;exact
  { eb:=h.eb
    ex:=h.ex
    sim := { base:=h.sim.base,size:=h.sim.size,blk:=h.sim.blk,old:=fun b hb hm=>h.sim.old b hb (Za hm),
             own:=fun k o p g1 g2=>by
              obtain⟨o',p',q1,q2,q3⟩:=h.sim.own k o p g1 g2;have hk:k<os'.length:=D_ (b_.1 g1).1 hG1;refine⟨o',p', ?_, ?_,q3⟩
              ·simp only at q1⊢;rwa[i_ hk]at q1
              ·simp only[Env.cut];rw[d_,if_pos hk];exact q2
             box:=fun k p g=>by
              have hk:k<bs'.length:=D_ (b_.1 g).1 hG2;simp only[Env.cut];rw[d_,if_pos hk];exact h.sim.box k p g}
    defers:=h.defers
    size:=by rw[h.size];exact hl
    fr:=fun t y hy=>by
     rcases hf t y hy with rfl|⟨h5,h6⟩
     ·trivial
     ·exact(h.fr t y h5).cut rfl h6
    olen:=by simp only[Env.cut,M_];omega
    own:=fun k o p g1 g2=>by
     have hk:k<os'.length:=(b_.1 g1).1;simp only[Env.cut]at g2;rw[d_,if_pos hk]at g2;obtain⟨cs,h5,h6,h7,h8⟩:=h.own k o p (by simp only;rw[i_ hk];exact g1) g2;exact⟨cs,h5,h6,h7,fun b hb=>⟨fun hm=>(h8 b hb).1 (Za hm),(h8 b hb).2⟩⟩
    blen:=by simp only[Env.cut,M_];omega
    box:=fun k xs p g1 g2=>by
     have hk:k<bs'.length:=(b_.1 g1).1;simp only[Env.cut]at g2;rw[d_,if_pos hk]at g2;obtain⟨h5,vs,h6,h7⟩:=h.box k xs p (by simp only;rw[i_ hk];exact g1) g2;exact⟨h5,vs,h6,h7.cut rfl (h4 xs (e_ g1))⟩
    nodup:=by
     have:=h.nodup;unfold Env.M at this⊢;rw[l_]at this⊢;refine⟨this.1.sublist (by simp only[Env.cut];exact(x_ _ _).map _),this.2.1.sublist (by
      simp only[Env.cut];have e:=congrArg (a_A (fun p:Value×List Nat=>p.1.ownBlock.toList)) (List.take_append_drop os'.length E.om);rw[List.flatMap_append]at e;rw[← e];exact List.sublist_append_left _ _),fun x hx y hy=> ?_⟩
     refine this.2.2 x ?_ y ?_
     ·exact((x_ bs'.length E.bm).map _).subset hx
     ·obtain⟨p,hp,hpy⟩:=j_.1 hy;exact j_.2 ⟨p,List.mem_of_mem_take hp,hpy⟩
    lin:=by
     refine h.lin.map (fun k=>k) (fun j k e _ _=>e) fun k o p g1 g2 g3=>m_ ⟨o, ?_, ?_,g3⟩
     ·simp only;rw[i_ (b_.1 g1).1];exact g1
     ·simp only[Env.cut]at g2;rwa[d_,if_pos (b_.1 g1).1]at g2
    unf:=by
     refine h.unf.map (fun k=>k) fun k o p g1 g2 g3=>m_ ⟨o, ?_, ?_,g3⟩
     ·simp only;rw[i_ (b_.1 g1).1];exact g1
     ·simp only[Env.cut]at g2;rwa[d_,if_pos (b_.1 g1).1]at g2
    below:=h.below
    base:=h.base}
theorem aaW{c:IC}{st':St}(hle:aa5 st st')(h1:lo.1≤st'.owns.length)(h2:lo.2≤st'.boxes.length)(h:dH lo P c Q st'):dH lo P c Q st:=fun code hc B Xs G w0 hG E a w hR=>by
 obtain⟨E',hR'⟩:=hR.weak hle (p_ hG.1 h1) (p_ hG.2 h2);exact h code hc B Xs G w0 hG E' a w hR'
theorem DJ{P:Program}{Q:Exit→Act→World→Prop}{a:Act}{w:World}{c:Code}(I:Nat→Act→World→Prop)(n:Nat)(h₀:I n a w)
 (round:∀n a w,I n a w→c.wp P (Exit.then (fun a' w'=>∃m,m<n∧I m a' w') Q) a w):(Code.loop c).wp P Q a w:=by
 intro b k cs;have key:∀n a w,I n a w→∃e a' w',Q e a' w'∧Arrives P (lone (b.at a (.code c:: .inLoop c::k)) cs w) b k cs e a' w':=by
  intro n
  induction n using Nat.strongRecOn with
  | _ n ih=>
    intro a w hI;obtain⟨e,a₁,w₁,hq,harr⟩:=round n a w hI b (.inLoop c::k) cs;cases e with
    | normal=>
      obtain⟨m,hlt,hI₁⟩:=hq;obtain⟨e₂,a₂,w₂,hq₂,harr₂⟩:=ih m hlt a₁ w₁ hI₁;exact⟨e₂,a₂,w₂,hq₂,.of_steps (Steps.trans harr (.one step_inLoop)) harr₂⟩
    |exit id=>exact⟨_,a₁,w₁,hq,.pass (x:= .inLoop c) rfl (fun _ _=> .inl (by simp)) harr⟩
    |goto l=>exact⟨_,a₁,w₁,hq,.pass (x:= .inLoop c) rfl (fun _ _=> .inl (by simp)) harr⟩
    |ret=>exact⟨_,a₁,w₁,hq,.pass (x:= .inLoop c) rfl (fun _ _=> .inl (by simp)) harr⟩
    |panic ch=>exact⟨_,a₁,w₁,hq,.pass (x:= .inLoop c) rfl (fun _ _=> .inl (by simp)) harr⟩
    |outgrown=>exact⟨_,a₁,w₁,hq,.pass (x:= .inLoop c) rfl (fun _ _=> .inl (by simp)) harr⟩
 obtain⟨e,a',w',hq,harr⟩:=key n a w h₀;exact⟨e,a',w',hq,.of_steps (.one step_loop) harr⟩
def Bq{X:Type}(F:X→St)(inv:X→Prop)(μ:X→Nat)(x:X)(Q:Exit→St→Prop):Exit→St→Prop
 | .normal,st=>∃x',aa5 st (F x')∧inv x'∧μ x'<μ x
 |e,st=>Q e st
theorem Nv{X:Type}{c:IC}(F:X→St)(inv:X→Prop)(μ:X→Nat)(x0:X)(h0:inv x0)(hlo:∀x,lo.1≤(F x).owns.length∧lo.2≤(F x).boxes.length)(hle:aa5 st (F x0))(round:∀x,inv x→dH lo P c (Bq F inv μ x Q) (F x)):dH lo P (.loop c) Q st:=fun code hc B Xs G w0 hG E a w hR=>by
 cases code with
 | loop cc=>
   simp only[ak]at hc;obtain⟨c',hcc,he⟩:=f_.1 hc;simp only[IC.loop.injEq]at he;subst he;obtain⟨E',hR'⟩:=hR.weak hle (p_ hG.1 (hlo _).1) (p_ hG.2 (hlo _).2);refine DJ (fun n a w=>∃x E,μ x=n∧inv x∧Rel B Xs G w0 (F x) E a w) (μ x0) ⟨x0,E',rfl,h0,hR'⟩ ?_;rintro n a w ⟨x,E,rfl,hx,hR⟩;refine wp_mono (round x hx cc hcc B Xs G w0 hG E a w hR) ?_;rintro e a' w' ⟨st',E',h1,h2⟩;cases e with
   | normal=>
     obtain⟨x',h3,h4,h5⟩:=h2;obtain⟨E'',h6⟩:=h1.weak h3 (p_ hG.1 (hlo _).1) (p_ hG.2 (hlo _).2);exact⟨μ x',h5,x',E'',rfl,h4,h6⟩
   |_=>exact⟨st',E',h1,h2⟩
 |region id cops b=>exact(oL hc (by simp) (by simp)).elim
 |block id x=>simp[ak]at hc
 |cond c x y=>simp only[ak]at hc;split at hc<;>simp at hc
 |seq x y=>simp only[ak]at hc;split at hc<;>simp at hc
 |ret=>simp[ak]at hc
 |exit id=>simp[ak]at hc
 |skip=>simp[ak]at hc
 |label l=>simp[ak]at hc
 |rangeFunc=>simp[ak]at hc
 |scope=>simp[ak]at hc
 |goto=>simp[ak]at hc
 |refuse=>simp[ak]at hc
theorem aeF{X:Type}{c:IC}(F:X→St)(inv:X→Prop)(μ:X→Nat)(x0:X)(h0:inv x0)(hle:aa5 st (F x0))(round:∀x,inv x→AWP P c (Bq F inv μ x Q) (F x)):AWP P (.loop c) Q st:=
 Nv F inv μ x0 h0 (fun _=>⟨u_ _,u_ _⟩) hle round
end
def stN(b:Bool)(n:Nat)(ds:List D):St:=⟨ds.map (D.avN b)++E_ (n - ds.length) (.c false [.raw undef]),[],[]⟩
def st0(n:Nat)(ds:List D):St:=⟨ds.map D.av++E_ (n - ds.length) (.c false [.raw undef]),[],[]⟩
theorem aiG{w:World}{F:List Nat}{d:D}{v:Value}{H:Nat}{b:Bool}(h:RdF w F d v):(D.avN b d).ok ⟨H,[],[],if b then F else []⟩ [] w v:=by
 unfold RdF at h;show Gok _ _ _ d.isAgg (d.acs b) v;unfold Gok;have hn:∀x∈F,b=true→(⟨H,[],[],if b then F else []⟩:Env).nw x:=fun x hx e=>by subst e;exact m_ hx
 cases hg:d.isAgg with
 | true=>
   rw[hg,if_pos rfl]at h;obtain⟨fp,cs,h1,h2,h3⟩:=h;rw[if_pos rfl];exact⟨cs,h1,tC h2 (fun x hx=>⟨by simp[Env.M],hn x (h3 x hx)⟩)⟩
 | false=>
   rw[hg,if_neg (by simp)]at h;obtain⟨fp,h2,h3⟩:=h;rw[if_neg (by simp)];exact tC h2 (fun x hx=>⟨by simp[Env.M],hn x (h3 x hx)⟩)
theorem HY{w:World}{F:List Nat}:∀{ds:List D} {vs:List Value},Ez w F ds vs→ds.length=vs.length∧∀(t:Nat) (d:D),ds[t]? =some d→∃v,vs[t]? =some v∧RdF w F d v
 | [],[],_=>⟨rfl,fun t d h=>by simp at h⟩
 | d::ds,v::vs,h=>by
   obtain⟨h1,h2⟩:=HY h.2;refine⟨by simp[h1],fun t x hx=> ?_⟩;cases t with
   |zero=>simp at hx;subst hx;exact⟨v,rfl,h.1⟩
   |succ t=>simpa using h2 t x (by simpa using hx)
 | [],_::_,h=>h.elim
 |_::_,[],h=>h.elim
theorem ahw{w:World}{d:D}{v:Value}(h:Rd w d v):∃F,RdF w F d v:=by
 unfold Rd at h;unfold RdF;split at h
 ·obtain⟨fp,cs,h1,h2⟩:=h;exact⟨fp,by rw[if_pos ‹_›];exact⟨fp,cs,h1,h2,fun b hb=>hb⟩⟩
 ·obtain⟨fp,h2⟩:=h;exact⟨fp,by rw[if_neg ‹_›];exact⟨fp,h2,fun b hb=>hb⟩⟩
theorem Qp{w:World}:∀{ds:List D} {vs:List Value},Rds w ds vs→∃F,Ez w F ds vs
 | [],[],_=>⟨[],trivial⟩
 | d::ds,v::vs,h=>by
   obtain⟨F1,h1⟩:=ahw h.1;obtain⟨F2,h2⟩:=Qp h.2;exact⟨F1++F2,h1.mono (fun b hb=>A_ _ hb),h2.mono (fun b hb=>y_ _ hb)⟩
 | [],_::_,h=>h.elim
 |_::_,[],h=>h.elim
theorem ZQ{w:World}{F:List Nat}{ds:List D}{vs:List Value}(b:Bool)(h:Ez w F ds vs)(ht:zH w)(n:Nat):Rel w.heap.size (if b then F else []) ⟨⟨w.heap.size,[],[],if b then F else []⟩,[],w⟩ w (stN b n ds) ⟨w.heap.size,[],[],if b then F else []⟩ {tmps:=vs.toArray++Array.replicate (n - vs.toArray.size) undef,defers:= []} w where
 eb:=s_ _
 ex:=rfl
 sim:=Sim.refl _ _ _
 defers:=rfl
 size:=by
  obtain⟨hl,_⟩:=HY h;simp[stN,hl]
 fr :=by
  obtain⟨hl,hg⟩:=HY h;intro t x hx;simp only[stN]at hx;rw[W_]at hx;simp only[Array.getD_eq_getD_getElem?];split at hx
  ·next ht=>
   rw[t_]at hx;obtain⟨d,hd,rfl⟩:=f_.1 hx;obtain⟨v,hv,hr⟩:=hg t d hd;rw[Array.getElem?_append_left (by simp at ht⊢;omega)];simp only[U_,hv,k_];exact aiG hr
  ·next ht=>
   rw[N_]at hx;split at hx
   ·next hlt=>
    injection hx with hx
    subst hx;simp only[C_]at ht hlt;rw[Array.getElem?_append_right (by simp;omega),Array.getElem?_replicate];simp only[a_h,← hl];rw[if_pos hlt];exact⟨rfl,trivial⟩
   ·cases hx
 olen:=rfl
 own:=fun k o p h1 h2=>by simp[stN]at h1
 blen:=rfl
 box:=fun k xs p h1 h2=>by simp[stN]at h1
 nodup:=by simp[Env.M]
 lin:=Lin.nil
 unf:=Unf.nil
 below:=BelowT.start ht
 base:=s_ _
def iG(Fin:St→Prop):Exit→St→Prop
 | .normal,st=>Fin st
 | .ret,st=>Fin st
 |_,_=>False
theorem JR{P:Program}{f:Nat}{fn:Func}{code:Code}{ic:IC}{ds:List D}{Fin:St→Prop}{post:List Nat→World→Ending→World→Prop}(b:Bool)(hf:P.funcs[f]? =some fn)(hb:fn.body=some code)(hc:ak P code=some ic)
 (h:AWP P ic (iG Fin) (stN b fn.ntmps ds))
 (hfin:∀(F:List Nat) (G:Org) (w w':World) (st:St) (E:Env) (a:Act),Rel w.heap.size (if b then F else []) G w st E a w'→Fin st→∃v,(results fn a.tmps).run P w'= .ok v w'∧post F w (.returned v) w'):
 ∀(w:World) (F:List Nat) (vs:List Value),Ez w F ds vs→zH w→Calls P f vs.toArray w (post F w):=by
 intro w F vs hr ht;refine calls_of_wp hf hb ?_;have:=h code hc w.heap.size _ _ w ⟨s_ _,s_ _⟩ _ _ w (ZQ b hr ht fn.ntmps);refine wp_mono this ?_;rintro e a' w' ⟨st',E',h1,h2⟩;cases e with
 | normal=>
   obtain⟨v,h3,h4⟩:=hfin F _ w w' st' E' a' h1 h2;exact⟨h1.defers,v,h3,h4⟩
 | ret=>
   obtain⟨v,h3,h4⟩:=hfin F _ w w' st' E' a' h1 h2;exact⟨h1.defers,v,h3,h4⟩
 |_=>exact h2.elim
theorem qW{P:Program}{f:Nat}{fn:Func}{code:Code}{ic:IC}{ds:List D}{Fin:St→Prop}{post:World→Ending→World→Prop}(hf:P.funcs[f]? =some fn)(hb:fn.body=some code)(hc:ak P code=some ic)
 (h:AWP P ic (iG Fin) (st0 fn.ntmps ds))
 (hfin:∀(G:Org) (w w':World) (st:St) (E:Env) (a:Act),Rel w.heap.size [] G w st E a w'→Fin st→∃v,(results fn a.tmps).run P w'= .ok v w'∧post w (.returned v) w'):
 ∀(w:World) (vs:List Value),Rds w ds vs→zH w→Calls P f vs.toArray w (post w):=by
 intro w vs hr ht;obtain⟨F,hF⟩:=Qp hr;exact JR (post:=fun _=>post) false hf hb hc h (fun F G w w' st E a hR=>hfin G w w' st E a hR) w F vs hF ht
def jR(l:List D):Prop:=∀(w:World) (f:List Nat) (cs:List Value),Rs w l f cs→f= []
def gX(os:List Own):AC→AC→Prop
 |_,.any=>True
 | .raw v,.raw u=>v=u
 | .sl n l,.sl _ l'=>n=true∧l=l'
 | .own k i,.sl _ l=>∃o,os[k]? =some o∧o.ver=i∧o.l=l∧(o.nw.n=true∨jR l)
 | .raw v,.sl _ l=>v= .slice none 0 0∧l= []
 |_,_=>False
def qc(os:List Own):List AC→List AC→Prop
 | [],[]=>True
 |x::xs,y::ys=>gX os x y∧qc os xs ys
 |_,_=>False
section
variable{B:Nat}{Xs:List Nat}{G:Org}{w0:World}{st:St}{E E':Env}{a:Act}{w:World}
def ED(B:Nat)(Xs:List Nat)(E':Env):Prop:=∀b,(B≤b∨b∈Xs)→b∉E'.M∧E'.nw b
theorem Gw(B:Nat):ED B [] (qA B):=fun b hb=>by
 have:B≤b:=by simpa using hb
 exact⟨rJ.2 this,r_ this⟩
theorem afq(B:Nat)(F:List Nat):ED B F (lW B F):=fun b hb=>⟨BU.2 hb,hb⟩
theorem Ig(h:Rel B Xs G w0 st E a w){b:Nat}(hb:E.nw b):B≤b∨b∈Xs:=by
 unfold Env.nw at hb;rw[h.ex]at hb;exact hb.imp_left (p_ h.eb)
theorem aa3(h:Rel B Xs G w0 st E a w)(hE:ED B Xs E'){x y:AC}{v:Value}(hf:gX st.owns x y)(hx:x.ok E st.owns w v):y.ok E' [] w v:=by
 cases y with
 |any=>trivial
 | raw u=>cases x with
   |raw v'=>obtain rfl:=hf;exact hx
   |_=>exact hf.elim
 | sl n l=>cases x with
   | sl n' l'=>
     obtain⟨rfl,rfl⟩:=hf;obtain⟨fp,h1,h2⟩:=hx;refine⟨fp,h1,fun b hb=> ?_⟩;have hB:=hE b (Ig h ((h2 b hb).2 rfl));exact⟨hB.1,fun _=>hB.2⟩
   | own k i=>
     obtain⟨o,h1,h2,rfl,h3⟩:=hf;obtain⟨_,o',p,g1,g2,g3,g4⟩:=hx;rw[h1]at g1;injection g1 with g1
     subst g1;obtain rfl:=g4 h2;obtain⟨cs,h5,h6,h7,h8⟩:=h.own k o p h1 g2;refine⟨_,Sl.nD h5 h6,fun b hb=> ?_⟩;have hB:E.nw b:=by
      rcases q_.1 hb with hb|hb
      ·exact h.xM (bF.lt h5 b (by simpa using hb)).1
      ·rcases h3 with h3|h3
       ·exact(h8 b hb).2 h3
       ·rw[h3 _ _ _ h6]at hb;simp at hb
     have hB:=hE b (Ig h hB);exact⟨hB.1,fun _=>hB.2⟩
   | raw v'=>
     obtain⟨rfl,rfl⟩:=hf;obtain rfl:=hx;refine⟨[], ?_,fun b hb=>by simp at hb⟩;unfold Sl;rw[R];exact⟨none,0,rfl,s_ _,u_ _,r_ ⟨rfl,rfl⟩⟩
   |any=>exact hf.elim
   |osub _ _ _ _=>exact hf.elim
   |cl _ _=>exact hf.elim
 |own k i=>cases x<;>exact hf.elim
 |osub k i pa pb=>cases x<;>exact hf.elim
 |cl f caps=>cases x<;>exact hf.elim
theorem wH(h:Rel B Xs G w0 st E a w)(hE:ED B Xs E'):∀{xs ys:List AC} {vs:List Value},qc st.owns xs ys→Oks E st.owns w xs vs→Oks E' [] w ys vs
 | [],[],[],_,_=>trivial
 |x::xs,y::ys,v::vs,hf,hx=>⟨aa3 h hE hf.1 hx.1,wH h hE hf.2 hx.2⟩
 | [],[],_::_,_,hx=>hx.elim
 |_::_,_::_,[],_,hx=>hx.elim
 | [],_::_,_,hf,_=>hf.elim
 |_::_,[],_,hf,_=>hf.elim
theorem TG(h:Rel B Xs G w0 st E a w)(hE:ED B Xs E'){g:Bool}{xs ys:List AC}{v:Value}(hf:qc st.owns xs ys)(hx:Gok E st.owns w g xs v):Gok E' [] w g ys v:=by
 cases g with
 |true=>obtain⟨vs,h1,h2⟩:=hx;exact⟨vs,h1,wH h hE hf h2⟩
 |false=>exact wH h hE hf (show Oks _ _ _ xs [v] from hx)
end
theorem FH{os:List Own}:∀{xs ys:List AC},qc os xs ys→xs.length=ys.length
 | [],[],_=>rfl
 |_::xs,_::ys,h=>by rw[w_,w_,FH h.2]
 | [],_::_,h=>h.elim
 |_::_,[],h=>h.elim
def aiK(t:Nat)(g:Bool)(ys:List AC)(st:St):Prop:=∃xs,st.fr.getD t .any= .c g xs∧qc st.owns xs ys
def aiN(t:Nat)(ys:List AC)(st:St):Prop:=∃k xs,st.fr.getD t .any= .bptr k 0∧st.boxes[k]? =some xs∧qc st.owns xs ys
def aiL(r:ResultVar)(g:Bool)(ys:List AC)(st:St):Prop:=match r with
 | .tmp t=>aiK t g ys st
 | .cell t _=>aiN t ys st
def BA(P:Program)(ty:TypeId)(n:Nat):Bool:=match P.info? ty,P.underlying ty with
 |some i,some d=>i.size==n && pI d
 |_,_=>false
def eH(P:Program)(r:ResultVar)(g:Bool)(n:Nat):Bool:=match r with
 | .tmp _=>true
 | .cell _ ty=>g && BA P ty n
def jX(r:ResultVar)(tmps:Array Value):Sem Value:=match r with
 | .tmp t=>pure (tmps.getD t undef)
 | .cell a t=>do loadVar t (← asAddr (tmps.getD a undef))
section
variable{P:Program}{f:Nat}{fn:Func}{code:Code}{ic:IC}{ds:List D}
theorem pW{B:Nat}{Xs:List Nat}{G:Org}{w0:World}{st:St}{E:Env}{a:Act}{w:World}(h:Rel B Xs G w0 st E a w){t:Nat}{x:AV}(hx:st.fr.getD t .any=x):x.ok E st.owns w (a.tmps.getD t undef):=by
 have:=fE h (.tmp t);simp only[opd,St.ev,Act.eval]at this;rwa[hx]at this
theorem YR{B:Nat}{Xs:List Nat}{G:Org}{w0:World}{st:St}{E E':Env}{a:Act}{w:World}(h:Rel B Xs G w0 st E a w)(hE:ED B Xs E'){r:ResultVar}{g:Bool}{ys:List AC}(hp:eH P r g ys.length=true)(hf:aiL r g ys st):
 ∃v,(jX r a.tmps).run P w= .ok v w∧Gok E' [] w g ys v:=by
 cases r with
 | tmp t=>
   obtain⟨xs,h1,h2⟩:=hf;exact⟨_,rfl,TG h hE h2 (pW h h1)⟩
 | cell t ty=>
   obtain⟨k,xs,h1,h2,h3⟩:=hf;simp only[eH,g_,BA]at hp;obtain⟨rfl,hp⟩:=hp;split at hp
   ·next i d hi hd=>
    simp only[g_,beq_iff_eq]at hp;obtain⟨p,g1,g2⟩:=pW h h1;obtain⟨_,vs,h4,h5⟩:=h.box k xs p h2 g1;have hlen:vs.length=i.size:=by rw[← h5.len,FH h3,hp.1]
    refine⟨.agg vs.toArray, ?_,vs,rfl,wH h hE h3 h5⟩;simp only[jX];rw[g2];have:=run_loadVar_row (P:=P) w p.1 p.2 ty vs.toArray (0,0) d h4 hd (by have:=hp.2;cases d<;>simp_all [pI]) (by rw[hi];simp[hlen]);simp[asAddr,this]
   ·cases hp
theorem qg{r:ResultVar}(hr:fn.results= #[r])(tmps:Array Value){w:World}{v:Value}(h:(jX r tmps).run P w= .ok v w):(results fn tmps).run P w= .ok v w:=by
 cases r with
 |tmp t=>simp[jX]at h;simp[results,hr,h]
 |cell t ty=>simp[jX]at h;simp[results,hr,h]
theorem EL{r q:ResultVar}(hr:fn.results= #[r,q])(tmps:Array Value){w:World}{v u:Value}(h:(jX r tmps).run P w= .ok v w)(h2:(jX q tmps).run P w= .ok u w):(results fn tmps).run P w= .ok (.tuple #[v,u]) w:=by
 have e:(results fn tmps).run P w=(jX r tmps >>=fun v=>jX q tmps >>=fun u=>pure (.tuple #[v,u]):Sem Value).run P w:=by
  have a1:∀(x:Result Addr) (f:Addr→World→Result Value) (g:Value→World→Result Value),(x.andThen f).andThen g=x.andThen fun a w=>(f a w).andThen g:=by
   intro x f g;cases x<;>rfl
  cases r<;>cases q<;>simp[results,hr,jX,a1]
 rw[e];simp[h,h2]
theorem aY{t:Nat}{g:Bool}{ys:List AC}(hf:P.funcs[f]? =some fn:=by kernel_rfl)(hb:fn.body=some code:=by kernel_rfl)(hr:fn.results= #[.tmp t]:=by kernel_rfl)(hc:ak P code=some ic)
 (h:AWP P ic (iG (aiK t g ys)) (st0 fn.ntmps ds)):aI P f ds (.c g ys):=by
 refine qW (post:=fun w e w'=>Kq (.c g ys) w e w') hf hb hc h ?_;rintro G w w' st E a hR ⟨xs,h1,h2⟩;refine⟨_,results_tmp hr a.tmps P w',_,rfl,TG hR (Gw _) h2 (pW hR h1),hR.below.out⟩
theorem JQ{t:Nat}{ty:TypeId}{ys:List AC}(hf:P.funcs[f]? =some fn:=by kernel_rfl)(hb:fn.body=some code:=by kernel_rfl)(hr:fn.results= #[.cell t ty]:=by kernel_rfl)(hp:BA P ty ys.length=true:=by kernel_rfl)(hc:ak P code=some ic)
 (h:AWP P ic (iG (aiN t ys)) (st0 fn.ntmps ds)):aI P f ds (.c true ys):=by
 refine qW (post:=fun w e w'=>Kq (.c true ys) w e w') hf hb hc h ?_;rintro G w w' st E a hR hF;obtain⟨v,h1,h2⟩:=YR (P:=P) (r:= .cell t ty) (g:=true) hR (Gw _) (by simp[eH,hp]) hF;exact⟨v,qg hr _ h1,v,rfl,h2,hR.below.out⟩
theorem JU{r:ResultVar}{g:Bool}{ys:List AC}(hf:P.funcs[f]? =some fn:=by kernel_rfl)(hb:fn.body=some code:=by kernel_rfl)(hr:fn.results= #[r]:=by kernel_rfl)(hp:eH P r g ys.length=true:=by kernel_rfl)(hc:ak P code=some ic)
 (h:AWP P ic (iG (aiL r g ys)) (stN true fn.ntmps ds)):jO P f ds (.c g ys):=by
 intro w F vs hF hr';refine JR (post:=fun F w e w'=>NK (.c g ys) F w e w') true hf hb hc h ?_ w F vs hr';rintro F G w w' st E a hR h1;obtain⟨v,h3,h4⟩:=YR hR (afq _ F) hp h1;exact⟨_,qg hr _ h3,_,rfl,h4,hR.below.out⟩
def aiJ(k i:Nat)(l:List D)(e s:Nat)(st:St):Prop:=∃o,st.owns[k]? =some o∧o.ver=i∧o.l=l∧o.e=e∧o.s=s∧(o.nw.n=true∨jR l)
def aiM(t:Nat)(l:List D)(e s:Nat)(st:St):Prop:=∃k i o,st.fr.getD t .any= .c false [.own k i]∧st.owns[k]? =some o∧o.ver=i∧o.l=l∧o.e=e∧o.s=s∧(o.nw.n=true∨jR l)
theorem QD{G:Org}{w w':World}{st:St}{E:Env}{a:Act}(hR:Rel w.heap.size [] G w st E a w'){k i:Nat}{l:List D}{e s:Nat}{v:Value}(hv:(AC.own k i).ok E st.owns w' v)(h:aiJ k i l e s st):
 ∃cs f,bF w' w.heap.size e s v l.length cs∧Rs w' l f cs∧∀b∈f,some b≠v.ownBlock∧w.heap.size≤b:=by
 obtain⟨o,h2,h3,rfl,rfl,rfl,h4⟩:=h;obtain⟨_,o',p,g1,g2,g3,g4⟩:=hv;rw[h2]at g1;injection g1 with g1
 subst g1;obtain⟨cs,h5,h6,h7,h8⟩:=hR.own k o p h2 g2;rw[g4 h3];refine⟨cs,p.2,sZ h5 hR.eb,h6,fun b hb=>⟨fun e=> ?_, ?_⟩⟩
 ·exact(h8 b hb).1 (iV.2 (m_ ⟨k,p,g2,e.symm⟩))
 ·rcases h4 with h4|h4
  ·simpa using Ig hR ((h8 b hb).2 h4)
  ·rw[h4 _ _ _ h6]at hb;simp at hb
theorem fM{t:Nat}{l:List D}{e s:Nat}(hf:P.funcs[f]? =some fn:=by kernel_rfl)(hb:fn.body=some code:=by kernel_rfl)(hr:fn.results= #[.tmp t]:=by kernel_rfl)(hc:ak P code=some ic)
 (h:AWP P ic (iG (aiM t l e s)) (st0 fn.ntmps ds)):bZ P f ds l e s:=by
 refine qW (post:=fun w e' w'=>uo false l e s w e' w') hf hb hc h ?_;rintro G w w' st E a hR ⟨k,i,o,h1,h2⟩;obtain⟨hv,_⟩:=pW hR h1;obtain⟨cs,f',h3,h4,h5⟩:=QD hR hv ⟨o,h2⟩;exact⟨_,results_tmp hr a.tmps P w',_,cs,f',rfl,h3,h4,h5,hR.below.out⟩
def FI(o o':Own):Prop:=match o'.nw.lin with
 |false=>o.nw.n=true∨jR o.l
 |true=>(o.nw.n=true∧o.nw.lin=true)∨jR o.l
def wO(os:List Own):List Nat→List Own→Prop
 | [],[]=>True
 |k::pk,o'::os'=>(∃o,os[k]? =some o∧o'=⟨o.l,o.e,o.s,0,⟨true,o'.nw.lin⟩⟩∧FI o o')∧wO os pk os'
 |_,_=>False
theorem FI.weak{o o':Own}(h:FI o o'):o.nw.n=true∨jR o.l:=by
 unfold FI at h;split at h
 ·exact h
 ·exact h.imp And.left id
theorem FI.lin{o o':Own}(h:FI o o')(e:o'.nw.lin=true):o.nw.lin=true∨jR o.l:=by
 unfold FI at h;rw[e]at h;exact h.imp And.right id
theorem rH{os:List Own}:∀{pk:List Nat} {os':List Own},wO os pk os'→pk.length=os'.length∧∀(j k:Nat) (o':Own),pk[j]? =some k→os'[j]? =some o'→∃o,os[k]? =some o∧o'=⟨o.l,o.e,o.s,0,⟨true,o'.nw.lin⟩⟩∧FI o o'
 | [],[],_=>⟨rfl,fun j k o' h=>by simp at h⟩
 | k::pk,o'::os',h=>by
   obtain⟨h1,h2⟩:=rH h.2;refine⟨by simp[h1],fun j k' o'' g1 g2=> ?_⟩;cases j with
   |zero=>simp at g1 g2;subst g1 g2;exact h.1
   |succ j=>exact h2 j k' o'' (by simpa using g1) (by simpa using g2)
 | [],_::_,h=>h.elim
 |_::_,[],h=>h.elim
section
variable{B:Nat}{G:Org}{w0:World}{st:St}{E:Env}{a:Act}{w:World}{pk:List Nat}{os':List Own}
def qJ(E:Env)(pk:List Nat):List (Value×List Nat):=pk.map fun k=>E.om.getD k (undef,[])
theorem BO{j k:Nat}(h:pk[j]? =some k):(qJ E pk)[j]? =some (E.om.getD k (undef,[])):=by simp[qJ,h]
theorem Qz(h:Rel B [] G w0 st E a w)(ho:wO st.owns pk os'){b:Nat}(hb:b∈(qJ E pk).flatMap fun q=>q.1.ownBlock.toList):∃k∈pk,∃p,E.om[k]? =some p∧p.1.ownBlock=some b:=by
 obtain⟨q,hq,hqb⟩:=j_.1 hb;obtain⟨k,hk,rfl⟩:=h_.1 hq;obtain⟨j,hj⟩:=z_.1 hk;obtain⟨h1,h2⟩:=rH ho;have hj':j<os'.length:=by rw[← h1];exact(b_.1 hj).1
 obtain⟨o,g1,_⟩:=h2 j k _ hj (a_ hj');have hke:k<E.om.length:=by rw[h.olen];exact(b_.1 g1).1
 exact⟨k,hk,E.om[k],a_ hke,by rw[c_,a_ hke]at hqb;simpa using hqb⟩
theorem WJ(h:Rel B [] G w0 st E a w){i j:Nat}{p q:Value×List Nat}{b:Nat}(hi:E.om[i]? =some p)(hj:E.om[j]? =some q)(hp:p.1.ownBlock=some b)(hq:q.1.ownBlock=some b):i=j:=by
 have hn:=h.nodup;unfold Env.M at hn;rw[l_]at hn;have : ∀(L:List (Value×List Nat)) (i j:Nat) (p q:Value×List Nat),(L.flatMap (fun p=>p.1.ownBlock.toList)).Nodup→L[i]? =some p→L[j]? =some q→p.1.ownBlock=some b→q.1.ownBlock=some b→i=j:=by
  intro L
  induction L with
  |nil=>intro i j p q _ hi;simp at hi
  | cons z L ih=>
    intro i j p q hn hi hj hpb hqb;rw[G_,l_]at hn;cases i with
    | zero=>
      cases j with
      |zero=>rfl
      | succ j=>
        simp at hi hj;subst hi;exact absurd rfl (hn.2.2 b (by simp[hpb]) b (j_.2 ⟨q,e_ hj,by simp[hqb]⟩))
    | succ i=>
      cases j with
      | zero=>
        simp at hi hj;subst hj;exact absurd rfl (hn.2.2 b (by simp[hqb]) b (j_.2 ⟨p,e_ hi,by simp[hpb]⟩))
      | succ j=>
        simp at hi hj;rw[ih i j p q hn.2.1 hi hj hpb hqb]
 exact this E.om i j p q hn.2.1 hi hj hp hq
theorem Ls(h:Rel B [] G w0 st E a w)(ho:wO st.owns pk os')(hnd:pk.Nodup):wL B w (qJ E pk) os':=by
 obtain⟨h1,h2⟩:=rH ho;refine⟨by simp[qJ,h1],fun j o' p g1 g2=> ?_, ?_⟩
 ·have hj:j<pk.length:=by rw[h1];exact(b_.1 g1).1
  have hk:=a_ hj;obtain⟨o,g3,g4e,g4o⟩:=h2 j _ o' hk g1;have g4:=g4o.weak;rw[g4e];have hke:pk[j]<E.om.length:=by rw[h.olen];exact(b_.1 g3).1
  rw[BO hk,c_,a_ hke]at g2;simp only[k_,F_]at g2;subst g2;obtain⟨cs,h5,h6,h7,h8⟩:=h.own _ o _ g3 (a_ hke);refine⟨cs,sZ h5 h.eb,h6,h7,fun b hb=>⟨?_,fun hm=> ?_⟩⟩
  ·rcases g4 with g4|g4
   ·simpa using Ig h ((h8 b hb).2 g4)
   ·rw[g4 _ _ _ h6]at hb;simp at hb
  ·obtain⟨k,_,p,g5,g6⟩:=Qz h ho hm;exact(h8 b hb).1 (iV.2 (m_ ⟨k,p,g5,g6⟩))
 ·have hpk:∀(j:Nat) (o':Own) (p:Value×List Nat),os'[j]? =some o'→(qJ E pk)[j]? =some p→o'.nw.lin=true→p.2= []∨∃o,st.owns[pk.getD j 0]? =some o∧E.om[pk.getD j 0]? =some p∧o.nw.lin=true:=by
   intro j o' p g1 g2 g3;have hj:j<pk.length:=by rw[h1];exact(b_.1 g1).1
   have hk:=a_ hj;obtain⟨o,q1,q2,q3⟩:=h2 j _ o' hk g1;have hke:pk[j]<E.om.length:=by rw[h.olen];exact(b_.1 q1).1
   rw[BO hk,c_,a_ hke]at g2;simp only[k_,F_]at g2;subst g2;rcases q3.lin g3 with e|e
   ·refine m_ ⟨o, ?_, ?_,e⟩
    ·rw[c_,hk];exact q1
    ·rw[c_,hk];exact a_ hke
   ·obtain⟨cs,_,h6,_⟩:=h.own _ o _ q1 (a_ hke);exact r_ (e _ _ _ h6)
  refine⟨?_, ?_, ?_⟩
  rotate_left
  ·refine h.lin.map (fun j=>pk.getD j 0) (fun i j hij hi hj e=>hij ?_) hpk;have hi':i<pk.length:=by omega
   have hj':j<pk.length:=by omega
   simp only[c_,a_ hi',a_ hj',k_]at e;exact(a_k hnd).1 e
  ·exact h.unf.map (fun j=>pk.getD j 0) hpk
  have :∀(pk:List Nat) (os':List Own),wO st.owns pk os'→pk.Nodup→((qJ E pk).flatMap fun q=>q.1.ownBlock.toList).Nodup:=by
   intro pk
   induction pk with
   |nil=>intro os' _ _;exact I_
   | cons k pk ih=>
     intro os' ho hnd
     match os',ho with
     | o'::os',ho=>
       rw[a_n]at hnd;obtain⟨o,g1,_⟩:=ho.1;have hke:k<E.om.length:=by rw[h.olen];exact(b_.1 g1).1
       show(a_A _ (E.om.getD k (undef,[])::qJ E pk)).Nodup;rw[G_,l_];refine⟨by cases(E.om.getD k (undef,[])).1.ownBlock<;>simp,ih os' ho.2 hnd.2,fun x hx y hy e=> ?_⟩;subst e;obtain⟨k',hk',p,g5,g6⟩:=Qz h ho.2 hy;rw[c_,a_ hke]at hx;exact hnd.1 (WJ h (a_ hke) g5 (by simpa using hx) g6▸hk')
  exact this pk os' ho hnd
end
end
section
variable{lo:Nat×Nat}{P:Program}{y:IC}{Q:Exit→St→Prop}{st:St}{i j:Nat}{c:Opd}
theorem yC(h:dH lo P y Q st):PK lo P y Q .normal st:=h
theorem kS(h:Q (.exit i) st):PK lo P y Q (.exit i) st:=h
theorem nP(h:Q .ret st):PK lo P y Q .ret st:=h
theorem gY(h:Q .normal st):EF i Q .normal st:=h
theorem lq(h:Q .ret st):EF i Q .ret st:=h
theorem jG(h:Q .normal st):EF i Q (.exit i) st:=by
 show ite _ _ _;rw[if_pos rfl];exact h
theorem jF(hij:(j==i)=false)(h:Q (.exit j) st):EF i Q (.exit j) st:=by
 show ite _ _ _;rw[if_neg (by simpa using hij)];exact h
theorem jB{X:Type}{F:X→St}{inv:X→Prop}{μ:X→Nat}{x:X}(h:Q (.exit i) st):Bq F inv μ x Q (.exit i) st:=h
theorem kV{X:Type}{F:X→St}{inv:X→Prop}{μ:X→Nat}{x:X}(h:Q .ret st):Bq F inv μ x Q .ret st:=h
theorem Nb{Fin:St→Prop}(h:Fin st):iG Fin .normal st:=h
theorem aS{Fin:St→Prop}(h:Fin st):iG Fin .ret st:=h
theorem jI{x:IC}(hb:st.ev c= .c false [.raw (.bool true)])(h:dH lo P x Q st):dH lo P (.cond c x y) Q st:=JY hb (fun _=>h) (fun e=>by cases e)
theorem jK{x:IC}(hb:st.ev c= .c false [.raw (.bool false)])(h:dH lo P y Q st):dH lo P (.cond c x y) Q st:=JY hb (fun e=>by cases e) (fun _=>h)
end
theorem acw{x0:Opd}:I.plain (.mov x0)=true:=by simp only[I.plain]
theorem XI{x0:Opd}{x1:Opd}{x2:Opd}:I.plain (.pick x0 x1 x2)=true:=by simp only[I.plain]
theorem acH{x0:BinOp}{x1:Opd}{x2:Opd}:I.plain (.bin x0 x1 x2)=true:=by simp only[I.plain]
theorem acI{x0:Bool}{x1:Opd}{x2:Opd}:I.plain (.beq x0 x1 x2)=true:=by simp only[I.plain]
theorem acu{x0:Opd}:I.plain (.not x0)=true:=by simp only[I.plain]
theorem XJ{x0:Nat}{x1:Bool}{x2:Opd}:I.plain (.load x0 x1 x2)=true:=by simp only[I.plain]
theorem acB{x0:Nat}{x1:Opd}:I.plain (.fad x0 x1)=true:=by simp only[I.plain]
theorem acv{x0:Opd}:I.plain (.nck x0)=true:=by simp only[I.plain]
theorem Qx{x0:List Value}:I.plain (.alloc x0)=true:=by simp only[I.plain]
theorem acF{x0:Opd}:I.plain (.box x0)=true:=by simp only[I.plain]
theorem Qw{x0:Nat}{x1:Opd}{x2:Opd}:I.plain (.store x0 x1 x2)=true:=by simp only[I.plain]
theorem XL{x0:Bool}{x1:Nat}{x2:Nat}{x3:Nat}{x4:Bool}{x5:List Opd}:I.plain (.brow x0 x1 x2 x3 x4 x5)=true:=by simp only[I.plain]
theorem acG{x0:List Value}{x1:List (Nat×Nat×Opd)}:I.plain (.bld x0 x1)=true:=by simp only[I.plain]
theorem acA{x0:Nat}{x1:Nat}{x2:Bool}{x3:Opd}:I.plain (.fld x0 x1 x2 x3)=true:=by simp only[I.plain]
theorem XH{x0:Opd}{x1:Opd}:I.plain (.sidx x0 x1)=true:=by simp only[I.plain]
theorem acr{x0:Opd}{x1:Option Opd}{x2:Option Opd}:I.plain (.ssl x0 x1 x2)=true:=by simp only[I.plain]
theorem acC{x0:Nat}{x1:Opd}:I.plain (.ext x0 x1)=true:=by simp only[I.plain]
theorem acz{x0:Bool}{x1:Opd}:I.plain (.len x0 x1)=true:=by simp only[I.plain]
theorem ab4{x0:Opd}:I.plainW (.mov x0)=true:=by simp only[I.plainW]
theorem Xy{x0:Opd}{x1:Opd}{x2:Opd}:I.plainW (.pick x0 x1 x2)=true:=by simp only[I.plainW]
theorem ach{x0:BinOp}{x1:Opd}{x2:Opd}:I.plainW (.bin x0 x1 x2)=true:=by simp only[I.plainW]
theorem aci{x0:Bool}{x1:Opd}{x2:Opd}:I.plainW (.beq x0 x1 x2)=true:=by simp only[I.plainW]
theorem ab2{x0:Opd}:I.plainW (.not x0)=true:=by simp only[I.plainW]
theorem Xz{x0:Nat}{x1:Bool}{x2:Opd}:I.plainW (.load x0 x1 x2)=true:=by simp only[I.plainW]
theorem ab8{x0:Nat}{x1:Opd}:I.plainW (.fad x0 x1)=true:=by simp only[I.plainW]
theorem ab3{x0:Opd}:I.plainW (.nck x0)=true:=by simp only[I.plainW]
theorem Qs{x0:List Value}:I.plainW (.alloc x0)=true:=by simp only[I.plainW]
theorem acf{x0:Opd}:I.plainW (.box x0)=true:=by simp only[I.plainW]
theorem acg{x0:List Value}{x1:List (Nat×Nat×Opd)}:I.plainW (.bld x0 x1)=true:=by simp only[I.plainW]
theorem ab7{x0:Nat}{x1:Nat}{x2:Bool}{x3:Opd}:I.plainW (.fld x0 x1 x2 x3)=true:=by simp only[I.plainW]
theorem Xx{x0:Opd}{x1:Opd}:I.plainW (.sidx x0 x1)=true:=by simp only[I.plainW]
theorem ab1{x0:Opd}{x1:Option Opd}{x2:Option Opd}:I.plainW (.ssl x0 x1 x2)=true:=by simp only[I.plainW]
theorem ab9{x0:Nat}{x1:Opd}:I.plainW (.ext x0 x1)=true:=by simp only[I.plainW]
theorem ab6{x0:Bool}{x1:Opd}:I.plainW (.len x0 x1)=true:=by simp only[I.plainW]
theorem acy{f:Nat}{xs:List Opd}:I.plain (.mkf f xs)=true:=by simp only[I.plain]
theorem XK{b:Bool}{x:Opd}:I.plain (.fnil b x)=true:=by simp only[I.plain]
theorem XG{b:Bool}{x:Opd}:I.plain (.snil b x)=true:=by simp only[I.plain]
theorem XM{b:Bool}{k:List Value}{x y:Opd}:I.plain (.beqS b k x y)=true:=by simp only[I.plain]
theorem XD{b:Bool}{k:List Value}{x y:Opd}:I.plainW (.beqS b k x y)=true:=by simp only[I.plainW]
theorem Y5{b:Bool}{k:List Value}{x y:Opd}:eff (.beqS b k x y)=false:=by simp[eff,I.cls]
theorem acE{k:IntKind}{x:Opd}:I.plain (.cvi k x)=true:=by simp only[I.plain]
theorem acD{x:Opd}:I.plain (.cvs x)=true:=by simp only[I.plain]
theorem XO{e:Nat}{x y:Opd}:I.plain (.apps e x y)=true:=by simp only[I.plain]
theorem ace{k:IntKind}{x:Opd}:I.plainW (.cvi k x)=true:=by simp only[I.plainW]
theorem acd{x:Opd}:I.plainW (.cvs x)=true:=by simp only[I.plainW]
theorem XE{e:Nat}{x y:Opd}:I.plainW (.apps e x y)=true:=by simp only[I.plainW]
theorem ad5{k:IntKind}{x:Opd}:eff (.cvi k x)=false:=by simp[eff,I.cls]
theorem ad4{x:Opd}:eff (.cvs x)=false:=by simp[eff,I.cls]
theorem Y6{e:Nat}{x y:Opd}:eff (.apps e x y)=true:=by simp[eff,I.cls]
theorem agX{e:Nat}{z:Value}{x:Opd}:I.plain (.mk e z x)=true:=by simp only[I.plain]
theorem ab5{f:Nat}{xs:List Opd}:I.plainW (.mkf f xs)=true:=by simp only[I.plainW]
theorem XC{b:Bool}{x:Opd}:I.plainW (.fnil b x)=true:=by simp only[I.plainW]
theorem Xw{b:Bool}{x:Opd}:I.plainW (.snil b x)=true:=by simp only[I.plainW]
theorem agW{e:Nat}{z:Value}{x:Opd}:I.plainW (.mk e z x)=true:=by simp only[I.plainW]
theorem adY{f:Nat}{xs:List Opd}:eff (.mkf f xs)=false:=by simp[eff,I.cls]
theorem Y2{b:Bool}{x:Opd}:eff (.fnil b x)=false:=by simp[eff,I.cls]
theorem YX{b:Bool}{x:Opd}:eff (.snil b x)=false:=by simp[eff,I.cls]
theorem ag8{e:Nat}{z:Value}{x:Opd}:eff (.mk e z x)=true:=by simp[eff,I.cls]
theorem adX{x0:Opd}:eff (.mov x0)=false:=by simp[eff,I.cls]
theorem Y0{x0:Opd}{x1:Opd}{x2:Opd}:eff (.pick x0 x1 x2)=false:=by simp[eff,I.cls]
theorem ad8{x0:BinOp}{x1:Opd}{x2:Opd}:eff (.bin x0 x1 x2)=false:=by simp[eff,I.cls]
theorem ad9{x0:Bool}{x1:Opd}{x2:Opd}:eff (.beq x0 x1 x2)=false:=by simp[eff,I.cls]
theorem adV{x0:Opd}:eff (.not x0)=false:=by simp[eff,I.cls]
theorem Y1{x0:Nat}{x1:Bool}{x2:Opd}:eff (.load x0 x1 x2)=false:=by simp[eff,I.cls]
theorem ad2{x0:Nat}{x1:Opd}:eff (.fad x0 x1)=false:=by simp[eff,I.cls]
theorem adW{x0:Opd}:eff (.nck x0)=false:=by simp[eff,I.cls]
theorem TV{x0:List Value}:eff (.alloc x0)=true:=by simp[eff,I.cls]
theorem ad6{x0:Opd}:eff (.box x0)=true:=by simp[eff,I.cls]
theorem TU{x0:Nat}{x1:Opd}{x2:Opd}:eff (.store x0 x1 x2)=true:=by simp[eff,I.cls]
theorem ad7{x0:List Value}{x1:List (Nat×Nat×Opd)}:eff (.bld x0 x1)=false:=by simp[eff,I.cls]
theorem ad1{x0:Nat}{x1:Nat}{x2:Bool}{x3:Opd}:eff (.fld x0 x1 x2 x3)=false:=by simp[eff,I.cls]
theorem YZ{x0:Opd}{x1:Opd}:eff (.sidx x0 x1)=false:=by simp[eff,I.cls]
theorem adU{x0:Opd}{x1:Option Opd}{x2:Option Opd}:eff (.ssl x0 x1 x2)=false:=by simp[eff,I.cls]
theorem ad3{x0:Nat}{x1:Opd}:eff (.ext x0 x1)=false:=by simp[eff,I.cls]
theorem adZ{x0:Bool}{x1:Opd}:eff (.len x0 x1)=false:=by simp[eff,I.cls]
theorem Y3{e s n:Nat}{g:Bool}{xs:List Opd}:eff (.brow false e s n g xs)=false:=by simp[eff,I.cls]
theorem Y4{e s n:Nat}{g:Bool}{xs:List Opd}:eff (.brow true e s n g xs)=true:=by simp[eff,I.cls]
theorem zq{st:St}:mo true st= []:=by simp[mo]
theorem zu{st:St}:mo false st=st.owns:=by simp[mo]
inductive Sp where
 |k
 |d
 |v (x:AV)
def aB :List Sp→List AV→List AV
 | .k::ss,x::xs=>x::aB ss xs
 | .d::ss,_::xs=> .any::aB ss xs
 | .v y::ss,_::xs=>y::aB ss xs
 | [],_::xs=> .any::aB [] xs
 |_,[]=> []
def FB{X:Type}(fr0:List AV)(bs0:List (List AC))(sp:X→List Sp)(ow:X→List Own)(bx:X→List (List AC)→List (List AC))(x:X):St:=⟨aB (sp x) fr0,ow x,bx x bs0⟩
theorem aQ{P:Program}{Q:Exit→St→Prop}{X:Type}{c:IC}{fr0:List AV}{os0:List Own}{bs0:List (List AC)}(sp:X→List Sp)(ow:X→List Own)(bx:X→List (List AC)→List (List AC))(inv:X→Prop)(μ:X→Nat)(x0:X)(h0:inv x0)
 (hle:aG ⟨fr0,os0,bs0⟩ (FB fr0 bs0 sp ow bx x0)) (round:∀x,inv x→AWP P c (Bq (FB fr0 bs0 sp ow bx) inv μ x Q) (FB fr0 bs0 sp ow bx x)):AWP P (.loop c) Q ⟨fr0,os0,bs0⟩:=
 aeF (FB fr0 bs0 sp ow bx) inv μ x0 h0 (Gp hle) round
theorem aP{Q:Exit→St→Prop}{st:St}{X:Type}{F:X→St}{inv:X→Prop}{μ:X→Nat}{x:X}(x':X)(h1:aG st (F x'))(h2:inv x')(h3:μ x'<μ x):Bq F inv μ x Q .normal st:=⟨x',Gp h1,h2,h3⟩
theorem bP(b:Bool)(n:Int):(li n).acs b= [.raw (.int .i64 n)]:=rfl
theorem bM(b:Bool)(s:ByteArray):(ls s).acs b= [.raw (.string s)]:=rfl
theorem bV(b:Bool)(v:Value):(D.leaf v).acs b= [.raw v]:=rfl
theorem dK(b:Bool)(l:List D):(D.sl l).acs b= [.sl b l]:=rfl
theorem eP(l:List Int):El 1 (l.map li):=fun d h=>by obtain⟨x,_,rfl⟩:=h_.1 h;exact⟨rfl,rfl⟩
theorem bW(l:List ByteArray):El 1 (l.map ls):=fun d h=>by obtain⟨x,_,rfl⟩:=h_.1 h;exact⟨rfl,rfl⟩
theorem adS(s:Nat):El s []:=fun d h=>by simp at h
theorem YW{s:Nat}{d:D}{l:List D}:El s (d::l)=((d.one∧d.sz=s)∧El s l):=by
 apply propext;constructor
 ·intro h;exact⟨h d (by simp),fun x hx=>h x (by simp[hx])⟩
 ·rintro⟨h1,h2⟩ x hx;rcases List.mem_cons.1 hx with rfl|hx
  ·exact h1
  ·exact h2 x hx
theorem lS{α:Type}{g:α→D}(hg:∀(x:α) (w:World) (f:List Nat) (cs:List Value),R w (g x) f cs→f= []):∀(l:List α),jR (l.map g)
 | [],w,f,cs,h=>h.1
 | x::l,w,f,cs,h=>by
   rw[K_,Rs]at h;obtain⟨f1,f2,c1,c2,rfl,rfl,h1,h2⟩:=h;rw[hg x w f1 c1 h1,lS hg l w f2 c2 h2];rfl
theorem MX(l:List Int):jR (l.map li):=lS (g:=li) (fun x w f cs h=>(show f= []∧_ from h).1) l
theorem Ba(l:List ByteArray):jR (l.map ls):=lS (g:=ls) (fun x w f cs h=>(show f= []∧_ from h).1) l
theorem Yh(l:List D)(k:Nat):idx l (some (k:Int))=l[k]? :=by simp[idx]
theorem bU{α:Type}(f:α→D)(l:List α){k:Nat}(h:k<l.length):idx (l.map f) (some (k:Int))=some (f l[k]):=by
 rw[Yh,t_,a_ h];rfl
theorem dJ{n:Nat}(h:n≤9223372036854775806):IntKind.i64.wrap ((n:Int)+1)=((n+1:Nat):Int):=by
 rw[IntWalk.i64_in _ (by omega)];rfl
theorem uo.tos{l:List D}{e s:Nat}{w:World}{en:Ending}{w':World}(h:uo false l e s w en w')(hf:jR l):wJ l w en w':=by
 obtain⟨v,cs,f,rfl,h1,h2,h3,h4⟩:=h;have:=hf _ _ _ h2;subst this;exact⟨_,v,rfl,Sl.nD h1 h2,gG.nD h1 gG.nil (fun g hg=>by simp),h4⟩
theorem bZ.to{P:Program}{f:Nat}{ds l:List D}{e s:Nat}(h:bZ P f ds l e s)(hf:jR l):aI P f ds (.c false [.sl true l]):=by
 intro w vs hr ht;refine(h w vs hr ht).mono ?_;rintro en w' ⟨v,cs,f',rfl,h1,h2,h3,h4⟩;have:=hf _ _ _ h2;subst this;refine⟨v,rfl,⟨⟨_,Sl.nD h1 h2,fun b hb=> ?_⟩,trivial⟩,h4⟩;rw[R_]at hb;have:=(bF.lt h1 b (by simpa using hb)).1;exact⟨rJ.2 this,fun _=>r_ this⟩
theorem GOrigin.aK(x:GOrigin):x.toD.flat= [.leaf (.int .i64 x.cell),.leaf (.int .i64 x.row)]:=by
 simp[GOrigin.aN,D.flat,D.iW,li,ls]
theorem GOrigin.aV(x:GOrigin)(b:Bool):x.toD.acs b= [.raw (.int .i64 x.cell),.raw (.int .i64 x.row)]:=by
 simp[D.acs,GOrigin.aK,D.ac]
theorem GOrigin.aW(x:GOrigin):x.toD.isAgg=true:=by rw[GOrigin.aN];rfl
theorem GOrigin.iP(x:GOrigin):x.toD.one:=by
 simp[GOrigin.aN,D.one,D.ones,li,ls,o_]
theorem GOrigin.el(l:List GOrigin):El 2 (l.map GOrigin.toD):=fun d h=>by obtain⟨x,_,rfl⟩:=h_.1 h;exact⟨x.iP,x.fD⟩
theorem GOrigin.YQ(l:List GOrigin):jR (l.map GOrigin.toD):=lS (fun x w f cs h=>(GOrigin.opened.1 h).1) l
theorem GRow.aK(x:GRow):x.toD.flat= [.sl (x.cells.map li),.sl (x.src.map GOrigin.toD)]:=by
 simp[GRow.aN,D.flat,D.iW,li,ls]
theorem GRow.aV(x:GRow)(b:Bool):x.toD.acs b= [.sl b (x.cells.map li),.sl b (x.src.map GOrigin.toD)]:=by
 simp[D.acs,GRow.aK,D.ac]
theorem GRow.aW(x:GRow):x.toD.isAgg=true:=by rw[GRow.aN];rfl
theorem GRow.iP(x:GRow):x.toD.one:=by
 simp[GRow.aN,D.one,D.ones,li,ls,o_]
theorem GRow.el(l:List GRow):El 2 (l.map GRow.toD):=fun d h=>by obtain⟨x,_,rfl⟩:=h_.1 h;exact⟨x.iP,x.fD⟩
theorem GVal.aK(x:GVal):x.toD.flat= [.leaf (.int .i64 x.kind),.leaf (.int .i64 x.n),.leaf (.int .i64 x.step),.leaf (.string x.text),.sl (x.list.map GVal.toD),.sl (x.cols.map ls),.sl (x.rows.map GRow.toD)]:=by
 simp[GVal.aN,D.flat,D.iW,li,ls]
theorem GVal.aV(x:GVal)(b:Bool):x.toD.acs b= [.raw (.int .i64 x.kind),.raw (.int .i64 x.n),.raw (.int .i64 x.step),.raw (.string x.text),.sl b (x.list.map GVal.toD),.sl b (x.cols.map ls),.sl b (x.rows.map GRow.toD)]:=by
 simp[D.acs,GVal.aK,D.ac]
theorem GVal.aW(x:GVal):x.toD.isAgg=true:=by rw[GVal.aN];rfl
theorem GVal.iP(x:GVal):x.toD.one:=by
 simp[GVal.aN,D.one,D.ones,li,ls,o_]
theorem GVal.el(l:List GVal):El 7 (l.map GVal.toD):=fun d h=>by obtain⟨x,_,rfl⟩:=h_.1 h;exact⟨x.iP,x.fD⟩
theorem GTok.aK(x:GTok):x.toD.flat= [.leaf (.int .i64 x.kind),.leaf (.int .i64 x.n),.leaf (.int .i64 x.pos),.leaf (.string x.text)]:=by
 simp[GTok.aN,D.flat,D.iW,li,ls]
theorem GTok.aV(x:GTok)(b:Bool):x.toD.acs b= [.raw (.int .i64 x.kind),.raw (.int .i64 x.n),.raw (.int .i64 x.pos),.raw (.string x.text)]:=by
 simp[D.acs,GTok.aK,D.ac]
theorem GTok.aW(x:GTok):x.toD.isAgg=true:=by rw[GTok.aN];rfl
theorem GTok.iP(x:GTok):x.toD.one:=by
 simp[GTok.aN,D.one,D.ones,li,ls,o_]
theorem GTok.el(l:List GTok):El 4 (l.map GTok.toD):=fun d h=>by obtain⟨x,_,rfl⟩:=h_.1 h;exact⟨x.iP,x.fD⟩
theorem GTok.YQ(l:List GTok):jR (l.map GTok.toD):=lS (fun x w f cs h=>(GTok.opened.1 h).1) l
theorem GExpr.aK(x:GExpr):x.toD.flat= [.leaf (.int .i64 x.kind),.leaf (.int .i64 x.n),.leaf (.string x.text),.sl (x.args.map GExpr.toD)]:=by
 simp[GExpr.aN,D.flat,D.iW,li,ls]
theorem GExpr.aV(x:GExpr)(b:Bool):x.toD.acs b= [.raw (.int .i64 x.kind),.raw (.int .i64 x.n),.raw (.string x.text),.sl b (x.args.map GExpr.toD)]:=by
 simp[D.acs,GExpr.aK,D.ac]
theorem GExpr.aW(x:GExpr):x.toD.isAgg=true:=by rw[GExpr.aN];rfl
theorem GExpr.iP(x:GExpr):x.toD.one:=by
 simp[GExpr.aN,D.one,D.ones,li,ls,o_]
theorem GExpr.el(l:List GExpr):El 4 (l.map GExpr.toD):=fun d h=>by obtain⟨x,_,rfl⟩:=h_.1 h;exact⟨x.iP,x.fD⟩
theorem GCell.aK(x:GCell):x.toD.flat= [.leaf (.int .i64 x.id),.leaf (.int .i64 x.ver),.leaf (.int .i64 x.kind),.leaf (.string x.name),.leaf (.string x.code),.leaf (.int .i64 x.n)]:=by
 simp[GCell.aN,D.flat,D.iW,li,ls]
theorem GCell.aV(x:GCell)(b:Bool):x.toD.acs b= [.raw (.int .i64 x.id),.raw (.int .i64 x.ver),.raw (.int .i64 x.kind),.raw (.string x.name),.raw (.string x.code),.raw (.int .i64 x.n)]:=by
 simp[D.acs,GCell.aK,D.ac]
theorem GCell.aW(x:GCell):x.toD.isAgg=true:=by rw[GCell.aN];rfl
theorem GCell.iP(x:GCell):x.toD.one:=by
 simp[GCell.aN,D.one,D.ones,li,ls,o_]
theorem GCell.el(l:List GCell):El 6 (l.map GCell.toD):=fun d h=>by obtain⟨x,_,rfl⟩:=h_.1 h;exact⟨x.iP,x.fD⟩
theorem GCell.YQ(l:List GCell):jR (l.map GCell.toD):=lS (fun x w f cs h=>(GCell.opened.1 h).1) l
theorem GNb.aK(x:GNb):x.toD.flat= [.sl (x.cells.map GCell.toD)]:=by
 simp[GNb.aN,D.flat,D.iW,li,ls]
theorem GNb.aV(x:GNb)(b:Bool):x.toD.acs b= [.sl b (x.cells.map GCell.toD)]:=by
 simp[D.acs,GNb.aK,D.ac]
theorem GNb.aW(x:GNb):x.toD.isAgg=true:=by rw[GNb.aN];rfl
theorem GNb.iP(x:GNb):x.toD.one:=by
 simp[GNb.aN,D.one,D.ones,li,ls,o_]
theorem GNb.el(l:List GNb):El 1 (l.map GNb.toD):=fun d h=>by obtain⟨x,_,rfl⟩:=h_.1 h;exact⟨x.iP,x.fD⟩
theorem GPart.aK(x:GPart):x.toD.flat= [.leaf (.int .i64 x.kind),.leaf (.string x.name),.leaf (.int .i64 x.expr.kind),.leaf (.int .i64 x.expr.n),.leaf (.string x.expr.text),.sl (x.expr.args.map GExpr.toD),.leaf (.int .i64 x.value.kind),.leaf (.int .i64 x.value.n),.leaf (.int .i64 x.value.step),.leaf (.string x.value.text),.sl (x.value.list.map GVal.toD),.sl (x.value.cols.map ls),.sl (x.value.rows.map GRow.toD),.leaf (.int .i64 x.pos)]:=by
 simp[GPart.aN,GExpr.aN,GVal.aN,D.flat,D.iW,li,ls]
theorem GPart.aV(x:GPart)(b:Bool):x.toD.acs b= [.raw (.int .i64 x.kind),.raw (.string x.name),.raw (.int .i64 x.expr.kind),.raw (.int .i64 x.expr.n),.raw (.string x.expr.text),.sl b (x.expr.args.map GExpr.toD),.raw (.int .i64 x.value.kind),.raw (.int .i64 x.value.n),.raw (.int .i64 x.value.step),.raw (.string x.value.text),.sl b (x.value.list.map GVal.toD),.sl b (x.value.cols.map ls),.sl b (x.value.rows.map GRow.toD),.raw (.int .i64 x.pos)]:=by
 simp[D.acs,GPart.aK,D.ac]
theorem GPart.aW(x:GPart):x.toD.isAgg=true:=by rw[GPart.aN];rfl
theorem GPart.iP(x:GPart):x.toD.one:=by
 simp[GPart.aN,GExpr.aN,GVal.aN,D.one,D.ones,li,ls,o_]
theorem GPart.el(l:List GPart):El 14 (l.map GPart.toD):=fun d h=>by obtain⟨x,_,rfl⟩:=h_.1 h;exact⟨x.iP,x.fD⟩
theorem GEdit.aK(x:GEdit):x.toD.flat= [.leaf (.int .i64 x.kind),.leaf (.int .i64 x.pos),.leaf (.int .i64 x.cell.id),.leaf (.int .i64 x.cell.ver),.leaf (.int .i64 x.cell.kind),.leaf (.string x.cell.name),.leaf (.string x.cell.code),.leaf (.int .i64 x.cell.n)]:=by
 simp[GEdit.aN,GCell.aN,D.flat,D.iW,li,ls]
theorem GEdit.aV(x:GEdit)(b:Bool):x.toD.acs b= [.raw (.int .i64 x.kind),.raw (.int .i64 x.pos),.raw (.int .i64 x.cell.id),.raw (.int .i64 x.cell.ver),.raw (.int .i64 x.cell.kind),.raw (.string x.cell.name),.raw (.string x.cell.code),.raw (.int .i64 x.cell.n)]:=by
 simp[D.acs,GEdit.aK,D.ac]
theorem GEdit.aW(x:GEdit):x.toD.isAgg=true:=by rw[GEdit.aN];rfl
theorem GEdit.iP(x:GEdit):x.toD.one:=by
 simp[GEdit.aN,GCell.aN,D.one,D.ones,li,ls,o_]
theorem GEdit.el(l:List GEdit):El 8 (l.map GEdit.toD):=fun d h=>by obtain⟨x,_,rfl⟩:=h_.1 h;exact⟨x.iP,x.fD⟩
theorem GEdit.YQ(l:List GEdit):jR (l.map GEdit.toD):=lS (fun x w f cs h=>(GEdit.opened.1 h).1) l
theorem GRead.aK(x:GRead):x.toD.flat= [.leaf (.int .i64 x.kind),.leaf (.int .i64 x.n),.leaf (.int .i64 x.time),.leaf (.string x.text),.leaf (.int .i64 x.result.kind),.leaf (.int .i64 x.result.n),.leaf (.int .i64 x.result.step),.leaf (.string x.result.text),.sl (x.result.list.map GVal.toD),.sl (x.result.cols.map ls),.sl (x.result.rows.map GRow.toD)]:=by
 simp[GRead.aN,GVal.aN,D.flat,D.iW,li,ls]
theorem GRead.aV(x:GRead)(b:Bool):x.toD.acs b= [.raw (.int .i64 x.kind),.raw (.int .i64 x.n),.raw (.int .i64 x.time),.raw (.string x.text),.raw (.int .i64 x.result.kind),.raw (.int .i64 x.result.n),.raw (.int .i64 x.result.step),.raw (.string x.result.text),.sl b (x.result.list.map GVal.toD),.sl b (x.result.cols.map ls),.sl b (x.result.rows.map GRow.toD)]:=by
 simp[D.acs,GRead.aK,D.ac]
theorem GRead.aW(x:GRead):x.toD.isAgg=true:=by rw[GRead.aN];rfl
theorem GRead.iP(x:GRead):x.toD.one:=by
 simp[GRead.aN,GVal.aN,D.one,D.ones,li,ls,o_]
theorem GRead.el(l:List GRead):El 11 (l.map GRead.toD):=fun d h=>by obtain⟨x,_,rfl⟩:=h_.1 h;exact⟨x.iP,x.fD⟩
theorem GTape.aK(x:GTape):x.toD.flat= [.leaf (.int .i64 x.cell),.leaf (.int .i64 x.ver),.sl (x.reads.map GRead.toD)]:=by
 simp[GTape.aN,D.flat,D.iW,li,ls]
theorem GTape.aV(x:GTape)(b:Bool):x.toD.acs b= [.raw (.int .i64 x.cell),.raw (.int .i64 x.ver),.sl b (x.reads.map GRead.toD)]:=by
 simp[D.acs,GTape.aK,D.ac]
theorem GTape.aW(x:GTape):x.toD.isAgg=true:=by rw[GTape.aN];rfl
theorem GTape.iP(x:GTape):x.toD.one:=by
 simp[GTape.aN,D.one,D.ones,li,ls,o_]
theorem GTape.el(l:List GTape):El 3 (l.map GTape.toD):=fun d h=>by obtain⟨x,_,rfl⟩:=h_.1 h;exact⟨x.iP,x.fD⟩
theorem UU :type_of% (aiX @GOrigin.aK (aiX @GOrigin.aV (aiX @GOrigin.aW (aiX @GRow.aK (aiX @GRow.aV (aiX @GRow.aW (aiX @GVal.aK (aiX @GVal.aV (aiX @GVal.aW (aiX @GTok.aK (aiX @GTok.aV (aiX @GTok.aW (aiX @GExpr.aK (aiX @GExpr.aV (aiX @GExpr.aW (aiX @GCell.aK (aiX @GCell.aV (aiX @GCell.aW (aiX @GNb.aK (aiX @GNb.aV (aiX @GNb.aW (aiX @GPart.aK (aiX @GPart.aV (aiX @GPart.aW (aiX @GEdit.aK (aiX @GEdit.aV (aiX @GEdit.aW (aiX @GRead.aK (aiX @GRead.aV (aiX @GRead.aW (aiX @GTape.aK (aiX @GTape.aV (@GTape.aW))))))))))))))))))))))))))))))))):=aiX @GOrigin.aK (aiX @GOrigin.aV (aiX @GOrigin.aW (aiX @GRow.aK (aiX @GRow.aV (aiX @GRow.aW (aiX @GVal.aK (aiX @GVal.aV (aiX @GVal.aW (aiX @GTok.aK (aiX @GTok.aV (aiX @GTok.aW (aiX @GExpr.aK (aiX @GExpr.aV (aiX @GExpr.aW (aiX @GCell.aK (aiX @GCell.aV (aiX @GCell.aW (aiX @GNb.aK (aiX @GNb.aV (aiX @GNb.aW (aiX @GPart.aK (aiX @GPart.aV (aiX @GPart.aW (aiX @GEdit.aK (aiX @GEdit.aV (aiX @GEdit.aW (aiX @GRead.aK (aiX @GRead.aV (aiX @GRead.aW (aiX @GTape.aK (aiX @GTape.aV (@GTape.aW))))))))))))))))))))))))))))))))
theorem dD(l:List D):(D.sl l).isAgg=false:=rfl
theorem bf(v:Value):(D.leaf v).isAgg=false:=rfl
theorem dG(n:Int):(li n).isAgg=false:=rfl
theorem dF(s:ByteArray):(ls s).isAgg=false:=rfl
theorem kK(l:List D):(D.sl l).flat= [.sl l]:=by rw[D.flat]
theorem gI(v:Value):(D.leaf v).flat= [.leaf v]:=by rw[D.flat]
theorem kM(n:Int):(li n).flat= [.leaf (.int .i64 n)]:=gI _
theorem kL(s:ByteArray):(ls s).flat= [.leaf (.string s)]:=gI _
section
variable{P:Program}{f:Nat}{w:World}
theorem Qr{d:D}{vs:List Value}(h:Rds w [d] vs):∃v,vs= [v]∧Rd w d v:=by
 match vs,h with
 | [v],h=>exact⟨v,rfl,h.1⟩
theorem Qq{d e:D}{vs:List Value}(h:Rds w [d,e] vs):∃v u,vs= [v,u]∧Rd w d v∧Rd w e u:=by
 match vs,h with
 | [v,u],h=>exact⟨v,u,rfl,h.1,h.2.1⟩
theorem xI{l:List D}{v:Value}(h:Rd w (.sl l) v):∃fp,Sl w l fp v:=by
 obtain⟨fp,h⟩:=h;exact⟨fp,h⟩
theorem pX{u v:Value}(h:Rd w (.leaf u) v):v=u:=by
 obtain⟨fp,h⟩:=h;have h2:fp= []∧[v]= [u]:=h;simpa using h2.2
theorem U8{d:D}{v:Value}(hd:d.isAgg=true)(h:Rd w d v):∃fp cs,v= .agg cs.toArray∧R w d fp cs:=by
 unfold Rd at h;rw[if_pos hd]at h;exact h
theorem BM{l:List D}{fp:List Nat}{v:Value}(h:Sl w l fp v):Rd w (.sl l) v:=⟨fp,h⟩
theorem U7(u:Value):Rd w (.leaf u) u:=⟨[],rfl,rfl⟩
theorem sU{ds:List D}{u:Value}(h:∀w vs,Rds w ds vs→Calls P f vs.toArray w (Ey u w)):aI P f ds (.c false [.raw u]):=fun w vs hr _=>(h w vs hr).mono fun e w' ⟨h1,h2⟩=>⟨u,h1,⟨rfl,trivial⟩,h2⟩
theorem Gl{ds:List D}{u:Value}(h:∀w vs,Rds w ds vs→Calls P f vs.toArray w (UF u w)):aI P f ds (.c false [.raw u]):=fun w vs hr _=>(h w vs hr).mono fun e w' ⟨h1,h2⟩=>by
 subst h2;exact⟨u,h1,⟨rfl,trivial⟩,Below.refl _ _⟩
theorem acW{ds:List D}{u:Value}(h:aI P f ds (.c false [.raw u])){w:World}{vs:List Value}(hr:Rds w ds vs)(ht:zH w:=by first|exact trivial|assumption):Calls P f vs.toArray w (Ey u w):=(h w vs hr ht).mono fun e w' ⟨v,h1,h2,h3⟩=>by
 obtain rfl:=h2.1;exact⟨h1,h3⟩
theorem of_own{ds l:List D}{e s:Nat}(h:bZ P f ds l e s)(hf:jR l){w:World}{vs:List Value}(hr:Rds w ds vs)(ht:zH w:=by first|exact trivial|assumption):Calls P f vs.toArray w (wJ l w):=(h w vs hr ht).mono fun en w' h1=>uo.tos h1 hf
def aa4(l:List D)(u:Value)(w:World)(e:Ending)(w':World):Prop:=∃fp v,e= .returned (.tuple #[.agg #[v],u])∧Sl w' l fp v∧gG w' w.heap.size fp∧Below w.heap.size w w'
theorem afv{ds l:List D}{e s:Nat}{u:Value}(h:Bo P f ds (.tup [(true,[.own 0 0]),(false,[.raw u])]) [⟨l,e,s,0,true⟩])(hf:jR l){w:World}{vs:List Value}(hr:Rds w ds vs)(ht:zH w:=by first|exact trivial|assumption):Calls P f vs.toArray w (aa4 l u w):=(h w vs hr ht).mono fun en w' ⟨v,om,h1,h2,h3,h4⟩=>by
 obtain⟨us,rfl,h5⟩:=h3
 match us,h5 with
 | [a,b],⟨h6,h7,_⟩=>
   obtain⟨xs,rfl,h8⟩:=h6;obtain rfl:=h7.1
   match xs,h8 with
   | [x],⟨⟨_,o,p,g1,g2,g3,g4⟩,_⟩=>
     simp at g1;subst g1;obtain rfl:=g4 rfl;obtain⟨_,o2,_⟩:=h2;obtain⟨cs,k1,k2,k3,k4⟩:=o2 0 _ p rfl g2;have:=hf _ _ _ k2;rw[this]at k2;exact⟨_,p.1,h1,Sl.nD k1 k2,gG.nD k1 gG.nil (fun g hg=>by simp),h4⟩
theorem Bo.to{ds l:List D}{e s:Nat}{u:Value}(h:Bo P f ds (.tup [(true,[.own 0 0]),(false,[.raw u])]) [⟨l,e,s,0,true⟩])(hf:jR l):aI P f ds (.tup [(true,[.sl true l]),(false,[.raw u])]):=fun w vs hr ht=>(afv h hf hr ht).mono fun en w' ⟨fp,v,h1,h2,h3,h4⟩=>
 ⟨_,h1,⟨[.agg #[v],u],rfl,⟨[v],rfl,⟨fp,h2,fun b hb=>⟨rJ.2 (h3.2 b hb).1,fun _=>r_ (h3.2 b hb).1⟩⟩,trivial⟩,⟨rfl,trivial⟩,trivial⟩,h4⟩
end
section
variable{P:Program}{f:Nat}{w:World}
def NJ(w:World)(base:Nat)(fp:List Nat):Prop:=True∧∀b∈fp,base≤b∧True
theorem NJ.mono{w:World}{base base':Nat}{fp:List Nat}(h:NJ w base fp)(hb:base'≤base):NJ w base' fp:=⟨trivial,fun b hm=>⟨p_ hb (h.2 b hm).1,trivial⟩⟩
theorem NJ.below{w w':World}{base:Nat}{fp:List Nat}(h:NJ w base fp)(hl:∀b∈fp,b<w.heap.size)(hb:Below w.heap.size w w'):NJ w' base fp:=⟨trivial,h.2⟩
theorem of_flat{E:Env}{os:List Own}{w:World}:∀{l:List D} {n:Bool} {vs:List Value},(∀d∈l,d.isAgg=false)→Oks E os w (l.map (D.ac n)) vs→∃fp,Rs w l fp vs∧∀b∈fp,b∉E.M∧(n=true→E.nw b)
 | [],_,[],_,_=>⟨[],⟨rfl,rfl⟩,fun b hb=>by simp at hb⟩
 | d ::l,n,v::vs,ha,h=>by
   obtain⟨f2,r2,m2⟩:=of_flat (fun x hx=>ha x (by simp[hx])) h.2;have h1:=h.1;cases d with
   | leaf u=>
     obtain rfl:v=u:=h1;exact⟨f2,⟨[],f2,[v],vs,rfl,rfl,⟨rfl,rfl⟩,r2⟩,m2⟩
   | sl l'=>
     obtain⟨fp,g1,g2⟩:=h1;refine⟨fp++f2,⟨fp,f2,[v],vs,rfl,rfl,g1,r2⟩,fun b hb=> ?_⟩;rcases q_.1 hb with hb|hb
     ·exact g2 b hb
     ·exact m2 b hb
   |agg l'=>have:=ha (.agg l') (by simp);cases this
 | [],_,_::_,_,h=>h.elim
 |_::_,_,[],_,h=>h.elim
end
def stS(n:Nat)(avs:List AV)(os:List Own)(bs:List (List AC)):St:=⟨avs++E_ (n - avs.length) (.c false [.raw undef]),os,bs⟩
theorem Px{E:Env}{os:List Own}{w:World}:∀{xs:List AV} {vs:List Value},oZ E os w xs vs→xs.length=vs.length∧∀(t:Nat) (x:AV),xs[t]? =some x→∃v,vs[t]? =some v∧x.ok E os w v
 | [],[],_=>⟨rfl,fun t d h=>by simp at h⟩
 | x::xs,v::vs,h=>by
   obtain⟨h1,h2⟩:=Px h.2;refine⟨by simp[h1],fun t y hy=> ?_⟩;cases t with
   |zero=>simp at hy;subst hy;exact⟨v,rfl,h.1⟩
   |succ t=>simpa using h2 t y (by simpa using hy)
 | [],_::_,h=>h.elim
 |_::_,[],h=>h.elim
theorem rG{B:Nat}{Xs:List Nat}{G:Org}{w0:World}{fr:List AV}{os:List Own}{bs:List (List AC)}{E:Env}{a:Act}{w:World}{avs:List AV}{vs:List Value}(h:Rel B Xs G w0 ⟨fr,os,bs⟩ E a w)(hv:oZ E os w avs vs)(n:Nat):
 Rel B Xs ⟨E,os,w⟩ w0 (stS n avs os bs) E {tmps:=vs.toArray++Array.replicate (n - vs.toArray.size) undef,defers:= []} w where
 eb:=h.eb
 ex:=h.ex
 sim:=Sim.refl _ _ _
 defers:=rfl
 size:=by
  obtain⟨hl,_⟩:=Px hv;simp[stS,hl]
 fr :=by
  obtain⟨hl,hg⟩:=Px hv;intro t x hx;simp only[stS]at hx;rw[W_]at hx;simp only[Array.getD_eq_getD_getElem?];split at hx
  ·next ht=>
   obtain⟨v,hv,hr⟩:=hg t x hx;rw[Array.getElem?_append_left (by simp at ht⊢;omega)];simp only[U_,hv,k_];exact hr
  ·next ht=>
   rw[N_]at hx;split at hx
   ·next hlt=>
    injection hx with hx
    subst hx;rw[Array.getElem?_append_right (by simp;omega),Array.getElem?_replicate];simp only[a_h,← hl];rw[if_pos hlt];exact⟨rfl,trivial⟩
   ·cases hx
 olen:=h.olen
 own:=h.own
 blen:=h.blen
 box:=h.box
 nodup:=h.nodup
 lin:=h.lin
 unf:=h.unf
 below:=h.below
 base:=h.base
theorem CY{n m:Nat}:∀(fr:List AV),aU n m fr (E_ fr.length .any)
 | []=>trivial
 |x::fr=>⟨r_ rfl,CY fr⟩
theorem Ju{n m:Nat}{x:AV}(hx:x.fits n m=true):∀(fr:List AV) (t:Nat),fr.getD t .any=x→aU n m fr ((E_ fr.length AV.any).set t x)
 | [],t,_=>trivial
 |y::fr,0,h=>⟨m_ ⟨h,hx⟩,CY fr⟩
 |y::fr,t+1,h=>⟨r_ rfl,Ju hx fr t (by simpa using h)⟩
def aeR(rs:List ResultVar)(r:AV)(os':List Own)(bs':List (List AC))(st:St):Prop:=
 aC st.owns os'∧aF st.boxes bs'∧(bs'.all fun xs=>xs.all (AC.fits os'.length bs'.length))=true∧
  (match rs with
   | []=>r= .c false [.raw (.tuple #[])]
   | [.tmp t]=>st.fr.getD t .any=r∧r.fits os'.length bs'.length=true
   |_=>False)
theorem Po{P:Program}{f:Nat}{fn:Func}{code:Code}{ic:IC}{avs:List AV}{os os':List Own}{bs bs':List (List AC)}{r:AV}{rs:List ResultVar}(hf:P.funcs[f]? =some fn:=by kernel_rfl)(hb:fn.body=some code:=by kernel_rfl)(hr:fn.results=rs.toArray:=by kernel_rfl)(hc:ak P code=some ic)
 (h1:os.length≤os'.length) (h2:bs.length≤bs'.length) (h:dH (os.length,bs.length) P ic (iG (aeR rs r os' bs')) (stS fn.ntmps avs os bs)):gZ P f avs os bs r os' bs':=by
 intro B Xs G w0 fr E a w vs hR hv;have hol:=hR.olen;have hbl:=hR.blen;simp only at hol hbl;refine calls_of_wp hf hb ?_;have:=h code hc B Xs ⟨E,os,w⟩ w0 ⟨Nat.le_refl _,by simp only;omega⟩ E _ w (rG hR hv fn.ntmps);refine wp_mono this ?_;rintro e a' w' ⟨st',E',g1,g2⟩;have fin:aeR rs r os' bs' st'→∃v,(results fn a'.tmps).run P w'= .ok v w'∧∃v' E',Ending.returned v= .returned v'∧Rel B Xs ⟨E,os,w⟩ w0 ⟨[],os',bs'⟩ E' {tmps:= #[],defers:= []} w'∧r.ok E' os' w' v':=by
  rintro⟨q1,q2,q3,q4⟩;obtain⟨r1,k1⟩:=vO q1;obtain⟨r2,k2⟩:=wF q2;have drop:∀{fr':List AV} {E'':Env},Rel B Xs ⟨E,os,w⟩ w0 ⟨fr',os',bs'⟩ E'' a' w'→Rel B Xs ⟨E,os,w⟩ w0 ⟨[],os',bs'⟩ E'' {tmps:= #[],defers:= []} w':=fun hh=>
   {eb:=hh.eb,ex:=hh.ex,sim:=hh.sim,defers:=rfl,size:=rfl,fr:=fun t y hy=>by simp at hy,olen:=hh.olen,own:=hh.own,blen:=hh.blen,box:=hh.box,nodup:=hh.nodup,lin:=hh.lin,unf:=hh.unf,below:=hh.below,base:=hh.base}
  match rs,q4 with
  | [],q4=>
    obtain⟨E'',hh⟩:=g1.weak (st':=⟨List.replicate st'.fr.length .any,os',bs'⟩) ⟨CY _,⟨r1,k1⟩,⟨r2,k2⟩,fun xs hx=>List.all_eq_true.1 q3 xs hx⟩ (by simp only;omega) (by simp only;omega);subst q4;exact⟨_,results_none hr _ P w',_,E'',rfl,drop hh,rfl,trivial⟩
  | [.tmp t],q4=>
    obtain⟨E'',hh⟩:=g1.weak (st':=⟨(List.replicate st'.fr.length .any).set t r,os',bs'⟩) ⟨Ju q4.2 _ _ q4.1,⟨r1,k1⟩,⟨r2,k2⟩,fun xs hx=>List.all_eq_true.1 q3 xs hx⟩ (by simp only;omega) (by simp only;omega);refine⟨_,results_tmp hr _ P w',_,E'',rfl,drop hh, ?_⟩;have hlen:t<st'.fr.length∨r= .any:=by
     rcases Nat.lt_or_ge t st'.fr.length with hlt|hge
     ·exact Or.inl hlt
     ·refine Or.inr ?_;rw[← q4.1,List.getD_eq_getElem?_getD,List.getElem?_eq_none hge];rfl
    rcases hlen with hlt|rfl
    ·exact hh.fr t r (by simp only;rw[List.getElem?_set_self (by simpa using hlt)])
    ·trivial
 cases e with
 | normal=>
   obtain⟨v,h3,h4⟩:=fin g2;exact⟨g1.defers,v,h3,h4⟩
 | ret=>
   obtain⟨v,h3,h4⟩:=fin g2;exact⟨g1.defers,v,h3,h4⟩
 |_=>exact g2.elim
theorem Ze{P:Program}{f:Nat}{fn:Func}{code:Code}{ic:IC}{avs:List AV}{os:List Own}{bs:List (List AC)}{post:AV→List Own→List (List AC)→Prop}{rs:List ResultVar}(hf:P.funcs[f]? =some fn:=by kernel_rfl)(hb:fn.body=some code:=by kernel_rfl)(hr:fn.results=rs.toArray:=by kernel_rfl)(hc:ak P code=some ic)
 (h:dH (os.length,bs.length) P ic (iG (fun st=>∃r os' bs',post r os' bs'∧os.length≤os'.length∧bs.length≤bs'.length∧aeR rs r os' bs' st)) (stS fn.ntmps avs os bs)):jv P f avs os bs post:=by
 intro B Xs G w0 fr E a w vs hR hv;have hol:=hR.olen;have hbl:=hR.blen;simp only at hol hbl;refine calls_of_wp hf hb ?_;have:=h code hc B Xs ⟨E,os,w⟩ w0 ⟨Nat.le_refl _,by simp only;omega⟩ E _ w (rG hR hv fn.ntmps);refine wp_mono this ?_;rintro e a' w' ⟨st',E',g1,g2⟩;have fin:(∃r os' bs',post r os' bs'∧os.length≤os'.length∧bs.length≤bs'.length∧aeR rs r os' bs' st')→∃v,(results fn a'.tmps).run P w'= .ok v w'∧∃v' E' r os' bs',post r os' bs'∧Ending.returned v= .returned v'∧Rel B Xs ⟨E,os,w⟩ w0 ⟨[],os',bs'⟩ E' {tmps:= #[],defers:= []} w'∧r.ok E' os' w' v':=by
  rintro⟨r,os',bs',hp,h1,h2,q1,q2,q3,q4⟩;obtain⟨r1,k1⟩:=vO q1;obtain⟨r2,k2⟩:=wF q2;have drop:∀{fr':List AV} {E'':Env},Rel B Xs ⟨E,os,w⟩ w0 ⟨fr',os',bs'⟩ E'' a' w'→Rel B Xs ⟨E,os,w⟩ w0 ⟨[],os',bs'⟩ E'' {tmps:= #[],defers:= []} w':=fun hh=>
   {eb:=hh.eb,ex:=hh.ex,sim:=hh.sim,defers:=rfl,size:=rfl,fr:=fun t y hy=>by simp at hy,olen:=hh.olen,own:=hh.own,blen:=hh.blen,box:=hh.box,nodup:=hh.nodup,lin:=hh.lin,unf:=hh.unf,below:=hh.below,base:=hh.base}
  match rs,q4 with
  | [],q4=>
    obtain⟨E'',hh⟩:=g1.weak (st':=⟨List.replicate st'.fr.length .any,os',bs'⟩) ⟨CY _,⟨r1,k1⟩,⟨r2,k2⟩,fun xs hx=>List.all_eq_true.1 q3 xs hx⟩ (by simp only;omega) (by simp only;omega);subst q4;exact⟨_,results_none hr _ P w',_,E'',_,os',bs',hp,rfl,drop hh,rfl,trivial⟩
  | [.tmp t],q4=>
    obtain⟨E'',hh⟩:=g1.weak (st':=⟨(List.replicate st'.fr.length .any).set t r,os',bs'⟩) ⟨Ju q4.2 _ _ q4.1,⟨r1,k1⟩,⟨r2,k2⟩,fun xs hx=>List.all_eq_true.1 q3 xs hx⟩ (by simp only;omega) (by simp only;omega);refine⟨_,results_tmp hr _ P w',_,E'',r,os',bs',hp,rfl,drop hh, ?_⟩;have hlen:t<st'.fr.length∨r= .any:=by
     rcases Nat.lt_or_ge t st'.fr.length with hlt|hge
     ·exact Or.inl hlt
     ·refine Or.inr ?_;rw[← q4.1,List.getD_eq_getElem?_getD,List.getElem?_eq_none hge];rfl
    rcases hlen with hlt|rfl
    ·exact hh.fr t r (by simp only;rw[List.getElem?_set_self (by simpa using hlt)])
    ·trivial
 cases e with
 | normal=>
   obtain⟨v,h3,h4⟩:=fin g2;exact⟨g1.defers,v,h3,h4⟩
 | ret=>
   obtain⟨v,h3,h4⟩:=fin g2;exact⟨g1.defers,v,h3,h4⟩
 |_=>exact g2.elim
section
variable{lo:Nat×Nat}{P:Program}{K:St→Prop}{Q:Exit→St→Prop}{st:St}{m:Bool}
theorem jJ{c:Opd}{x y:IC}{b:Bool}(hb:st.ev c= .c false [.raw (.bool b)])(h1:b=true→dH lo P x Q st)(h2:b=false→dH lo P y Q st):dH lo P (.cond c x y) Q st:=JY hb h1 h2
theorem oU{os:List Own}{xs:List AV}{ds:List D}(h:bD os xs ds):bD os xs ds:=h
theorem mO{f:Nat}(h:Ei P f=true):Ei P f=true:=h
theorem fC{a b:Prop}(h1:a)(h2:b):a∧b:=⟨h1,h2⟩
theorem oK{d:Option Nat}{f:Nat}{avs:List AV}{rest:List IOp}(h:kF P K d f avs rest st):kF P K d f avs rest st:=h
theorem WC{d:Option Nat}{f:Nat}{avs:List AV}{rest:List IOp}(h:vH P m K d f avs rest st):vH P m K d f avs rest st:=h
theorem Ub{d:Option Nat}{x:AV}{avs:List AV}{rest:List IOp}(h:zl P K d x avs rest st):zl P K d x avs rest st:=h
theorem JJ{d:Option Nat}{x:AV}{avs:List AV}{rest:List IOp}(h:wP P m K d x avs rest st):wP P m K d x avs rest st:=h
theorem jg{l:List IOp}(h:sw P K l st):sw P K l st:=h
theorem Xo{l:List IOp}(h:sd P m K l st):sd P m K l st:=h
theorem eX{d:Option Nat}{g:Nat}{w:Bool}{i:I}{rest:List IOp}(hg:gdA st (some (g,w))=some true)(h:sw P K (⟨d,none,i⟩::rest) st):sw P K (⟨d,some (g,w),i⟩::rest) st:=by
 rw[PZ,hg];exact h
theorem eY{d:Option Nat}{g:Nat}{w:Bool}{i:I}{rest:List IOp}(hg:gdA st (some (g,w))=some false)(h:sw P K rest (st.put d (.c false [.raw undef]))):sw P K (⟨d,some (g,w),i⟩::rest) st:=by
 rw[PZ,hg];exact h
theorem o8{d:Option Nat}{g:Nat}{w:Bool}{i:I}{rest:List IOp}(hg:gdA st (some (g,w))=some true)(h:sd P m K (⟨d,none,i⟩::rest) st):sd P m K (⟨d,some (g,w),i⟩::rest) st:=by
 rw[Qj,hg];exact h
theorem o9{d:Option Nat}{g:Nat}{w:Bool}{i:I}{rest:List IOp}(hg:gdA st (some (g,w))=some false)(h:sd P m K rest (st.put d (.c false [.raw undef]))):sd P m K (⟨d,some (g,w),i⟩::rest) st:=by
 rw[Qj,hg];exact h
theorem tN{g:Nat}{w b:Bool}(h:st.fr.getD g .any= .c false [.raw (.bool b)]):gdA st (some (g,w))=some (b==w):=by
 simp only[gdA,h]
theorem Zx{d:Option Nat}{g:Nat}{w b:Bool}{i:I}{rest:List IOp}(hg:st.fr.getD g .any= .c false [.raw (.bool b)])(h1:b=w→sw P K (⟨d,none,i⟩::rest) st)(h2:b= !w→sw P K rest (st.put d (.c false [.raw undef]))):
 sw P K (⟨d,some (g,w),i⟩::rest) st:=by
 cases b<;>cases w
 ·exact eX (tN hg) (h1 rfl)
 ·exact eY (tN hg) (h2 rfl)
 ·exact eY (tN hg) (h2 rfl)
 ·exact eX (tN hg) (h1 rfl)
theorem ZI{d:Option Nat}{g:Nat}{w b:Bool}{i:I}{rest:List IOp}(hg:st.fr.getD g .any= .c false [.raw (.bool b)])(h1:b=w→sd P m K (⟨d,none,i⟩::rest) st)(h2:b= !w→sd P m K rest (st.put d (.c false [.raw undef]))):
 sd P m K (⟨d,some (g,w),i⟩::rest) st:=by
 cases b<;>cases w
 ·exact o8 (tN hg) (h1 rfl)
 ·exact o9 (tN hg) (h2 rfl)
 ·exact o9 (tN hg) (h2 rfl)
 ·exact o8 (tN hg) (h1 rfl)
end
theorem gW{lo:Nat×Nat}{P:Program}{Q:Exit→St→Prop}{X:Type}{c:IC}{fr0:List AV}{os0:List Own}{bs0:List (List AC)}(sp:X→List Sp)(ow:X→List Own)(bx:X→List (List AC)→List (List AC))(inv:X→Prop)(μ:X→Nat)(x0:X)(h0:inv x0)
 (hlo:∀x,lo.1≤(ow x).length∧lo.2≤(bx x bs0).length) (hle:aG ⟨fr0,os0,bs0⟩ (FB fr0 bs0 sp ow bx x0)) (round:∀x,inv x→dH lo P c (Bq (FB fr0 bs0 sp ow bx) inv μ x Q) (FB fr0 bs0 sp ow bx x)):dH lo P (.loop c) Q ⟨fr0,os0,bs0⟩:=
 Nv (FB fr0 bs0 sp ow bx) inv μ x0 h0 hlo (Gp hle) round
theorem jf{z:Int}(h1: -9223372036854775808≤z)(h2:z≤9223372036854775807):IntKind.i64.wrap z=z:=IntWalk.i64_in _ ⟨h1,h2⟩
theorem ag2{α:Type}{a b:Nat}{x y:α}(h:a<b):(if a<b then x else y)=x:=if_pos h
theorem ag3{α:Type}{a b:Nat}{x y:α}(h:a≤b):(if a≤b then x else y)=x:=if_pos h
theorem ag9{p:Prop}[Decidable p](h:p):decide p=true:=decide_eq_true h
theorem aha{p:Prop}[Decidable p](h:¬p):decide p=false:=decide_eq_false h
theorem ahf{a b:Int}(h:a=b):(a==b)=true:=by simp[h]
theorem Fz{a b:Int}(h:a≠b):(a==b)=false:=by simp[h]
theorem ahd{a b:Int}(h:a≠b):(a !=b)=true:=by simp[h]
theorem ahe{a b:Int}(h:a=b):(a !=b)=false:=by simp[h]
theorem adg{l:List D}{k:Nat}(h:k<l.length):idx l (some (k:Int))=some l[k]:=by
 rw[Yh,a_ h]
theorem Rn{α:Type}(f:α→D)(l:List α){z:Int}(h0:0≤z)(h:z.toNat<l.length):idx (l.map f) (some z)=some (f l[z.toNat]):=by
 simp only[idx];rw[if_pos h0,t_,a_ h];rfl
theorem Xl{k n:Nat}(h:k≤n):mV none (some (k:Int)) n=some (0,k):=by
 simp[mV,h]
theorem DR{k n:Nat}(h:k≤n):mV (some (k:Int)) none n=some (k,n):=by
 simp[mV,h]
theorem Lc{j k n:Nat}(h:j≤k)(h':k≤n):mV (some (j:Int)) (some (k:Int)) n=some (j,k):=by
 simp only[mV,k_];rw[if_pos (by omega)];simp
theorem P9{n:Nat}(h:1≤n):mV (some (1:Int)) none n=some (1,n):=by
 have:=DR h;simpa using this
theorem Qa{n:Nat}:mV none none n=some (0,n):=by
 simp[mV]
section
variable{α:Type}
theorem lZ(l ys:List α)(k:Nat):(l++ys)[l.length+k]? =ys[k]? :=by
 rw[B_ (by omega),O_]
theorem lJ(l ys:List α):(l++ys)[l.length]? =ys[0]? :=by
 have:=lZ l ys 0;simpa using this
theorem nR(l ys:List α)(k:Nat)(y:α):(l++ys).set (l.length+k) y=l++ys.set k y:=by
 rw[List.set_append_right _ _ (by omega),O_]
theorem lI(l ys:List α)(y:α):(l++ys).set l.length y=l++ys.set 0 y:=by
 simp
end
theorem fV :∀(os:List Own),aC os os
 | []=>trivial
 |o::os=>⟨⟨rfl,rfl,rfl,rfl,rfl⟩,fV os⟩
theorem Z5(os:List Own):aC os []:=by cases os<;>trivial
theorem LC :∀(os:List Own) {r s:List Own} (_:aC r s),aC (os++r) (os++s)
 | [],_,_,h=>h
 |o::os,_,_,h=>⟨⟨rfl,rfl,rfl,rfl,rfl⟩,LC os h⟩
theorem Lu(os r:List Own):aC (os++r) os:=by
 have:=LC os (Z5 r);rwa[R_]at this
theorem mY :∀(bs:List (List AC)),aF bs bs
 | []=>trivial
 |b::bs=>⟨rfl,mY bs⟩
theorem aaV(bs:List (List AC)):aF bs []:=by cases bs<;>trivial
theorem zh :∀(bs:List (List AC)) {r s:List (List AC)} (_:aF r s),aF (bs++r) (bs++s)
 | [],_,_,h=>h
 |b::bs,_,_,h=>⟨rfl,zh bs h⟩
theorem zf(bs r:List (List AC)):aF (bs++r) bs:=by
 have:=zh bs (aaV r);rwa[R_]at this
theorem UA{n m n' m':Nat}(h:n≤n')(h':m≤m'){x:AC}(hx:x.fits n m=true):x.fits n' m'=true:=by
 cases x with
 |own k i=>simp[AC.fits]at hx⊢;omega
 |osub k i a b=>simp[AC.fits]at hx⊢;omega
 | cl f caps=>
   simp only[AC.fits,v_,decide_eq_true_eq]at hx⊢;exact fun k hk=>D_ (hx k hk) h'
 |_=>rfl
def iD(n m:Nat)(bx:List (List AC)):Prop:=(bx.all fun xs=>xs.all (AC.fits n m))=true
theorem Pq{n m:Nat}{bx:List (List AC)}(h:iD n m bx):iD n m bx:=h
theorem iD.mono{n m n' m':Nat}{bx:List (List AC)}(h:iD n m bx)(h1:n≤n')(h2:m≤m'):iD n' m' bx:=by
 simp only[iD,v_]at h⊢;exact fun xs hx x hxx=>UA h1 h2 (h xs hx x hxx)
theorem Ui{P:Program}{f:Nat}{avs avs':List AV}{os os':List Own}{bs bs':List (List AC)}{r:AV}(h:gZ P f avs os bs r os' bs')(hle:∀E w vs,oZ E os w avs' vs→oZ E os w avs vs):gZ P f avs' os bs r os' bs':=
 fun B Xs G w0 fr E a w vs hR hv=>h B Xs G w0 fr E a w vs hR (hle E w vs hv)
theorem ahC{E:Env}{os:List Own}{w:World}{b:Bool}{v:Value}(h:(AV.c false [.raw (.slice none 0 0)]).ok E os w v):(AV.c false [.sl b []]).ok E os w v:=by
 obtain rfl:=h.1;refine⟨⟨[], ?_,fun b hb=>by simp at hb⟩,trivial⟩;unfold Sl;rw[R];exact⟨none,0,rfl,s_ _,u_ _,r_ ⟨rfl,rfl⟩⟩
theorem pkA :type_of% (aiX @K_.{0,0} (aiX @a_B.{0,0} (aiX @H_.{0} (aiX @a_p.{0} (aiX @w_.{0} (aiX @a_q.{0} (aiX @C_.{0,0} (aiX @Y_.{0} (aiX @Z_.{0} (aiX @P_.{0} (aiX @Q_.{0} (aiX @a_c.{0} (aiX @a_d.{0} (aiX @a_a.{0} (aiX @a_t.{0} (aiX @a_b.{0} (aiX @a_u.{0} (aiX @a_v.{0} (aiX @a_w.{0} (aiX @a_C (aiX @a_D (aiX @a_E.{0} (aiX @n_.{0} (aiX @a_x (aiX @a_y (aiX @a_z (aiX @L_ (aiX @J_ (aiX @beq_self_eq_true.{0} (aiX @if_true.{1} (aiX @if_false.{1} (aiX @ite_true.{1} (aiX @ite_false.{1} (aiX @a_e (aiX @true_and (aiX @and_true (aiX @decide_true (aiX @decide_false (aiX @k_.{0} (aiX @a_l.{0} (aiX @s_ (aiX @u_ (aiX @Int.toNat_natCast (aiX @Int.natCast_nonneg (aiX @BEq.rfl.{0} (aiX @S_.{0,0} (aiX @a_r.{0,0} (aiX @aew (aiX @aev (aiX @bP (aiX @bM (aiX @bV (aiX @dK (aiX @eP (aiX @bW (aiX @adS (@YW))))))))))))))))))))))))))))))))))))))))))))))))))))))))):=aiX @K_.{0,0} (aiX @a_B.{0,0} (aiX @H_.{0} (aiX @a_p.{0} (aiX @w_.{0} (aiX @a_q.{0} (aiX @C_.{0,0} (aiX @Y_.{0} (aiX @Z_.{0} (aiX @P_.{0} (aiX @Q_.{0} (aiX @a_c.{0} (aiX @a_d.{0} (aiX @a_a.{0} (aiX @a_t.{0} (aiX @a_b.{0} (aiX @a_u.{0} (aiX @a_v.{0} (aiX @a_w.{0} (aiX @a_C (aiX @a_D (aiX @a_E.{0} (aiX @n_.{0} (aiX @a_x (aiX @a_y (aiX @a_z (aiX @L_ (aiX @J_ (aiX @beq_self_eq_true.{0} (aiX @if_true.{1} (aiX @if_false.{1} (aiX @ite_true.{1} (aiX @ite_false.{1} (aiX @a_e (aiX @true_and (aiX @and_true (aiX @decide_true (aiX @decide_false (aiX @k_.{0} (aiX @a_l.{0} (aiX @s_ (aiX @u_ (aiX @Int.toNat_natCast (aiX @Int.natCast_nonneg (aiX @BEq.rfl.{0} (aiX @S_.{0,0} (aiX @a_r.{0,0} (aiX @aew (aiX @aev (aiX @bP (aiX @bM (aiX @bV (aiX @dK (aiX @eP (aiX @bW (aiX @adS (@YW))))))))))))))))))))))))))))))))))))))))))))))))))))))))
theorem pkN :type_of% (aiX @ag2 (aiX @ag3 (aiX @ag9 (aiX @aha (aiX @ahf (aiX @Fz (aiX @ahd (aiX @ahe (aiX @dJ (aiX @jf (aiX @adg (aiX @bU (aiX @Rn (aiX @Xl (aiX @DR (aiX @Lc (aiX @P9 (@Qa)))))))))))))))))):=aiX @ag2 (aiX @ag3 (aiX @ag9 (aiX @aha (aiX @ahf (aiX @Fz (aiX @ahd (aiX @ahe (aiX @dJ (aiX @jf (aiX @adg (aiX @bU (aiX @Rn (aiX @Xl (aiX @DR (aiX @Lc (aiX @P9 (@Qa)))))))))))))))))
theorem pkC :type_of% (aiX @decide_eq_true_eq (aiX @decide_eq_false_iff_not (aiX @beq_iff_eq.{0} (aiX @bne_iff_ne.{0} (aiX @ne_eq.{1} (aiX @beq_eq_false_iff_ne.{0} (aiX @bne_eq_false_iff_eq.{0} (aiX @a_j (aiX @a_g (aiX @V_ (aiX @L_ (@J_)))))))))))):=aiX @decide_eq_true_eq (aiX @decide_eq_false_iff_not (aiX @beq_iff_eq.{0} (aiX @bne_iff_ne.{0} (aiX @ne_eq.{1} (aiX @beq_eq_false_iff_ne.{0} (aiX @bne_eq_false_iff_eq.{0} (aiX @a_j (aiX @a_g (aiX @V_ (aiX @L_ (@J_)))))))))))
theorem pkW :type_of% (aiX @ab4 (aiX @Xy (aiX @ach (aiX @aci (aiX @ab2 (aiX @Xz (aiX @ab8 (aiX @ab3 (aiX @Qs (aiX @acf (aiX @acg (aiX @ab7 (aiX @Xx (aiX @ab1 (aiX @ab9 (aiX @ab6 (aiX @ab5 (aiX @XC (aiX @Xw (aiX @agW (aiX @ace (aiX @acd (aiX @XE (@XD)))))))))))))))))))))))):=aiX @ab4 (aiX @Xy (aiX @ach (aiX @aci (aiX @ab2 (aiX @Xz (aiX @ab8 (aiX @ab3 (aiX @Qs (aiX @acf (aiX @acg (aiX @ab7 (aiX @Xx (aiX @ab1 (aiX @ab9 (aiX @ab6 (aiX @ab5 (aiX @XC (aiX @Xw (aiX @agW (aiX @ace (aiX @acd (aiX @XE (@XD)))))))))))))))))))))))
theorem pkS :type_of% (aiX @abq (aiX @abt (aiX @abr (aiX @Xh (aiX @P5 (aiX @abu (aiX @PY (aiX @Xi (@agP))))))))):=aiX @abq (aiX @abt (aiX @abr (aiX @Xh (aiX @P5 (aiX @abu (aiX @PY (aiX @Xi (@agP))))))))
theorem pkD :type_of% (aiX @acw (aiX @XI (aiX @acH (aiX @acI (aiX @acu (aiX @XJ (aiX @acB (aiX @acv (aiX @Qx (aiX @acF (aiX @Qw (aiX @XL (aiX @acG (aiX @acA (aiX @XH (aiX @acr (aiX @acC (aiX @acz (aiX @acy (aiX @XK (aiX @XG (aiX @agX (aiX @acE (aiX @acD (aiX @XO (aiX @XM (aiX @adX (aiX @Y0 (aiX @ad8 (aiX @ad9 (aiX @adV (aiX @Y1 (aiX @ad2 (aiX @adW (aiX @TV (aiX @ad6 (aiX @TU (aiX @Y3 (aiX @ad7 (aiX @ad1 (aiX @YZ (aiX @adU (aiX @ad3 (aiX @adZ (aiX @adY (aiX @Y2 (aiX @YX (aiX @ag8 (aiX @ad5 (aiX @ad4 (aiX @Y6 (aiX @Y5 (aiX @Y4 (aiX @zq (@zu))))))))))))))))))))))))))))))))))))))))))))))))))))))):=aiX @acw (aiX @XI (aiX @acH (aiX @acI (aiX @acu (aiX @XJ (aiX @acB (aiX @acv (aiX @Qx (aiX @acF (aiX @Qw (aiX @XL (aiX @acG (aiX @acA (aiX @XH (aiX @acr (aiX @acC (aiX @acz (aiX @acy (aiX @XK (aiX @XG (aiX @agX (aiX @acE (aiX @acD (aiX @XO (aiX @XM (aiX @adX (aiX @Y0 (aiX @ad8 (aiX @ad9 (aiX @adV (aiX @Y1 (aiX @ad2 (aiX @adW (aiX @TV (aiX @ad6 (aiX @TU (aiX @Y3 (aiX @ad7 (aiX @ad1 (aiX @YZ (aiX @adU (aiX @ad3 (aiX @adZ (aiX @adY (aiX @Y2 (aiX @YX (aiX @ag8 (aiX @ad5 (aiX @ad4 (aiX @Y6 (aiX @Y5 (aiX @Y4 (aiX @zq (@zu))))))))))))))))))))))))))))))))))))))))))))))))))))))
theorem pkR :type_of% (aiX @abI (aiX @abK (aiX @abJ (aiX @N8 (aiX @Qk (aiX @abN (aiX @abL (@abM)))))))):=aiX @abI (aiX @abK (aiX @abJ (aiX @N8 (aiX @Qk (aiX @abN (aiX @abL (@abM)))))))
def AC.ren(pk:List Nat):AC→AC
 | .own k i=> .own (pk.getD k 0) i
 | .osub k i a b=> .osub (pk.getD k 0) i a b
 |x=>x
def AV.ren(pk:List Nat):AV→AV
 | .c g xs=> .c g (xs.map (AC.ren pk))
 | .ptr xs=> .ptr (xs.map (AC.ren pk))
 | .eptr k i j off=> .eptr (pk.getD k 0) i j off
 | .tup ys=> .tup (ys.map fun y=>(y.1,y.2.map (AC.ren pk)))
 |x=>x
def yG(pk:List Nat)(n m:Nat):List AV→List AV→Prop
 | [],[]=>True
 |x::xs,y::ys=>(y= .any∨(x=y.ren pk∧y.fits n m=true))∧yG pk n m xs ys
 |_,_=>False
def Bj(os:List Own):List Nat→List Own→Prop
 | [],[]=>True
 |k::pk,o'::os'=>(match os[k]? with|some o=>o.l=o'.l∧o.e=o'.e∧o.s=o'.s∧o.ver=o'.ver∧o.nw=o'.nw|none=>False)∧Bj os pk os'
 |_,_=>False
def uH(pk:List Nat):List (List AC)→List (List AC)→Prop
 |_,[]=>True
 |x::xs,y::ys=>x=y.map (AC.ren pk)∧uH pk xs ys
 | [],_::_=>False
def wW(pk:List Nat)(st st':St):Prop:=pk.Nodup∧yG pk st'.owns.length st'.boxes.length st.fr st'.fr∧Bj st.owns pk st'.owns∧uH pk st.boxes st'.boxes∧(st'.boxes.all fun xs=>xs.all (AC.fits st'.owns.length st'.boxes.length))=true
theorem Ia{os:List Own}:∀{pk:List Nat} {os':List Own},Bj os pk os'→pk.length=os'.length∧∀(j:Nat) (o':Own),os'[j]? =some o'→∃k,pk[j]? =some k∧os[k]? =some o'
 | [],[],_=>⟨rfl,fun j o' h=>by simp at h⟩
 | k ::pk,o'::os',h=>by
   obtain⟨h1,h2⟩:=Ia h.2;refine⟨by simp[h1],fun j o'' g=> ?_⟩;cases j with
   | zero=>
     simp at g;subst g;have h3:=h.1;split at h3
     ·next o ho=>
      refine⟨k,rfl, ?_⟩;rw[ho];congr 1;cases o;cases o';simp_all
     ·exact h3.elim
   |succ j=>simpa using h2 j o'' (by simpa using g)
 | [],_::_,h=>h.elim
 |_::_,[],h=>h.elim
theorem JW{pk:List Nat}:∀{xs ys:List (List AC)},uH pk xs ys→ys.length≤xs.length∧∀(j:Nat) (y:List AC),ys[j]? =some y→xs[j]? =some (y.map (AC.ren pk))
 |xs,[],_=>⟨u_ _,fun j y h=>by simp at h⟩
 | x::xs,y::ys,h=>by
   obtain⟨h1,h2⟩:=JW h.2;refine⟨by simp;exact h1,fun j z g=> ?_⟩;cases j with
   |zero=>simp at g;subst g;simp[h.1]
   |succ j=>simpa using h2 j z (by simpa using g)
 | [],_::_,h=>h.elim
theorem MQ{pk:List Nat}{n m:Nat}:∀{xs ys:List AV},yG pk n m xs ys→xs.length=ys.length∧∀(t:Nat) (y:AV),ys[t]? =some y→y= .any∨(xs[t]? =some (y.ren pk)∧y.fits n m=true)
 | [],[],_=>⟨rfl,fun t y h=>by simp at h⟩
 | x ::xs,y::ys,h=>by
   obtain⟨h1,h2⟩:=MQ h.2;refine⟨by simp[h1],fun t z hz=> ?_⟩;cases t with
   | zero=>
     simp at hz;subst hz;rcases h.1 with h'|⟨h',h''⟩
     ·exact r_ h'
     ·exact m_ ⟨by simp[h'],h''⟩
   |succ t=>simpa using h2 t z (by simpa using hz)
 | [],_::_,h=>h.elim
 |_::_,[],h=>h.elim
def Env.pick(E:Env)(pk:List Nat)(m:Nat):Env:={E with om:=pk.map fun k=>E.om.getD k (undef,[]),bm:=E.bm.take m}
theorem TQ :∀(L:List (Value×List Nat)) (i j:Nat) (p q:Value×List Nat) (b:Nat),(L.flatMap (fun p=>p.1.ownBlock.toList)).Nodup→L[i]? =some p→L[j]? =some q→p.1.ownBlock=some b→q.1.ownBlock=some b→i=j:=by
 intro L
 induction L with
 |nil=>intro i j p q b _ hi;simp at hi
 | cons z L ih=>
   intro i j p q b hn hi hj hpb hqb;rw[G_,l_]at hn;cases i with
   | zero=>
     cases j with
     |zero=>rfl
     | succ j=>
       simp at hi hj;subst hi;exact absurd rfl (hn.2.2 b (by simp[hpb]) b (j_.2 ⟨q,e_ hj,by simp[hqb]⟩))
   | succ i=>
     cases j with
     | zero=>
       simp at hi hj;subst hj;exact absurd rfl (hn.2.2 b (by simp[hqb]) b (j_.2 ⟨p,e_ hi,by simp[hpb]⟩))
     | succ j=>
       simp at hi hj;rw[ih i j p q b hn.2.1 hi hj hpb hqb]
theorem H6{L:List (Value×List Nat)}{pk:List Nat}(hlt:∀k∈pk,k<L.length){b:Nat}(hb:b∈(pk.map fun k=>L.getD k (undef,[])).flatMap fun p=>p.1.ownBlock.toList):∃k∈pk,∃p,L[k]? =some p∧p.1.ownBlock=some b:=by
 obtain⟨q,hq,hqb⟩:=j_.1 hb;obtain⟨k,hk,rfl⟩:=h_.1 hq;have hkl:=hlt k hk;rw[c_,a_ hkl]at hqb;exact⟨k,hk,L[k],a_ hkl,by simpa using hqb⟩
theorem Ag{L:List (Value×List Nat)}(hL:(L.flatMap (fun p=>p.1.ownBlock.toList)).Nodup):∀{pk:List Nat},pk.Nodup→(∀k∈pk,k<L.length)→((pk.map fun k=>L.getD k (undef,[])).flatMap fun p=>p.1.ownBlock.toList).Nodup
 | [],_,_=>I_
 | k::pk,hn,hlt=>by
   rw[a_n]at hn;rw[K_,G_,l_];refine⟨by cases(L.getD k (undef,[])).1.ownBlock<;>simp,Ag hL hn.2 (fun j hj=>hlt j (by simp[hj])),fun x hx y hy e=> ?_⟩;subst e;obtain⟨j,hj,p,g1,g2⟩:=H6 (fun j hj=>hlt j (by simp[hj])) hy;have hkl:=hlt k (by simp);rw[c_,a_ hkl]at hx;have:=TQ L k j L[k] p x hL (a_ hkl) g1 (by simpa using hx) g2;subst this;exact hn.1 hj
section
variable{B:Nat}{Xs:List Nat}{G:Org}{w0:World}{st st':St}{E:Env}{a:Act}{w:World}{pk:List Nat}{m:Nat}{os os':List Own}
theorem Oi(hlt:∀k∈pk,k<E.om.length){b:Nat}(h:b∈(E.pick pk m).M):b∈E.M:=by
 unfold Env.M at h⊢;rcases q_.1 h with h|h
 ·refine A_ _ ?_;exact((x_ m E.bm).map _).subset h
 ·refine y_ _ ?_;obtain⟨k,hk,p,g1,g2⟩:=H6 hlt h;exact j_.2 ⟨p,e_ g1,by simp[g2]⟩
theorem yN{j k:Nat}(hk:pk[j]? =some k){p:Value×List Nat}(hp:E.om[k]? =some p):(E.pick pk m).om[j]? =some p:=by
 simp only[Env.pick,t_,hk,S_,c_,hp,k_]
theorem AC.ok.pick(hlt:∀k∈pk,k<E.om.length)(hl:pk.length=os'.length)(ho:∀(j:Nat) (o':Own),os'[j]? =some o'→∃k,pk[j]? =some k∧os[k]? =some o'){x:AC}{v:Value}(h:(x.ren pk).ok E os w v)(hf:x.fits os'.length m=true):x.ok (E.pick pk m) os' w v:=by
 cases x with
 |any=>trivial
 |raw u=>exact h
 | cl f caps=>
   obtain⟨ps,h1,h2⟩:=h;refine⟨ps, ?_,h2⟩;rw[← h1];refine X_ fun k hk=> ?_
   have:k<m:=by simpa using v_.1 hf k hk
   simp only[Env.pick];rw[d_,if_pos this]
 | sl b l=>
   obtain⟨fp,h1,h2⟩:=h;exact⟨fp,h1,fun b hb=>⟨fun hm=>(h2 b hb).1 (Oi hlt hm),(h2 b hb).2⟩⟩
 | own k i=>
   obtain⟨hv,o,p,h1,h2,h3,h4⟩:=h;have hk:k<os'.length:=by simpa[AC.fits]using hf
   obtain⟨k0,g1,g2⟩:=ho k _ (a_ hk);have e:pk.getD k 0=k0:=by rw[c_,g1];rfl
   rw[e]at h1 h2;rw[h1]at g2;injection g2 with g2
   exact⟨hv,o,p,by rw[a_ hk,← g2],yN g1 h2,h3,h4⟩
 | osub k i pa pb=>
   obtain⟨hv,o,p,h1,h2,h3,h4⟩:=h;have hk:k<os'.length:=by simpa[AC.fits]using hf
   obtain⟨k0,g1,g2⟩:=ho k _ (a_ hk);have e:pk.getD k 0=k0:=by rw[c_,g1];rfl
   rw[e]at h1 h2;rw[h1]at g2;injection g2 with g2
   exact⟨hv,o,p,by rw[a_ hk,← g2],yN g1 h2,h3,h4⟩
theorem Oks.pick(hlt:∀k∈pk,k<E.om.length)(hl:pk.length=os'.length)(ho:∀(j:Nat) (o':Own),os'[j]? =some o'→∃k,pk[j]? =some k∧os[k]? =some o'):∀{xs:List AC} {vs:List Value},Oks E os w (xs.map (AC.ren pk)) vs→xs.all (AC.fits os'.length m)=true→Oks (E.pick pk m) os' w xs vs
 | [],[],_,_=>trivial
 | x::xs,v::vs,h,hf=>by
   simp only[n_,g_]at hf;exact⟨AC.ok.pick hlt hl ho h.1 hf.1,Oks.pick hlt hl ho h.2 hf.2⟩
 | [],_::_,h,_=>h.elim
 |_::_,[],h,_=>h.elim
theorem Gok.pick(hlt:∀k∈pk,k<E.om.length)(hl:pk.length=os'.length)(ho:∀(j:Nat) (o':Own),os'[j]? =some o'→∃k,pk[j]? =some k∧os[k]? =some o'){g:Bool}{xs:List AC}{v:Value}(h:Gok E os w g (xs.map (AC.ren pk)) v)(hf:xs.all (AC.fits os'.length m)=true):Gok (E.pick pk m) os' w g xs v:=by
 cases g with
 |true=>obtain⟨vs,h1,h2⟩:=h;exact⟨vs,h1,h2.pick hlt hl ho hf⟩
 |false=>exact Oks.pick hlt hl ho (show Oks _ _ _ _ [v] from h) hf
theorem uG.pick(hlt:∀k∈pk,k<E.om.length)(hl:pk.length=os'.length)(ho:∀(j:Nat) (o':Own),os'[j]? =some o'→∃k,pk[j]? =some k∧os[k]? =some o'):∀{ys:List (Bool×List AC)} {vs:List Value},uG E os w (ys.map fun y=>(y.1,y.2.map (AC.ren pk))) vs→(ys.all fun y=>y.2.all (AC.fits os'.length m))=true→uG (E.pick pk m) os' w ys vs
 | [],[],_,_=>trivial
 | y::ys,v::vs,h,hf=>by
   simp only[n_,g_]at hf;exact⟨Gok.pick hlt hl ho h.1 hf.1,uG.pick hlt hl ho h.2 hf.2⟩
 | [],_::_,h,_=>h.elim
 |_::_,[],h,_=>h.elim
theorem AV.ok.pick(hlt:∀k∈pk,k<E.om.length)(hl:pk.length=os'.length)(ho:∀(j:Nat) (o':Own),os'[j]? =some o'→∃k,pk[j]? =some k∧os[k]? =some o'){x:AV}{v:Value}(h:(x.ren pk).ok E os w v)(hf:x.fits os'.length m=true):x.ok (E.pick pk m) os' w v:=by
 cases x with
 |any=>trivial
 |c g xs=>exact Gok.pick hlt hl ho h hf
 | ptr xs=>
   obtain⟨b,o,vs,h1,h2,h3,h4,h5⟩:=h;exact⟨b,o,vs,h1,h2,fun hm=>h3 (Oi hlt hm),h4,h5.pick hlt hl ho hf⟩
 | bptr k off=>
   obtain⟨p,h1,h2⟩:=h;refine⟨p, ?_,h2⟩;simp only[Env.pick];rw[d_,if_pos (by simpa[AV.fits]using hf)];exact h1
 | eptr k i j off=>
   obtain⟨o,p,h1,h2,h3,h4⟩:=h;have hk:k<os'.length:=by simpa[AV.fits]using hf
   obtain⟨k0,g1,g2⟩:=ho k _ (a_ hk);have e:pk.getD k 0=k0:=by rw[c_,g1];rfl
   rw[e]at h1 h2;rw[h1]at g2;injection g2 with g2
   exact⟨o,p,by rw[a_ hk,← g2],yN g1 h2,h3,h4⟩
 | tup ys=>
   obtain⟨vs,h1,h2⟩:=h;exact⟨vs,h1,h2.pick hlt hl ho hf⟩
theorem Rel.PN(h:Rel B Xs G w0 st E a w)(hle:wW pk st st')(hG1:G.os.length=0)(hG2:G.E.bm.length≤st'.boxes.length):∃E',Rel B Xs G w0 st' E' a w:=by
 obtain⟨hnd,h1,h2,h3,h4⟩:=hle;obtain⟨hl,hf⟩:=MQ h1;obtain⟨hpl,ho⟩:=Ia h2;obtain⟨hbl,hb⟩:=JW h3;have hol:=h.olen;have hbl':=h.blen;have hlt:∀k∈pk,k<E.om.length:=fun k hk=>by
  obtain⟨j,hj⟩:=z_.1 hk;have hjl:j<st'.owns.length:=by rw[← hpl];exact(b_.1 hj).1
  obtain⟨k',g1,g2⟩:=ho j _ (a_ hjl);rw[hj]at g1;injection g1 with g1
  subst g1;rw[hol];exact(b_.1 g2).1
 have hnil:G.os= []:=List.eq_nil_of_length_eq_zero hG1;refine⟨E.pick pk st'.boxes.length, ?_⟩;exact
  { eb :=h.eb
    ex:=h.ex
    sim := { base:=h.sim.base,size:=h.sim.size,blk:=h.sim.blk,old:=fun b hb hm=>h.sim.old b hb (Oi hlt hm),
             own:=fun k o p g1 g2=>by rw[hnil]at g1;simp at g1
             box:=fun k p g=>by
              have hk:k<st'.boxes.length:=D_ (b_.1 g).1 hG2;simp only[Env.pick];rw[d_,if_pos hk];exact h.sim.box k p g}
    defers:=h.defers
    size:=by rw[h.size];exact hl
    fr:=fun t y hy=>by
     rcases hf t y hy with rfl|⟨h5,h6⟩
     ·trivial
     ·exact AV.ok.pick hlt hpl ho (h.fr t _ h5) h6
    olen:=by simp only[Env.pick,C_];exact hpl
    own:=fun k o p g1 g2=>by
     obtain⟨k0,q1,q2⟩:=ho k o g1;have hk0:k0<E.om.length:=hlt k0 (e_ q1);have hp:E.om[k0]? =some p:=by
      have:=yN (m:=st'.boxes.length) q1 (a_ hk0);rw[this]at g2;rw[a_ hk0];exact g2
     obtain⟨cs,h5,h6,h7,h8⟩:=h.own k0 o p q2 hp;exact⟨cs,h5,h6,h7,fun b hb=>⟨fun hm=>(h8 b hb).1 (Oi hlt hm),(h8 b hb).2⟩⟩
    blen:=by simp only[Env.pick,M_];omega
    box:=fun k xs p g1 g2=>by
     have hk:k<st'.boxes.length:=(b_.1 g1).1;simp only[Env.pick]at g2;rw[d_,if_pos hk]at g2;obtain⟨h5,vs,h6,h7⟩:=h.box k _ p (hb k xs g1) g2;exact⟨h5,vs,h6,h7.pick hlt hpl ho (v_.1 h4 xs (e_ g1))⟩
    nodup:=by
     have:=h.nodup;unfold Env.M at this⊢;rw[l_]at this⊢;refine⟨this.1.sublist (by simp only[Env.pick];exact(x_ _ _).map _),Ag this.2.1 hnd hlt,fun x hx y hy=> ?_⟩;refine this.2.2 x ?_ y ?_
     ·exact((x_ st'.boxes.length E.bm).map _).subset hx
     ·obtain⟨k,hk,p,g1,g2⟩:=H6 hlt hy;exact j_.2 ⟨p,e_ g1,by simp[g2]⟩
    lin:=by
     have hpl':pk.length=st'.owns.length:=hpl;refine h.lin.map (fun j=>pk.getD j 0) (fun i j hij hi hj e=>hij ?_) fun j o p g1 g2 g3=> ?_
     ·have hi':i<pk.length:=by omega
      have hj':j<pk.length:=by omega
      simp only[c_,a_ hi',a_ hj',k_]at e;exact(a_k hnd).1 e
     ·obtain⟨k0,q1,q2⟩:=ho j o g1;have hk0:k0<E.om.length:=hlt k0 (e_ q1);have hp:E.om[k0]? =some p:=by
       have:=yN (m:=st'.boxes.length) q1 (a_ hk0);rw[this]at g2;rw[a_ hk0];exact g2
      refine m_ ⟨o, ?_, ?_,g3⟩
      ·rw[c_,q1];exact q2
      ·rw[c_,q1];exact hp
    unf:=by
     refine h.unf.map (fun j=>pk.getD j 0) fun j o p g1 g2 g3=> ?_
     obtain⟨k0,q1,q2⟩:=ho j o g1;have hk0:k0<E.om.length:=hlt k0 (e_ q1);have hp:E.om[k0]? =some p:=by
      have:=yN (m:=st'.boxes.length) q1 (a_ hk0);rw[this]at g2;rw[a_ hk0];exact g2
     refine m_ ⟨o, ?_, ?_,g3⟩
     ·rw[c_,q1];exact q2
     ·rw[c_,q1];exact hp
    below:=h.below
    base:=h.base}
end
def wQ{X:Type}(F:X→St)(inv:X→Prop)(μ:X→Nat)(x:X)(Q:Exit→St→Prop):Exit→St→Prop
 | .normal,st=>∃x' pk,wW pk st (F x')∧inv x'∧μ x'<μ x
 |e,st=>Q e st
section
variable{P:Program}{Q:Exit→St→Prop}{st:St}{i:Nat}
theorem iM{X:Type}{F:X→St}{inv:X→Prop}{μ:X→Nat}{x:X}(h:Q (.exit i) st):wQ F inv μ x Q (.exit i) st:=h
theorem jA{X:Type}{F:X→St}{inv:X→Prop}{μ:X→Nat}{x:X}(h:Q .ret st):wQ F inv μ x Q .ret st:=h
theorem Oa{X:Type}{F:X→St}{inv:X→Prop}{μ:X→Nat}{x:X}(x':X)(pk:List Nat)(h1:wW pk st (F x'))(h2:inv x')(h3:μ x'<μ x):wQ F inv μ x Q .normal st:=⟨x',pk,h1,h2,h3⟩
theorem WM{X:Type}{c:IC}(F:X→St)(inv:X→Prop)(μ:X→Nat)(x0:X)(pk0:List Nat)(h0:inv x0)(hle:wW pk0 st (F x0))(round:∀x,inv x→AWP P c (wQ F inv μ x Q) (F x)):AWP P (.loop c) Q st:=fun code hc B Xs G w0 hG E a w hR=>by
 have hG1:G.os.length=0:=Nat.le_zero.1 hG.1;have hG2:∀x,G.E.bm.length≤(F x).boxes.length:=fun x=>p_ hG.2 (u_ _)
 cases code with
 | loop cc=>
   simp only[ak]at hc;obtain⟨c',hcc,he⟩:=f_.1 hc;simp only[IC.loop.injEq]at he;subst he;obtain⟨E',hR'⟩:=hR.PN hle hG1 (hG2 _);refine DJ (fun n a w=>∃x E,μ x=n∧inv x∧Rel B Xs G w0 (F x) E a w) (μ x0) ⟨x0,E',rfl,h0,hR'⟩ ?_;rintro n a w ⟨x,E,rfl,hx,hR⟩;refine wp_mono (round x hx cc hcc B Xs G w0 hG E a w hR) ?_;rintro e a' w' ⟨st',E',h1,h2⟩;cases e with
   | normal=>
     obtain⟨x',pk,h3,h4,h5⟩:=h2;obtain⟨E'',h6⟩:=h1.PN h3 hG1 (hG2 _);exact⟨μ x',h5,x',E'',rfl,h4,h6⟩
   |_=>exact⟨st',E',h1,h2⟩
 |region id cops b=>exact(oL hc (by simp) (by simp)).elim
 |block id x=>simp[ak]at hc
 |cond c x y=>simp only[ak]at hc;split at hc<;>simp at hc
 |seq x y=>simp only[ak]at hc;split at hc<;>simp at hc
 |ret=>simp[ak]at hc
 |exit id=>simp[ak]at hc
 |skip=>simp[ak]at hc
 |label l=>simp[ak]at hc
 |rangeFunc=>simp[ak]at hc
 |scope=>simp[ak]at hc
 |goto=>simp[ak]at hc
 |refuse=>simp[ak]at hc
theorem aaX{X:Type}{c:IC}{fr0:List AV}{os0:List Own}{bs0:List (List AC)}(sp:X→List Sp)(ow:X→List Own)(bx:X→List (List AC)→List (List AC))(inv:X→Prop)(μ:X→Nat)(x0:X)(pk0:List Nat)(h0:inv x0)
 (hle:wW pk0 ⟨fr0,os0,bs0⟩ (FB fr0 bs0 sp ow bx x0)) (round:∀x,inv x→AWP P c (wQ (FB fr0 bs0 sp ow bx) inv μ x Q) (FB fr0 bs0 sp ow bx x)):AWP P (.loop c) Q ⟨fr0,os0,bs0⟩:=
 WM (FB fr0 bs0 sp ow bx) inv μ x0 pk0 h0 hle round
end
def aeS(t:Nat)(l:List D)(e s:Nat)(st:St):Prop:=aiM t l e s st∨(st.fr.getD t .any= .c false [.raw (.slice none 0 0)]∧l= [])
theorem wE{P:Program}{f:Nat}{fn:Func}{code:Code}{ic:IC}{ds:List D}{t:Nat}{l:List D}{e s:Nat}(hf:P.funcs[f]? =some fn:=by kernel_rfl)(hb:fn.body=some code:=by kernel_rfl)(hr:fn.results= #[.tmp t]:=by kernel_rfl)(hc:ak P code=some ic)
 (h:AWP P ic (iG (aeS t l e s)) (st0 fn.ntmps ds)):bZ P f ds l e s:=by
 refine qW (post:=fun w e' w'=>uo false l e s w e' w') hf hb hc h ?_;rintro G w w' st E a hR (⟨k,i,o,h1,h2⟩|⟨h1,rfl⟩)
 ·obtain⟨hv,_⟩:=pW hR h1;obtain⟨cs,f',h3,h4,h5⟩:=QD hR hv ⟨o,h2⟩;exact⟨_,results_tmp hr a.tmps P w',_,cs,f',rfl,h3,h4,h5,hR.below.out⟩
 ·obtain⟨hv,_⟩:=pW hR h1;have hv':a.tmps.getD t undef= .slice none 0 0:=hv;exact⟨_,results_tmp hr a.tmps P w',.slice none 0 0,[],[],congrArg Ending.returned hv',bF.nil,⟨rfl,rfl⟩,fun b hb=>by simp at hb,hR.below.out⟩
theorem JB{t k i:Nat}{l:List D}{e s:Nat}{st:St}{o:Own}(h1:st.fr.getD t .any= .c false [.own k i])(h2:st.owns[k]? =some o)(h3:o.ver=i)(h4:o.l=l)(h5:o.e=e)(h6:o.s=s)(h7:o.nw.n=true∨jR l):iG (aeS t l e s) .ret st:=r_ ⟨k,i,o,h1,h2,h3,h4,h5,h6,h7⟩
theorem adR{t:Nat}{e s:Nat}{st:St}(h1:st.fr.getD t .any= .c false [.raw (.slice none 0 0)]):iG (aeS t [] e s) .ret st:=m_ ⟨h1,rfl⟩
def PI(os:List Own)(pk:List Nat):AC→AC→Prop
 |_,.any=>True
 | .raw v,.raw u=>v=u
 | .raw v,.sl m l=>m=true∧v= .slice none 0 0∧l= []
 | .sl n l,.sl m l'=>n=true∧m=true∧l=l'
 | .own k i,.sl m l=>m=true∧k∉pk∧∃o,os[k]? =some o∧o.ver=i∧o.l=l∧(o.nw.n=true∨jR l)
 | .own k i,.own j z=>pk[j]? =some k∧z=0∧∃o,os[k]? =some o∧o.ver=i
 |_,_=>False
def qy(os:List Own)(pk:List Nat):List AC→List AC→Prop
 | [],[]=>True
 |x::xs,y::ys=>PI os pk x y∧qy os pk xs ys
 |_,_=>False
def UL(pk:List Nat)(r:ResultVar)(g:Bool)(ys:List AC)(st:St):Prop:=match r with
 | .tmp t=>∃xs,st.fr.getD t .any= .c g xs∧qy st.owns pk xs ys
 | .cell t _=>∃k xs,st.fr.getD t .any= .bptr k 0∧st.boxes[k]? =some xs∧qy st.owns pk xs ys
theorem Du{os:List Own}{pk:List Nat}:∀{xs ys:List AC},qy os pk xs ys→xs.length=ys.length
 | [],[],_=>rfl
 |x::xs,y::ys,h=>by rw[w_,w_,Du h.2]
 | [],_::_,h=>h.elim
 |_::_,[],h=>h.elim
section
variable{B H:Nat}{X:List Nat}{bm0:List (Nat×TypeId)}{G:Org}{w0:World}{st:St}{E:Env}{a:Act}{w:World}{pk:List Nat}{os':List Own}
structure OutAt (B H:Nat) (X:List Nat) (bm0:List (Nat×TypeId)) (E:Env) (pk:List Nat) (os:List Own) (os':List Own):Prop where
 nw:∀x,E.nw x→H≤x∨x∈X
 own:∀(k:Nat) (p:Value×List Nat) (x:Nat),E.om[k]? =some p→p.1.ownBlock=some x→H≤x
 bm:∀q:Nat×TypeId,q∈bm0→∃k':Nat,E.bm[k']? =some q
 get:∀(j k:Nat),pk[j]? =some k→∃o',os'[j]? =some o'
 lt:∀k∈pk,k<E.om.length
theorem XT(hA:OutAt B H X bm0 E pk st.owns os'){x:Nat}(hx:x∈(⟨H,qJ E pk,bm0,X⟩:Env).M):x∈E.M∧((∃q∈bm0,q.1=x)∨∃k∈pk,∃p,E.om[k]? =some p∧p.1.ownBlock=some x):=by
 unfold Env.M at hx;simp only at hx;rcases q_.1 hx with hx|hx
 ·obtain⟨q,hq,rfl⟩:=h_.1 hx;obtain⟨k',hk'⟩:=hA.bm q hq;exact⟨iV.2 (r_ ⟨k',q,hk',rfl⟩),r_ ⟨q,hq,rfl⟩⟩
 ·obtain⟨q,hq,hqb⟩:=j_.1 hx;unfold qJ at hq;obtain⟨k,hk,rfl⟩:=h_.1 hq;have hlt:=hA.lt k hk;rw[c_,a_ hlt]at hqb;have hb:(E.om[k]).1.ownBlock=some x:=by simpa using hqb
  exact⟨iV.2 (m_ ⟨k,_,a_ hlt,hb⟩),m_ ⟨k,hk,_,a_ hlt,hb⟩⟩
theorem Dw(h:Rel B X G w0 st E a w){k k':Nat}{q:Nat×TypeId}{p:Value×List Nat}{x:Nat}(h1:E.bm[k]? =some q)(h2:E.om[k']? =some p)(h3:p.1.ownBlock=some x):q.1≠x:=by
 intro e;have hn:=h.nodup;unfold Env.M at hn;rw[l_]at hn;exact hn.2.2 q.1 (h_.2 ⟨q,e_ h1,rfl⟩) x (j_.2 ⟨p,e_ h2,by simpa using h3⟩) e
theorem Fv(h:Rel B X G w0 st E a w){i j:Nat}{p q:Value×List Nat}{b:Nat}(hi:E.om[i]? =some p)(hj:E.om[j]? =some q)(hp:p.1.ownBlock=some b)(hq:q.1.ownBlock=some b):i=j:=by
 have hn:=h.nodup;unfold Env.M at hn;rw[l_]at hn;exact TQ _ i j p q b hn.2.1 hi hj hp hq
theorem wI(h:Rel B X G w0 st E a w)(hA:OutAt B H X bm0 E pk st.owns os'){x y:AC}{v:Value}(hf:PI st.owns pk x y)(hx:x.ok E st.owns w v):y.ok ⟨H,qJ E pk,bm0,X⟩ os' w v:=by
 have hmem:∀x,x∉E.M→x∉(⟨H,qJ E pk,bm0,X⟩:Env).M:=fun x hx hm=>hx (XT hA hm).1
 cases y with
 |any=>trivial
 | raw u=>cases x with
   |raw v'=>obtain rfl:=hf;exact hx
   |_=>exact hf.elim
 | sl n l=>cases x with
   | sl n' l'=>
     obtain⟨rfl,rfl,rfl⟩:=hf;obtain⟨fp,h1,h2⟩:=hx;exact⟨fp,h1,fun b hb=>⟨hmem b (h2 b hb).1,fun _=>hA.nw b ((h2 b hb).2 rfl)⟩⟩
   | own k i=>
     obtain⟨rfl,hk,o,h1,h2,rfl,h3⟩:=hf;obtain⟨_,o',p,g1,g2,g3,g4⟩:=hx;rw[h1]at g1;injection g1 with g1
     subst g1;obtain rfl:=g4 h2;obtain⟨cs,h5,h6,h7,h8⟩:=h.own k o p h1 g2;refine⟨_,Sl.nD h5 h6,fun b hb=> ?_⟩;rcases q_.1 hb with hb|hb
     ·have hb':p.1.ownBlock=some b:=by simpa using hb
      refine⟨fun hm=> ?_,fun _=>r_ (hA.own k p b g2 hb')⟩;rcases(XT hA hm).2 with⟨q,hq,e⟩|⟨k',hk',p',g5,g6⟩
      ·obtain⟨k',hk'⟩:=hA.bm q hq;exact Dw h hk' g2 hb' e
      ·exact hk (Fv h g2 g5 hb' g6▸hk')
     ·refine⟨hmem b (h8 b hb).1,fun _=> ?_⟩;rcases h3 with h3|h3
      ·exact hA.nw b ((h8 b hb).2 h3)
      ·rw[h3 _ _ _ h6]at hb;simp at hb
   | raw v'=>
     obtain⟨rfl,rfl,rfl⟩:=hf;obtain rfl:=hx;exact⟨[],Sl.nD (l:= []) (fp:= []) (base:=0) (e:=0) (s:=0) (v:= .slice none 0 0) bF.nil ⟨rfl,rfl⟩,fun b hb=>by simp at hb⟩
   |any=>exact hf.elim
   |osub _ _ _ _=>exact hf.elim
   |cl _ _=>exact hf.elim
 |osub _ _ _ _=>cases x<;>exact hf.elim
 | own j z=>cases x with
   | own k i=>
     obtain⟨hj,rfl,o,h1,h2⟩:=hf;obtain⟨hv,o',p,g1,g2,g3,g4⟩:=hx;rw[h1]at g1;injection g1 with g1
     subst g1;obtain⟨o2,q1⟩:=hA.get j k hj;refine⟨hv,o2,p,q1, ?_,u_ _,fun _=>g4 h2⟩;rw[BO hj,c_,g2];rfl
   |_=>exact hf.elim
 |cl f caps=>cases x<;>exact hf.elim
theorem uh(h:Rel B X G w0 st E a w)(hA:OutAt B H X bm0 E pk st.owns os'):∀{xs ys:List AC} {vs:List Value},qy st.owns pk xs ys→Oks E st.owns w xs vs→Oks ⟨H,qJ E pk,bm0,X⟩ os' w ys vs
 | [],[],[],_,_=>trivial
 |x::xs,y::ys,v::vs,hf,hx=>⟨wI h hA hf.1 hx.1,uh h hA hf.2 hx.2⟩
 | [],[],_::_,_,hx=>hx.elim
 |_::_,_::_,[],_,hx=>hx.elim
 | [],_::_,_,hf,_=>hf.elim
 |_::_,[],_,hf,_=>hf.elim
theorem yu{P:Program}(h:Rel B X G w0 st E a w)(hA:OutAt B H X bm0 E pk st.owns os'){r:ResultVar}{g:Bool}{ys:List AC}(hp:eH P r g ys.length=true)(hf:UL pk r g ys st):
 ∃v,(jX r a.tmps).run P w= .ok v w∧Gok ⟨H,qJ E pk,bm0,X⟩ os' w g ys v:=by
 cases r with
 | tmp t=>
   obtain⟨xs,h1,h2⟩:=hf;refine⟨_,rfl, ?_⟩;have hx:=pW h h1;cases g with
   |true=>obtain⟨vs,h3,h4⟩:=hx;exact⟨vs,h3,uh h hA h2 h4⟩
   |false=>exact uh h hA h2 (show Oks E st.owns w xs [_] from hx)
 | cell t ty=>
   obtain⟨k,xs,h1,h2,h3⟩:=hf;obtain⟨p,h4,h5⟩:=pW h h1;obtain⟨_,vs,h6,h7⟩:=h.box k xs p h2 h4;simp only[eH,g_,BA]at hp;obtain⟨rfl,hp⟩:=hp;split at hp
   ·next i d hi hd=>
    simp only[g_,beq_iff_eq]at hp;have hlen:vs.length=i.size:=by rw[← h7.len,Du h3,hp.1]
    refine⟨.agg vs.toArray, ?_,vs,rfl,uh h hA h3 h7⟩;simp only[jX];rw[h5];have:=run_loadVar_row (P:=P) w p.1 p.2 ty vs.toArray (0,0) d h6 hd (by have:=hp.2;cases d<;>simp_all [pI]) (by rw[hi];simp[hlen]);simp[asAddr,this]
   ·cases hp
def UJ(os:List Own):List Nat→List Own→Prop
 | [],[]=>True
 |k::pk,o'::os'=>(∃o,os[k]? =some o∧o'=⟨o.l,o.e,o.s,0,⟨true,true⟩⟩∧jR o.l)∧UJ os pk os'
 |_,_=>False
theorem BP{os:List Own}:∀{pk:List Nat} {os':List Own},UJ os pk os'→wO os pk os'
 | [],[],_=>trivial
 | k::pk,o'::os',h=>by
   obtain⟨⟨o,h1,rfl,h3⟩,h4⟩:=h;exact⟨⟨o,h1,rfl,m_ h3⟩,BP h4⟩
 | [],_::_,h=>h.elim
 |_::_,[],h=>h.elim
theorem LD{os:List Own}:∀{pk:List Nat} {os':List Own},UJ os pk os'→∀(j k:Nat) (o':Own),pk[j]? =some k→os'[j]? =some o'→∃o,os[k]? =some o∧o'=⟨o.l,o.e,o.s,0,⟨true,true⟩⟩∧jR o.l
 | [],[],_,j,k,o',h1,_=>by simp at h1
 | k::pk,o'::os',h,0,k',o2,h1,h2=>by
   simp at h1 h2;subst h1 h2;exact h.1
 |k::pk,o'::os',h,j+1,k',o2,h1,h2=>LD h.2 j k' o2 (by simpa using h1) (by simpa using h2)
 | [],_::_,h,_,_,_,_,_=>h.elim
 |_::_,[],h,_,_,_,_,_=>h.elim
theorem ZY{w:World}{base base' e s:Nat}{v:Value}{n:Nat}{cs:List Value}(h:bF w base e s v n cs)(hb:∀x,v.ownBlock=some x→base'≤x):bF w base' e s v n cs:=by
 refine⟨h.1, ?_⟩;rcases h.2 with h2|⟨g,z,cap,cur,rfl,hb',r⟩
 ·exact r_ h2
 ·exact m_ ⟨g,z,cap,cur,rfl,hb g rfl,r⟩
theorem Qy{L:List (Value×List Nat)}(hn:(L.flatMap fun q=>q.1.ownBlock.toList).Nodup):∀{pk:List Nat},pk.Nodup→(∀k∈pk,k<L.length)→((pk.map fun k=>L.getD k (undef,[])).flatMap fun q=>q.1.ownBlock.toList).Nodup:=fun hnd hlt=>Ag hn hnd hlt
theorem EO(h:Rel B X G w0 st E a w)(hO:∀(k:Nat) (p:Value×List Nat) (x:Nat),E.om[k]? =some p→p.1.ownBlock=some x→H≤x)(ho:UJ st.owns pk os')(hnd:pk.Nodup):wL H w (qJ E pk) os':=by
 obtain⟨l1,l2⟩:=rH (BP ho);have hlt:∀k∈pk,k<E.om.length:=fun k hk=>by
  obtain⟨j,hj⟩:=z_.1 hk;have hj':j<os'.length:=by rw[← l1];exact(b_.1 hj).1
  obtain⟨o2,q1,_⟩:=l2 j k _ hj (a_ hj');rw[h.olen];exact(b_.1 q1).1
 have hn:=h.nodup;unfold Env.M at hn;rw[l_]at hn;have hget:∀(j:Nat) (o':Own) (p:Value×List Nat),os'[j]? =some o'→(qJ E pk)[j]? =some p→∃k o,pk[j]? =some k∧st.owns[k]? =some o∧E.om[k]? =some p∧o'=⟨o.l,o.e,o.s,0,⟨true,true⟩⟩∧jR o.l:=by
  intro j o' p h1 h2;have hj:j<pk.length:=by rw[l1];exact(b_.1 h1).1
  obtain⟨o,q1,q2,q3⟩:=LD ho j pk[j] o' (a_ hj) h1;refine⟨pk[j],o,a_ hj,q1, ?_,q2,q3⟩;rw[BO (a_ hj),c_,a_ (hlt _ (a_m hj))]at h2;simp only[k_]at h2;rw[a_ (hlt _ (a_m hj))];exact h2
 have hnil:∀(j:Nat) (o':Own) (p:Value×List Nat),os'[j]? =some o'→(qJ E pk)[j]? =some p→p.2= []:=by
  intro j o' p h1 h2;obtain⟨k,o,_,g2,g3,rfl,g5⟩:=hget j o' p h1 h2;obtain⟨cs,_,h6,_⟩:=h.own k o p g2 g3;exact g5 _ _ _ h6
 refine⟨by unfold qJ;rw[C_];exact l1,fun j o' p h1 h2=> ?_,Qy hn.2.1 hnd hlt,⟨fun j o' p h1 h2 _=>by rw[hnil j o' p h1 h2];exact I_,fun i j o1 o2 p1 p2 _ h1 _ h2 _ _ _ b hb=>by rw[hnil i o1 p1 h1 h2]at hb;simp at hb⟩,fun j o' p h1 h2 _ b hb=>by rw[hnil j o' p h1 h2]at hb;simp at hb⟩;have hn2:=hnil j o' p h1 h2;obtain⟨k,o,_,g2,g3,rfl,g5⟩:=hget j o' p h1 h2;obtain⟨cs,h5,h6,h7,h8⟩:=h.own k o p g2 g3;exact⟨cs,ZY h5 (fun x hx=>hO k p x g3 hx),h6,h7,fun b hb=>by rw[hn2]at hb;simp at hb⟩
end
section
variable{P:Program}{f:Nat}{fn:Func}{code:Code}{ic:IC}{ds:List D}
def sH(P:Program)(r:ResultVar)(post:AV→List Own→List AC→Prop)(st:St):Prop:=
 ∃(g:Bool) (ys:List AC) (os':List Own) (c':List AC) (pk:List Nat),post (.c g ys) os' c'∧ys.all AC.uD=true∧st.boxes[0]? =some c'∧c'.all AC.cur=true∧pk.Nodup∧UJ st.owns pk os'∧eH P r g ys.length=true∧UL pk r g ys st
theorem fG{c:List AC}{r:ResultVar}{post:AV→List Own→List AC→Prop}(hf:P.funcs[f]? =some fn:=by kernel_rfl)(hb:fn.body=some code:=by kernel_rfl)(hr:fn.results= #[r]:=by kernel_rfl)(hc:ak P code=some ic)
 (h:dH (0,1) P ic (iG (sH P r post)) (stS fn.ntmps (.bptr 0 0::ds.map D.av) [] [c])):aZ P f ds c post:=by
 intro w b ty us vs X hT hX hrow hok hav;have hbH:b<w.heap.size:=hrow.lt;have hR0:Rel b X ⟨⟨w.heap.size,[],[(b,ty)],X⟩,[],w⟩ w ⟨[],[],[c]⟩ ⟨w.heap.size,[],[(b,ty)],X⟩ {tmps:= #[],defers:= []} w:=
  { eb :=Nat.le_of_lt hbH,ex:=rfl,sim:=Sim.refl _ _ _,defers:=rfl,size:=rfl,fr:=fun t y hy=>by simp at hy,olen:=rfl,own:=fun k o p g1 g2=>by simp at g1,blen:=rfl,
    box:=fun k xs p g1 g2=>by
     cases k with
     | zero=>
       simp at g1 g2;subst g1 g2;exact⟨Nat.le_refl _,us,hrow,hok⟩
     |succ k=>simp at g1
    nodup:=by simp[Env.M],lin:=⟨fun k o p g1=>by simp at g1,fun j k o o' p p' _ g1=>by simp at g1⟩,unf:=fun k o p g1=>by simp at g1,below:=hT,base:=Nat.le_refl _}
 refine calls_of_wp hf hb ?_;have:=h code hc b X ⟨⟨w.heap.size,[],[(b,ty)],X⟩,[],w⟩ w ⟨Nat.le_refl _,Nat.le_refl _⟩ ⟨w.heap.size,[],[(b,ty)],X⟩ _ w (rG hR0 (avs:= .bptr 0 0::ds.map D.av) (vs:= .pointer (some ⟨b,0,none⟩)::vs) ⟨⟨(b,ty),rfl,rfl⟩,hav⟩ fn.ntmps);refine wp_mono this ?_;rintro e a' w' ⟨st',E',g1,g2⟩;have fin:sH P r post st'→∃v,(results fn a'.tmps).run P w'= .ok v w'∧UM X b ty post w (.returned v) w':=by
  rintro⟨g,ys,os',c',pk,hpost,hys,hbx,hc',hnd,ho,hp,hfin⟩;have hS:=g1.sim;have hbm:E'.bm[0]? =some (b,ty):=hS.box 0 _ rfl;have hM0:∀x,x∈(⟨w.heap.size,[],[(b,ty)],X⟩:Env).M→x=b:=fun x hx=>by simpa[Env.M]using hx
  have hO:∀(k:Nat) (p:Value×List Nat) (x:Nat),E'.om[k]? =some p→p.1.ownBlock=some x→w.heap.size≤x:=by
   intro k p x h1 h2;refine Nat.le_of_not_lt fun hlt=> ?_
   have:=hM0 x (hS.old x hlt (iV.2 (Or.inr ⟨k,p,h1,h2⟩)));exact Dw g1 hbm h1 h2 this.symm
  obtain⟨l1,l2⟩:=rH (BP ho);have hA:OutAt b w.heap.size X [(b,ty)] E' pk st'.owns os':=
   { nw:=fun x hx=>by rw[hS.base]at hx;exact hx
     own:=hO
     bm:=fun q hq=>⟨0,by simp at hq;subst hq;exact hbm⟩
     get:=fun j k hj=>by
      have:j<os'.length:=by rw[← l1];exact(List.getElem?_eq_some_iff.1 hj).1
      exact⟨_,List.getElem?_eq_getElem this⟩
     lt:=fun k hk=>by
      obtain⟨j,hj⟩:=List.mem_iff_getElem?.1 hk;have hj':j<os'.length:=by rw[← l1];exact(List.getElem?_eq_some_iff.1 hj).1
      obtain⟨o2,q1,_⟩:=l2 j k _ hj (List.getElem?_eq_getElem hj');rw[g1.olen];exact(List.getElem?_eq_some_iff.1 q1).1}
  obtain⟨v,h3,h4⟩:=yu g1 hA hp hfin;obtain⟨_,us',h5,h6⟩:=g1.box 0 c' (b,ty) hbx hbm;have hcc:∀{xs:List AC} {vs:List Value},xs.all AC.cur=true→Oks E' st'.owns w' xs vs→Oks ⟨w.heap.size,qJ E' pk,[(b,ty)],X⟩ os' w' xs vs:=by
   intro xs
   induction xs with
   |nil=>intro vs _ hv;cases vs<;>first|trivial|exact hv.elim
   | cons x xs ih=>
     intro vs hx hv;cases vs with
     |nil=>exact hv.elim
     | cons v vs=>
       simp only[List.all_cons,Bool.and_eq_true]at hx;refine⟨?_,ih hx.2 hv.2⟩;cases x with
       |any=>trivial
       |raw u=>exact hv.1
       |sl n l=>exact wI g1 hA (x:= .sl n l) ⟨hx.1,hx.1,rfl⟩ hv.1
       |own _ _=>simp[AC.cur]at hx
       |osub _ _ _ _=>simp[AC.cur]at hx
       |cl _ _=>simp[AC.cur]at hx
  exact⟨v,qg hr _ h3,v,qJ E' pk,.c g ys,os',c',us',hpost,hys,hc',rfl,EO g1 hO ho hnd,h4,h5,hcc hc' h6,g1.below.out,fun x hx hne=>hS.blk x hx (fun hm=>hne (hM0 x hm))⟩
 cases e with
 | normal=>
   obtain⟨v,h3,h4⟩:=fin g2;exact⟨g1.defers,v,h3,h4⟩
 | ret=>
   obtain⟨v,h3,h4⟩:=fin g2;exact⟨g1.defers,v,h3,h4⟩
 |_=>exact g2.elim
def aeT(post:AV→List Own→List AC→Prop)(st:St):Prop:=∃c',post (.tup []) [] c'∧st.boxes[0]? =some c'∧c'.all AC.cur=true
theorem aez{c:List AC}{post:AV→List Own→List AC→Prop}(hf:P.funcs[f]? =some fn:=by kernel_rfl)(hb:fn.body=some code:=by kernel_rfl)(hr:fn.results= #[]:=by kernel_rfl)(hc:ak P code=some ic)
 (h:dH (0,1) P ic (iG (aeT post)) (stS fn.ntmps (.bptr 0 0::ds.map D.av) [] [c])):aZ P f ds c post:=by
 intro w b ty us vs X hT hX hrow hok hav;have hbH:b<w.heap.size:=hrow.lt;have hR0:Rel b X ⟨⟨w.heap.size,[],[(b,ty)],X⟩,[],w⟩ w ⟨[],[],[c]⟩ ⟨w.heap.size,[],[(b,ty)],X⟩ {tmps:= #[],defers:= []} w:=
  { eb :=Nat.le_of_lt hbH,ex:=rfl,sim:=Sim.refl _ _ _,defers:=rfl,size:=rfl,fr:=fun t y hy=>by simp at hy,olen:=rfl,own:=fun k o p g1 g2=>by simp at g1,blen:=rfl,
    box:=fun k xs p g1 g2=>by
     cases k with
     | zero=>
       simp at g1 g2;subst g1 g2;exact⟨Nat.le_refl _,us,hrow,hok⟩
     |succ k=>simp at g1
    nodup:=by simp[Env.M],lin:=⟨fun k o p g1=>by simp at g1,fun j k o o' p p' _ g1=>by simp at g1⟩,unf:=fun k o p g1=>by simp at g1,below:=hT,base:=Nat.le_refl _}
 refine calls_of_wp hf hb ?_;have:=h code hc b X ⟨⟨w.heap.size,[],[(b,ty)],X⟩,[],w⟩ w ⟨Nat.le_refl _,Nat.le_refl _⟩ ⟨w.heap.size,[],[(b,ty)],X⟩ _ w (rG hR0 (avs:= .bptr 0 0::ds.map D.av) (vs:= .pointer (some ⟨b,0,none⟩)::vs) ⟨⟨(b,ty),rfl,rfl⟩,hav⟩ fn.ntmps);refine wp_mono this ?_;rintro e a' w' ⟨st',E',g1,g2⟩;have fin:aeT post st'→∃v,(results fn a'.tmps).run P w'= .ok v w'∧UM X b ty post w (.returned v) w':=by
  rintro⟨c',hpost,hbx,hc'⟩;have hS:=g1.sim;have hbm:E'.bm[0]? =some (b,ty):=hS.box 0 _ rfl;have hM0:∀x,x∈(⟨w.heap.size,[],[(b,ty)],X⟩:Env).M→x=b:=fun x hx=>by simpa[Env.M]using hx
  have hA:OutAt b w.heap.size X [(b,ty)] E' [] st'.owns []:=
   { nw:=fun x hx=>by rw[hS.base]at hx;exact hx
     own:=fun k p x h1 h2=>Nat.le_of_not_lt fun hlt=>Dw g1 hbm h1 h2 (hM0 x (hS.old x hlt (iV.2 (Or.inr ⟨k,p,h1,h2⟩)))).symm
     bm:=fun q hq=>⟨0,by simp at hq;subst hq;exact hbm⟩
     get:=fun j k hj=>by simp at hj
     lt:=fun k hk=>by simp at hk}
  obtain⟨_,us',h5,h6⟩:=g1.box 0 c' (b,ty) hbx hbm;have hcc:∀{xs:List AC} {vs:List Value},xs.all AC.cur=true→Oks E' st'.owns w' xs vs→Oks ⟨w.heap.size,[],[(b,ty)],X⟩ [] w' xs vs:=by
   intro xs
   induction xs with
   |nil=>intro vs _ hv;cases vs<;>first|trivial|exact hv.elim
   | cons x xs ih=>
     intro vs hx hv;cases vs with
     |nil=>exact hv.elim
     | cons v vs=>
       simp only[List.all_cons,Bool.and_eq_true]at hx;refine⟨?_,ih hx.2 hv.2⟩;cases x with
       |any=>trivial
       |raw u=>exact hv.1
       |sl n l=>exact wI g1 hA (x:= .sl n l) ⟨hx.1,hx.1,rfl⟩ hv.1
       |own _ _=>simp[AC.cur]at hx
       |osub _ _ _ _=>simp[AC.cur]at hx
       |cl _ _=>simp[AC.cur]at hx
  exact⟨_,results_none hr _ P w',_,[],.tup [],[],c',us',hpost,rfl,hc',rfl,⟨rfl,fun k o p hk=>by simp at hk,by simp,Lin.nil,Unf.nil⟩,⟨[],rfl,trivial⟩,h5,hcc hc' h6,g1.below.out,fun x hx hne=>hS.blk x hx (fun hm=>hne (hM0 x hm))⟩
 cases e with
 | normal=>
   obtain⟨v,h3,h4⟩:=fin g2;exact⟨g1.defers,v,h3,h4⟩
 | ret=>
   obtain⟨v,h3,h4⟩:=fin g2;exact⟨g1.defers,v,h3,h4⟩
 |_=>exact g2.elim
theorem LG{B:Nat}{G:Org}{w0 w:World}{st:St}{E:Env}{a:Act}{pk:List Nat}{os':List Own}(hR:Rel B [] G w0 st E a w)(hB:∀(k:Nat) (p:Value×List Nat) (x:Nat),E.om[k]? =some p→p.1.ownBlock=some x→B≤x)(ho:wO st.owns pk os'):OutAt B B [] [] E pk st.owns os':=by
 obtain⟨l1,l2⟩:=rH ho;exact
  { nw:=fun x hx=>Ig hR hx
    own:=hB
    bm:=fun q hq=>by simp at hq
    get:=fun j k hj=>by
     have:j<os'.length:=by rw[← l1];exact(b_.1 hj).1
     exact⟨_,a_ this⟩
    lt:=fun k hk=>by
     obtain⟨j,hj⟩:=z_.1 hk;have hj':j<os'.length:=by rw[← l1];exact(b_.1 hj).1
     obtain⟨o2,q1,_⟩:=l2 j k _ hj (a_ hj');rw[hR.olen];exact(b_.1 q1).1}
def FM(P:Program)(r:ResultVar)(post:AV→List Own→Prop)(st:St):Prop:=
 ∃(g:Bool) (ys:List AC) (os':List Own) (pk:List Nat),post (.c g ys) os'∧ys.all AC.out=true∧pk.Nodup∧wO st.owns pk os'∧eH P r g ys.length=true∧UL pk r g ys st
theorem dS{r:ResultVar}{post:AV→List Own→Prop}(hf:P.funcs[f]? =some fn:=by kernel_rfl)(hb:fn.body=some code:=by kernel_rfl)(hr:fn.results= #[r]:=by kernel_rfl)(hc:ak P code=some ic)
 (h:AWP P ic (iG (FM P r post)) (st0 fn.ntmps ds)):bC P f ds post:=by
 refine qW (post:=fun w e w'=>∃r os',post r os'∧r.out=true∧GV r os' w e w') hf hb hc h ?_;rintro G w w' st E a hR ⟨g,ys,os',pk,hpost,hys,hnd,ho,hp,hfin⟩;obtain⟨v,h3,h4⟩:=yu hR (LG hR (fun k p x h1 h2=>(yF hR h1 h2).1) ho) hp hfin;exact⟨v,qg hr _ h3,.c g ys,os',hpost,hys,v,qJ E pk,rfl,Ls hR ho hnd,h4,hR.below.out⟩
def Dy(P:Program)(r q:ResultVar)(post:AV→List Own→Prop)(st:St):Prop:=
 ∃(g g':Bool) (ys zs:List AC) (os':List Own) (pk:List Nat),post (.tup [(g,ys),(g',zs)]) os'∧ys.all AC.out=true∧zs.all AC.out=true∧pk.Nodup∧wO st.owns pk os'∧eH P r g ys.length=true∧eH P q g' zs.length=true∧UL pk r g ys st∧UL pk q g' zs st
theorem pK{r q:ResultVar}{post:AV→List Own→Prop}(hf:P.funcs[f]? =some fn:=by kernel_rfl)(hb:fn.body=some code:=by kernel_rfl)(hr:fn.results= #[r,q]:=by kernel_rfl)(hc:ak P code=some ic)
 (h:AWP P ic (iG (Dy P r q post)) (st0 fn.ntmps ds)):bC P f ds post:=by
 refine qW (post:=fun w e w'=>∃r os',post r os'∧r.out=true∧GV r os' w e w') hf hb hc h ?_;rintro G w w' st E a hR ⟨g,g',ys,zs,os',pk,hpost,hys,hzs,hnd,ho,hp,hq,hfin,hfin2⟩;have hA:=LG hR (fun k p x h1 h2=>(yF hR h1 h2).1) ho;obtain⟨v,h3,h4⟩:=yu hR hA hp hfin;obtain⟨u,h5,h6⟩:=yu hR hA hq hfin2;exact⟨_,EL hr _ h3 h5,_,os',hpost,by simp[AV.out,hys,hzs],_,qJ E pk,rfl,Ls hR ho hnd,⟨[v,u],rfl,h4,h6,trivial⟩,hR.below.out⟩
end
section
variable{P:Program}{B:Nat}{Xs:List Nat}{G:Org}{w0:World}{fr:List AV}{os:List Own}{bs:List (List AC)}{E:Env}{a:Act}{w w':World}
theorem Py{t:Bool}:∀{xs:List AC} {ds:List D} {vs:List Value},jM [] xs=some ds→(t=true→xs.all AC.nw=true)→Oks E os w xs vs→∃fp,Rs w ds fp vs∧∀b∈fp,b<w.heap.size∧b∉E.M∧(t=true→E.nw b)
 | [],ds,[],hd,_,_=>by
   injection hd with hd
   subst hd;exact⟨[],⟨rfl,rfl⟩,fun b hb=>by simp at hb⟩
 | x::xs,ds,v::vs,hd,hn,hx=>by
   rw[jM]at hd;split at hd
   ·next d ds' h1 h2=>
    injection hd with hd
    subst hd;have h1':x.toD=some d:=by cases x<;>simp_all [mZ]
    obtain⟨_,_,f1,r1,m1⟩:=toD_ok h1' hx.1;obtain⟨f2,r2,m2⟩:=Py h2 (fun e=>by have:=hn e;simp only[n_,g_]at this;exact this.2) hx.2;refine⟨f1++f2,⟨f1,f2,[v],vs,rfl,rfl,r1,r2⟩,fun b hb=> ?_⟩;rcases q_.1 hb with hb|hb
    ·exact⟨R.lt r1 b hb,(m1 b hb).1,fun e=>(m1 b hb).2 (by have:=hn e;simp only[n_,g_]at this;exact this.1)⟩
    ·exact m2 b hb
   ·cases hd
 | [],_,_::_,_,_,h=>h.elim
 |_::_,_,[],_,_,h=>h.elim
theorem aiH{t:Bool}{x:AV}{dd:D}{v:Value}(hd:oW [] x dd)(hn:t=true→x.nw=true)(hx:x.ok E os w v):∃F,RdF w F dd v∧∀b∈F,b<w.heap.size∧b∉E.M∧(t=true→E.nw b):=by
 cases x with
 | c g xs=>
   obtain⟨h1,rfl⟩:=hd;unfold RdF;cases hg:dd.isAgg with
   | true=>
     rw[hg]at hx;obtain⟨vs,h2,h3⟩:=hx;obtain⟨fp,h4,h5⟩:=Py h1 hn h3;exact⟨fp,by rw[if_pos rfl];exact⟨fp,vs,h2,ni.2 h4,fun b hb=>hb⟩,h5⟩
   | false=>
     rw[hg]at hx;obtain⟨fp,h4,h5⟩:=Py h1 hn (show Oks E os w xs [v] from hx);exact⟨fp,by rw[if_neg (by simp)];exact⟨fp,ni.2 h4,fun b hb=>hb⟩,h5⟩
 |any=>exact hd.elim
 |ptr _=>exact hd.elim
 |bptr _ _=>exact hd.elim
 |eptr _ _ _ _=>exact hd.elim
 |tup _=>exact hd.elim
theorem WR{t:Bool}:∀{xs:List AV} {ds:List D} {vs:List Value},bD [] xs ds→(t=true→xs.all AV.nw=true)→oZ E os w xs vs→∃F,Ez w F ds vs∧∀b∈F,b<w.heap.size∧b∉E.M∧(t=true→E.nw b)
 | [],[],[],_,_,_=>⟨[],trivial,fun b hb=>by simp at hb⟩
 | x::xs,d::ds,v::vs,hd,hn,hv=>by
   obtain⟨F1,h1,h2⟩:=aiH hd.1 (fun e=>by have:=hn e;simp only[n_,g_]at this;exact this.1) hv.1;obtain⟨F2,h3,h4⟩:=WR hd.2 (fun e=>by have:=hn e;simp only[n_,g_]at this;exact this.2) hv.2;refine⟨F1++F2,⟨h1.mono (fun b hb=>A_ _ hb),h3.mono (fun b hb=>y_ _ hb)⟩,fun b hb=> ?_⟩;rcases q_.1 hb with hb|hb
   ·exact h2 b hb
   ·exact h4 b hb
 | [],_::_,_,hd,_,_=>hd.elim
 |_::_,[],_,hd,_,_=>hd.elim
 | [],[],_::_,_,_,hv=>hv.elim
 |_::_,_::_,[],_,_,hv=>hv.elim
def AC.nX :AC→Bool
 | .raw _=>true
 | .any=>true
 | .sl n _=>n
 |_=>false
def AV.nX :AV→Bool
 | .any=>true
 | .c _ xs=>xs.all AC.nX
 | .tup ys=>ys.all fun y=>y.2.all AC.nX
 |_=>false
theorem ahy{F:List Nat}{t:Bool}{st:St}(h:Rel B Xs G w0 st E a w)(hF:∀b∈F,b∉E.M∧(t=true→E.nw b)){x:AC}{v:Value}(ho:x.nX=true)(hx:x.ok (lW w.heap.size F) [] w' v):(x.fl t).ok E st.owns w' v:=by
 cases x with
 |any=>trivial
 |raw u=>exact hx
 | sl n l=>
   obtain rfl:n=true:=ho;obtain⟨fp,h1,h2⟩:=hx;refine⟨fp,h1,fun b hb=>⟨fun hm=> ?_,fun e=> ?_⟩⟩
   ·rcases BU.1 (h2 b hb).1 with h3|h3
    ·have:=(Bl h hm).2;omega
    ·exact(hF b h3).1 hm
   ·rcases BU.1 (h2 b hb).1 with h3|h3
    ·exact h.xM (p_ h.base h3)
    ·exact(hF b h3).2 e
 |own k i=>simp[AC.nX]at ho
 |osub k i a b=>simp[AC.nX]at ho
 |cl f caps=>simp[AC.nX]at ho
theorem Oo{F:List Nat}{t:Bool}{st:St}(h:Rel B Xs G w0 st E a w)(hF:∀b∈F,b∉E.M∧(t=true→E.nw b)):∀{xs:List AC} {vs:List Value},xs.all AC.nX=true→Oks (lW w.heap.size F) [] w' xs vs→Oks E st.owns w' (xs.map (AC.fl t)) vs
 | [],[],_,_=>trivial
 | x::xs,v::vs,ho,hx=>by
   simp only[n_,g_]at ho;exact⟨ahy h hF ho.1 hx.1,Oo h hF ho.2 hx.2⟩
 | [],_::_,_,hx=>hx.elim
 |_::_,[],_,hx=>hx.elim
theorem afu{F:List Nat}{t:Bool}{st:St}(h:Rel B Xs G w0 st E a w)(hF:∀b∈F,b∉E.M∧(t=true→E.nw b)){r:AV}{v:Value}(ho:r.nX=true)(hx:r.ok (lW w.heap.size F) [] w' v):(r.fl t).ok E st.owns w' v:=by
 have key:∀{g:Bool} {xs:List AC} {v:Value},xs.all AC.nX=true→Gok (lW w.heap.size F) [] w' g xs v→Gok E st.owns w' g (xs.map (AC.fl t)) v:=by
  intro g xs v hx hv;cases g with
  |true=>obtain⟨vs,h1,h2⟩:=hv;exact⟨vs,h1,Oo h hF hx h2⟩
  |false=>exact Oo h hF hx (show Oks _ _ _ xs [v] from hv)
 cases r with
 |any=>trivial
 |c g xs=>exact key ho hx
 | tup ys=>
   obtain⟨vs,h1,h2⟩:=hx;refine⟨vs,h1, ?_⟩;clear h1;have ho':(ys.all fun y=>y.2.all AC.nX)=true:=ho;clear ho
   induction ys generalizing vs with
   | nil=>cases vs with
     |nil=>trivial
     |cons v vs=>exact h2.elim
   | cons y ys ih=>cases vs with
     |nil=>exact h2.elim
     | cons v vs=>
       simp only[n_,g_]at ho';exact⟨key ho'.1 h2.1,ih vs h2.2 ho'.2⟩
 |ptr _=>cases ho
 |bptr _ _=>cases ho
 |eptr _ _ _ _=>cases ho
theorem jO.toE(t:Bool){f:Nat}{ds:List D}{ys:List AV}{r:AV}(h:jO P f ds r)(hr:r.nX=true)(ha:bD [] ys ds)(hn:t=true→ys.all AV.nw=true):jv P f ys os bs (fun r2 os2 bs2=>r2=r.fl t∧os2=os∧bs2=bs):=by
 intro B Xs G w0 fr E a w vs hR hv;obtain⟨F,h1,h2⟩:=WR ha hn hv;refine(h w F vs (fun b hb=>(h2 b hb).1) h1 hR.below.now).mono ?_;rintro e w' ⟨v,rfl,hx,hb⟩;have hA:=hR.here;have hB:=hA.pO hb (d:=none) (x:= .any) (v:=undef) trivial;exact⟨v,E,_,_,_,⟨rfl,rfl,rfl⟩,rfl,hB,afu hR (fun b hb=>⟨(h2 b hb).2.1,(h2 b hb).2.2⟩) hr hx⟩
def DF(P:Program)(f:Nat)(ds:List D)(c:List AC)(post:AV→List Own→List AC→Prop):Prop:=
 ∀(w:World) (b:Nat) (ty:TypeId) (us vs:List Value) (X:List Nat),BelowT b w w→(∀x∈X,x≠b∧x<w.heap.size)→Row w b ty us→Oks ⟨w.heap.size,[],[(b,ty)],X⟩ [] w c us→
  oZ ⟨w.heap.size,[],[(b,ty)],X⟩ [] w (ds.map (D.avN true)) vs→Calls P f (.pointer (some ⟨b,0,none⟩)::vs).toArray w (UM X b ty post w)
theorem ah0{H:Nat}{p:Nat×TypeId}{X F:List Nat}{d:D}{v:Value}(hF:∀b∈F,b∈X∧b≠p.1)(h:RdF w F d v):(D.avN true d).ok ⟨H,[],[p],X⟩ [] w v:=by
 have hM:∀b,b∈(⟨H,[],[p],X⟩:Env).M→b=p.1:=fun b hb=>by simpa[Env.M]using hb
 unfold D.avN AV.ok Gok;unfold RdF at h;cases hg:d.isAgg with
 | true=>
   rw[hg,if_pos rfl]at h;obtain⟨fp,cs,h1,h2,h3⟩:=h;exact⟨cs,h1,tC h2 (fun b hb=>⟨fun hm=>(hF b (h3 b hb)).2 (hM b hm),fun _=>m_ (hF b (h3 b hb)).1⟩)⟩
 | false=>
   rw[hg,if_neg (by simp)]at h;obtain⟨fp,h2,h3⟩:=h;exact tC h2 (fun b hb=>⟨fun hm=>(hF b (h3 b hb)).2 (hM b hm),fun _=>m_ (hF b (h3 b hb)).1⟩)
theorem Zj{H:Nat}{p:Nat×TypeId}{X F:List Nat}(hF:∀b∈F,b∈X∧b≠p.1):∀{ds:List D} {vs:List Value},Ez w F ds vs→oZ ⟨H,[],[p],X⟩ [] w (ds.map (D.avN true)) vs
 | [],[],_=>trivial
 |d::ds,v::vs,h=>⟨ah0 hF h.1,Zj hF h.2⟩
 | [],_::_,h=>h.elim
 |_::_,[],h=>h.elim
theorem DF.toE(t:Bool){f:Nat}{ds:List D}{ys:List AV}{c c0:List AC}{kc:Nat}{post:AV→List Own→List AC→Prop}(h:DF P f ds c post)(hk:bs[kc]? =some c0)(hc0:c0.all (AC.cin t)=true)(hc:c0.map (AC.fl true)=c)(ha:bD [] ys ds)(hn:t=true→ys.all AV.nw=true):
 jv P f (.bptr kc 0::ys) os bs (fun r2 os2 bs2=>∃r os' c',post r os' c'∧r2=(r.fl t).shift os.length∧os2=os++os'∧bs2=bs.set kc (c'.map (AC.fl t))):=by
 subst hc;intro B Xs G w0 fr E a w vs hR hv;cases vs with
 |nil=>exact hv.elim
 |cons pv vs=>
 obtain⟨⟨p,hp,rfl⟩,hv⟩:=hv;obtain⟨b,ty⟩:=p;have hpM:b∈E.M:=iV.2 (r_ ⟨kc,_,hp,rfl⟩);obtain⟨hBb,us,hrow,hok⟩:=hR.box kc c0 (b,ty) hk hp;simp only at hBb hrow;have hbH:b<w.heap.size:=hrow.lt;obtain⟨X1,hX1,hcu⟩:=WB (H:=w.heap.size) (p:=(b,ty)) t hpM hc0 hok;obtain⟨F,hF1,hF2⟩:=WR ha hn hv;obtain⟨X,hXe⟩:∃X,X=X1++F:=⟨_,rfl⟩
 have hX:∀x∈X,x∉E.M∧x<w.heap.size∧(t=true→E.nw x):=fun x hx=>by
  rw[hXe]at hx;rcases q_.1 hx with hx|hx
  ·exact hX1 x hx
  ·exact⟨(hF2 x hx).2.1,(hF2 x hx).1,(hF2 x hx).2.2⟩
 have hcu':Oks ⟨w.heap.size,[],[(b,ty)],X⟩ [] w (c0.map (AC.fl true)) us:=Oks.QL (fun x hx=>by rw[hXe];exact A_ _ hx) hcu;have hav:=Zj (H:=w.heap.size) (p:=(b,ty)) (X:=X) (F:=F) (fun x hx=>⟨by rw[hXe];exact y_ _ hx,fun e=>(hF2 x hx).2.1 (e▸hpM)⟩) hF1;have hT:BelowT b w w:=⟨Below.refl _ _,fun w' hb'=>hR.below.tab w' (hb'.mono hBb)⟩
 refine(h w b ty us vs X hT (fun x hx=>⟨fun e=>(hX x hx).1 (e▸hpM),(hX x hx).2.1⟩) hrow hcu' hav).mono ?_;rintro e w' ⟨v,om,r,os',c',us',hpost,hr,hc',rfl,ho,hrok,hrow',hcok,hbel,hsame⟩
 
 obtain⟨w1,e1,e2⟩:∃w1:World,w1={w' with heap:=w'.heap.setIfInBounds b (.cells us.toArray ty (0,0))}∧True:=⟨_,rfl,trivial⟩
 have hsz:w1.heap.size=w'.heap.size:=by rw[e1];simp
 have hother:∀x,x≠b→w1.heap[x]? =w'.heap[x]? :=fun x hx=>by rw[e1];simp only;rw[Array.getElem?_setIfInBounds_ne (Ne.symm hx)]
 have hself:w1.heap[b]? =some (.cells us.toArray ty (0,0)):=by
  rw[e1];exact Array.getElem?_setIfInBounds_self_of_lt (hrow'.lt)
 have hB1:Below w.heap.size w w1:=by
  refine⟨by rw[e1];exact hbel.os,by rw[e1];exact hbel.tape,by rw[e1];exact hbel.output,by rw[hsz];exact hbel.size,fun x hx=> ?_⟩;by_cases e:x=b
  ·subst e;exact hself.trans hrow.symm
  ·rw[hother x e];exact hsame x hx e
 have ho1:wL w.heap.size w1 om os':=EN ho (fun x hx=>hother x (by omega)) (a_F hsz.symm);have hA:=hR.here;have hH:∀x∈E.M,x<w.heap.size:=fun x hx=>(Bl hR hx).2
 have hn:∀x,w.heap.size≤x→E.nw x:=fun x hx=>hR.xM (p_ hR.base hx)
 have hol:E.om.length=os.length:=hR.olen;have hB:=hA.Dt (x:= .any) (u:=undef) hB1 ho1 none (fun _ _ _ _=>trivial);have hM2:∀x,x∈({E with om:=E.om++om}:Env).M↔x∈E.M∨x∈om.flatMap fun q=>q.1.ownBlock.toList:=fun x=>pR E om
 have hsz':w'.heap.size=w1.heap.size:=hsz.symm;have hC:=hB.U2 (k:=kc) (p:=(b,ty)) (w':=w') (ys:=c'.map (AC.fl t)) (us:=us') hk hp
  (by have:=yB (os:=os) (w1:=w1) (E':={E with om:=E.om++om}) (t:=t) hpM (fun x hx=>⟨(hX x hx).1,(hX x hx).2.2⟩) hH hn hM2 rfl rfl hol hother (a_F hsz') (Eo hc') hcok
      rwa[wC hc']at this) hsz' (by rw[e1];exact⟨rfl,rfl,rfl⟩) (fun x hx=>(hother x hx).symm) hrow' none (x:= .any) (v:=undef) trivial
 refine⟨v,_,_,_,_,⟨r,os',c',hpost,rfl,rfl,rfl⟩,rfl,hC, ?_⟩;exact Ud (w1:=w') hpM (fun x hx=>⟨(hX x hx).1,(hX x hx).2.2⟩) hH hn hM2 rfl rfl hol (fun _ _=>rfl) (s_ _) hr hrok
theorem aey{f:Nat}{fn:Func}{code:Code}{ic:IC}{ds:List D}{c:List AC}{r:ResultVar}{post:AV→List Own→List AC→Prop}(hf:P.funcs[f]? =some fn:=by kernel_rfl)(hb:fn.body=some code:=by kernel_rfl)(hr:fn.results= #[r]:=by kernel_rfl)(hc:ak P code=some ic)
 (h:dH (0,1) P ic (iG (sH P r post)) (stS fn.ntmps (.bptr 0 0::ds.map (D.avN true)) [] [c])):DF P f ds c post:=by
 intro w b ty us vs X hT hX hrow hok hav;have hbH:b<w.heap.size:=hrow.lt;have hR0:Rel b X ⟨⟨w.heap.size,[],[(b,ty)],X⟩,[],w⟩ w ⟨[],[],[c]⟩ ⟨w.heap.size,[],[(b,ty)],X⟩ {tmps:= #[],defers:= []} w:=
  { eb :=Nat.le_of_lt hbH,ex:=rfl,sim:=Sim.refl _ _ _,defers:=rfl,size:=rfl,fr:=fun t y hy=>by simp at hy,olen:=rfl,own:=fun k o p g1 g2=>by simp at g1,blen:=rfl,
    box:=fun k xs p g1 g2=>by
     cases k with
     | zero=>
       simp at g1 g2;subst g1 g2;exact⟨Nat.le_refl _,us,hrow,hok⟩
     |succ k=>simp at g1
    nodup:=by simp[Env.M],lin:=⟨fun k o p g1=>by simp at g1,fun j k o o' p p' _ g1=>by simp at g1⟩,unf:=fun k o p g1=>by simp at g1,below:=hT,base:=Nat.le_refl _}
 refine calls_of_wp hf hb ?_;have:=h code hc b X ⟨⟨w.heap.size,[],[(b,ty)],X⟩,[],w⟩ w ⟨Nat.le_refl _,Nat.le_refl _⟩ ⟨w.heap.size,[],[(b,ty)],X⟩ _ w (rG hR0 (avs:= .bptr 0 0::ds.map (D.avN true)) (vs:= .pointer (some ⟨b,0,none⟩)::vs) ⟨⟨(b,ty),rfl,rfl⟩,hav⟩ fn.ntmps);refine wp_mono this ?_;rintro e a' w' ⟨st',E',g1,g2⟩;have fin:sH P r post st'→∃v,(results fn a'.tmps).run P w'= .ok v w'∧UM X b ty post w (.returned v) w':=by
  rintro⟨g,ys,os',c',pk,hpost,hys,hbx,hc',hnd,ho,hp,hfin⟩;have hS:=g1.sim;have hbm:E'.bm[0]? =some (b,ty):=hS.box 0 _ rfl;have hM0:∀x,x∈(⟨w.heap.size,[],[(b,ty)],X⟩:Env).M→x=b:=fun x hx=>by simpa[Env.M]using hx
  have hO:∀(k:Nat) (p:Value×List Nat) (x:Nat),E'.om[k]? =some p→p.1.ownBlock=some x→w.heap.size≤x:=by
   intro k p x h1 h2;refine Nat.le_of_not_lt fun hlt=> ?_
   have:=hM0 x (hS.old x hlt (iV.2 (Or.inr ⟨k,p,h1,h2⟩)));exact Dw g1 hbm h1 h2 this.symm
  obtain⟨l1,l2⟩:=rH (BP ho);have hA:OutAt b w.heap.size X [(b,ty)] E' pk st'.owns os':=
   { nw:=fun x hx=>by rw[hS.base]at hx;exact hx
     own:=hO
     bm:=fun q hq=>⟨0,by simp at hq;subst hq;exact hbm⟩
     get:=fun j k hj=>by
      have:j<os'.length:=by rw[← l1];exact(List.getElem?_eq_some_iff.1 hj).1
      exact⟨_,List.getElem?_eq_getElem this⟩
     lt:=fun k hk=>by
      obtain⟨j,hj⟩:=List.mem_iff_getElem?.1 hk;have hj':j<os'.length:=by rw[← l1];exact(List.getElem?_eq_some_iff.1 hj).1
      obtain⟨o2,q1,_⟩:=l2 j k _ hj (List.getElem?_eq_getElem hj');rw[g1.olen];exact(List.getElem?_eq_some_iff.1 q1).1}
  obtain⟨v,h3,h4⟩:=yu g1 hA hp hfin;obtain⟨_,us',h5,h6⟩:=g1.box 0 c' (b,ty) hbx hbm;have hcc:∀{xs:List AC} {vs:List Value},xs.all AC.cur=true→Oks E' st'.owns w' xs vs→Oks ⟨w.heap.size,qJ E' pk,[(b,ty)],X⟩ os' w' xs vs:=by
   intro xs
   induction xs with
   |nil=>intro vs _ hv;cases vs<;>first|trivial|exact hv.elim
   | cons x xs ih=>
     intro vs hx hv;cases vs with
     |nil=>exact hv.elim
     | cons v vs=>
       simp only[List.all_cons,Bool.and_eq_true]at hx;refine⟨?_,ih hx.2 hv.2⟩;cases x with
       |any=>trivial
       |raw u=>exact hv.1
       |sl n l=>exact wI g1 hA (x:= .sl n l) ⟨hx.1,hx.1,rfl⟩ hv.1
       |own _ _=>simp[AC.cur]at hx
       |osub _ _ _ _=>simp[AC.cur]at hx
       |cl _ _=>simp[AC.cur]at hx
  exact⟨v,qg hr _ h3,v,qJ E' pk,.c g ys,os',c',us',hpost,hys,hc',rfl,EO g1 hO ho hnd,h4,h5,hcc hc' h6,g1.below.out,fun x hx hne=>hS.blk x hx (fun hm=>hne (hM0 x hm))⟩
 cases e with
 | normal=>
   obtain⟨v,h3,h4⟩:=fin g2;exact⟨g1.defers,v,h3,h4⟩
 | ret=>
   obtain⟨v,h3,h4⟩:=fin g2;exact⟨g1.defers,v,h3,h4⟩
 |_=>exact g2.elim
end
theorem jm{os:List Own}{xs:List AV}{ds:List D}(h:bD os xs ds:=by first|exact⟨⟨rfl,rfl⟩,trivial⟩|exact trivial|exact⟨⟨rfl,rfl⟩,⟨rfl,rfl⟩,trivial⟩|exact⟨⟨rfl,rfl⟩,⟨rfl,rfl⟩,⟨rfl,rfl⟩,trivial⟩|(simp[St.ev,List.map_cons,List.map_nil,List.getD_cons_zero,List.getD_cons_succ,bD,oW,jM,mZ,AC.toD,dR,bJ,dI,dQ,Value.oneCell',kK,gI,kM,kL,dD,bf,dG,dF,zq,zu,bP,bM,UU,AV.fl,AC.fl,AV.shift,AC.shift,List.append_nil];first|done|rfl)):bD os xs ds:=h
section
variable{P:Program}{K:St→Prop}{d:Option Nat}{f:Nat}{ys:List AV}{rest:List IOp}{st:St}{ds:List D}
theorem bT{r:AV}(ha:bD st.owns ys ds:=by exact jm)(hr:r.res:=by trivial)(hc:aI P f ds r)(h:sw P K rest (st.put d r)):kF P K d f ys rest st:=aeA hc hr ha h
theorem Zf{m:Bool}{r:AV}(ha:bD (mo m st) ys ds:=by exact jm)(hr:r.res:=by trivial)(hc:aI P f ds r)(h:sd P m K rest (st.put d r)):vH P m K d f ys rest st:=Nq hc hr ha h
theorem ay(t:Bool){c c0:List AC}{kc:Nat}{post:AV→List Own→List AC→Prop}(ha:bD st.owns ys ds:=by exact jm)(hk:st.boxes[kc]? =some c0:=by rfl)(hc0:c0.all (AC.cin t)=true:=by rfl)(hc:c0.map (AC.fl true)=c:=by rfl)(h:aZ P f ds c post)
 (hK:∀r os' c',post r os' c'→sw P K rest (St.put ⟨st.fr,st.owns++os',st.boxes.set kc (c'.map (AC.fl t))⟩ d ((r.fl t).shift st.owns.length))):kF P K d f (.bptr kc 0::ys) rest st:=by
 refine Dk (h.toE t hk hc0 hc ha) ?_;rintro _ _ _ ⟨r,os',c',hp,rfl,rfl,rfl⟩;exact hK r os' c' hp
theorem agx(t:Bool){c c0:List AC}{kc:Nat}{post:AV→List Own→List AC→Prop}(ha:bD [] ys ds:=by exact jm)(hk:st.boxes[kc]? =some c0:=by rfl)(hc0:c0.all (AC.cin t)=true:=by rfl)(hc:c0.map (AC.fl true)=c:=by rfl)(hn:t=true→ys.all AV.nw=true:=by intro _;rfl)(h:DF P f ds c post)
 (hK:∀r os' c',post r os' c'→sw P K rest (St.put ⟨st.fr,st.owns++os',st.boxes.set kc (c'.map (AC.fl t))⟩ d ((r.fl t).shift st.owns.length))):kF P K d f (.bptr kc 0::ys) rest st:=by
 refine Dk (h.toE t hk hc0 hc ha hn) ?_;rintro _ _ _ ⟨r,os',c',hp,rfl,rfl,rfl⟩;exact hK r os' c' hp
theorem bn{post:AV→List Own→Prop}(ha:bD st.owns ys ds:=by exact jm)(h:bC P f ds post)
 (hK:∀r os',post r os'→sw P K rest (St.put ⟨st.fr,st.owns++os',st.boxes⟩ d (r.shift st.owns.length))):kF P K d f ys rest st:=by
 refine Dk (h.toE ha) ?_;rintro _ _ _ ⟨r,os',hp,rfl,rfl,rfl⟩;exact hK r os' hp
theorem uF(t:Bool){r:AV}(ha:bD [] ys ds:=by exact jm)(hr:r.nX=true:=by rfl)(hn:t=true→ys.all AV.nw=true:=by intro _;rfl)(h:jO P f ds r)(hK:sw P K rest (st.put d (r.fl t))):kF P K d f ys rest st:=by
 refine Dk (h.toE t hr ha hn) ?_;rintro _ _ _ ⟨rfl,rfl,rfl⟩;exact hK
end
section
variable{P:Program}{kc:Nat}{m:Bool}{Ts:List Nat}{K:St→Prop}{d:Option Nat}{f:Nat}{xs:List Opd}{rest:List IOp}{st:St}{ds:List D}
theorem fB{xs:List Opd}(h:sn P kc m Ts K (⟨d,none,.call f xs⟩::rest) st):sn P kc m Ts K (⟨d,none,.call f xs⟩::rest) st:=h
theorem iY{g:Nat}{w:Bool}(h:sn P kc m Ts K (⟨d,some (g,w),.call f xs⟩::rest) st):sn P kc m Ts K (⟨d,some (g,w),.call f xs⟩::rest) st:=h
theorem dW{g:Nat}{w:Bool}(hg:gdA st (some (g,w))=some true)(h:sn P kc m Ts K (⟨d,none,.call f xs⟩::rest) st):sn P kc m Ts K (⟨d,some (g,w),.call f xs⟩::rest) st:=by
 rcases h with⟨h1,h2,h3⟩|⟨h1,h2,h3⟩|⟨post,⟨_,h1⟩,h2⟩
 ·cases h2
 ·exact m_ (r_ ⟨h1,(fun n g x e=>by cases e),o8 hg h3⟩)
 ·exact m_ (m_ ⟨post,⟨hg,h1⟩,h2⟩)
theorem dX{g:Nat}{w:Bool}(hg:gdA st (some (g,w))=some false)(h:sn P kc m Ts K rest (st.put d (.c false [.raw undef]))):sn P kc m Ts K (⟨d,some (g,w),.call f xs⟩::rest) st:=
 m_ (r_ ⟨rfl,(fun n g x e=>by cases e),o9 hg (show sd P m (sn P kc m Ts K rest) [] _ from h)⟩)
theorem BI{r:AV}(ha:bD (mo m st) (xs.map st.ev) ds:=by exact jm)(hr:r.res:=by trivial)(hc:aI P f ds r)(h:sn P kc m Ts K rest (st.put d r)):sn P kc m Ts K (⟨d,none,.call f xs⟩::rest) st:=by
 refine afa ?_;rw[N8];exact Nq hc hr ha h
theorem iq(t:Bool){x:Opd}{c c0:List AC}{pst:AV→List Own→List AC→Prop}(ha:bD st.owns (xs.map st.ev) ds:=by exact jm)(hx:st.ev x= .bptr kc 0:=by rfl)(hk:st.boxes[kc]? =some c0:=by rfl)(hc0:c0.all (AC.cin t)=true:=by rfl)(hc:c0.map (AC.fl true)=c:=by rfl)(h:aZ P f ds c pst)
 (hne:∃r os' c',pst r os' c'∧r.uD=true) (hm:∀r os' c',pst r os' c'→m=false→os'= []:=by first|(rintro _ _ _ ⟨_,h,_⟩ _;exact h)|(intro _ _ _ _ hm;cases hm)) (hr:∀r os' c',pst r os' c'→sn P kc m Ts K rest (St.put ⟨st.fr,st.owns++os',st.boxes.set kc (c'.map (AC.fl t))⟩ d ((r.fl t).shift st.owns.length))):sn P kc m Ts K (⟨d,none,.call f (x::xs)⟩::rest) st:=
 ahr t h hx hk hc0 hc ha hne hm hr
theorem ahs(t:Bool){r:AV}(ha:bD [] (xs.map st.ev) ds:=by exact jm)(hr:r.nX=true:=by rfl)(hn:t=true→(xs.map st.ev).all AV.nw=true:=by intro _;rfl)(h:jO P f ds r)(hK:sn P kc m Ts K rest (st.put d (r.fl t))):sn P kc m Ts K (⟨d,none,.call f xs⟩::rest) st:=by
 refine Or.inr (Or.inr ⟨fun r' os' oc=>r'=r.fl t∧os'= []∧oc=none,⟨rfl,f,xs,rfl,fun _ _ _ h _=>h.2.1,⟨_,_,_,rfl,rfl,rfl⟩,.gen (pst:=fun r'=>r'=r.fl t) (fun bs'=>h.toE t hr ha hn) (fun r' e=> ?_)⟩, ?_⟩)
 ·subst e;cases r<;>first|rfl|(cases hr;done)
 ·rintro _ _ _ ⟨rfl,rfl,rfl⟩;simpa[St.nput,wX]using hK
theorem wY{pst:AV→List Own→Prop}(ha:bD st.owns (xs.map st.ev) ds:=by exact jm)(h:bC P f ds pst)(hne:∃r os',pst r os'∧r.out=true)(hm:∀r os',pst r os'→m=false→os'= []:=by first|(rintro _ _ ⟨_,h⟩ _;exact h)|(intro _ _ _ hm;cases hm))
 (hr:∀r os',pst r os'→sn P kc m Ts K rest (St.put ⟨st.fr,st.owns++os',st.boxes⟩ d (r.shift st.owns.length))):sn P kc m Ts K (⟨d,none,.call f xs⟩::rest) st:=
 ae6 h ha hne hm hr
end
def AC.rel(k v:Nat)(n:Bool)(l:List D):AC→AC
 | .own j i=>if j=k∧i=v then .sl n l else .own j i
 |x=>x
def AV.rel(k v:Nat)(n:Bool)(l:List D):AV→AV
 | .c g xs=> .c g (xs.map (AC.rel k v n l))
 |x=>x
def St.rel(st:St)(k:Nat)(o:Own):St:=⟨st.fr.map (AV.rel k o.ver o.nw.n o.l),fA st.owns k,st.boxes.map (List.map (AC.rel k o.ver o.nw.n o.l))⟩
section
variable{P:Program}{B:Nat}{Xs:List Nat}{G:Org}{w0:World}{st:St}{E:Env}{a:Act}{w:World}
theorem aht(h:Rel B Xs G w0 st E a w){k:Nat}{o:Own}(ho:st.owns[k]? =some o)(h2:Rel B Xs G w0 ⟨st.fr,fA st.owns k,st.boxes⟩ (E.seal k) a w){x:AC}{v:Value}(hx:x.ok E st.owns w v)(hx2:x.ok (E.seal k) (fA st.owns k) w v):(x.rel k o.ver o.nw.n o.l).ok (E.seal k) (fA st.owns k) w v:=by
 cases x with
 | own j i=>
   simp only[AC.rel];split
   ·next e=>
    obtain⟨rfl,rfl⟩:=e;obtain⟨_,o',p,h3,h4,h5,h6⟩:=hx;rw[ho]at h3;injection h3 with h3
    subst h3;obtain rfl:=h6 rfl;obtain⟨cs,q1,q2,q3,q4⟩:=h.own j o p ho h4;have hsm:=(DU h.nodup (k:=j)).2;refine⟨_,Sl.nD q1 q2,fun b hb=> ?_⟩;rcases q_.1 hb with hb|hb
    ·have hb':p.1.ownBlock=some b:=by simpa using hb
     refine⟨fun hm=> ?_,fun _=>h.xM (bF.lt q1 b hb').1⟩;rcases iV.1 hm with⟨k',q,g1,g2⟩|⟨k',q,g1,g2⟩
     ·exact Dw h g1 h4 hb' g2
     ·by_cases e:k'=j
      ·subst e;simp only[Env.seal]at g1;rw[T_ (b_.1 h4).1]at g1;injection g1 with g1
       subst g1;cases g2
      ·rw[vM e]at g1;exact e (Fv h g1 h4 g2 hb')
    ·exact⟨fun hm=>(q4 b hb).1 (hsm b hm),fun e=>(q4 b hb).2 e⟩
   ·exact hx2
 |_=>exact hx2
theorem Gt(h:Rel B Xs G w0 st E a w){k:Nat}{o:Own}(ho:st.owns[k]? =some o)(h2:Rel B Xs G w0 ⟨st.fr,fA st.owns k,st.boxes⟩ (E.seal k) a w):∀{xs:List AC} {vs:List Value},Oks E st.owns w xs vs→Oks (E.seal k) (fA st.owns k) w xs vs→Oks (E.seal k) (fA st.owns k) w (xs.map (AC.rel k o.ver o.nw.n o.l)) vs
 | [],[],_,_=>trivial
 |x::xs,v::vs,hx,hy=>⟨aht h ho h2 hx.1 hy.1,Gt h ho h2 hx.2 hy.2⟩
 | [],_::_,hx,_=>hx.elim
 |_::_,[],hx,_=>hx.elim
theorem Rel.release(h:Rel B Xs G w0 st E a w){k:Nat}{o:Own}(ho:st.owns[k]? =some o):Rel B Xs G w0 (st.rel k o) (E.seal k) a w:=by
 have h2:Rel B Xs G w0 ⟨st.fr,fA st.owns k,st.boxes⟩ (E.seal k) a w:=Rel.seal (fr:=st.fr) (os:=st.owns) (bs:=st.boxes) h ho;have hav:∀{x:AV} {v:Value},x.ok E st.owns w v→x.ok (E.seal k) (fA st.owns k) w v→(x.rel k o.ver o.nw.n o.l).ok (E.seal k) (fA st.owns k) w v:=by
  intro x v hx hy;cases x with
  | c g xs=>
    cases g with
    | true=>
      obtain⟨vs,h3,h4⟩:=hx;obtain⟨us,h5,h6⟩:=hy;subst h3;have:us=vs:=by injection h5 with h5;injection h5 with h5;exact h5.symm
      subst this;exact⟨us,rfl,Gt h ho h2 h4 h6⟩
    |false=>exact Gt h ho h2 (show Oks E st.owns w xs [v] from hx) (show Oks _ _ w xs [v] from hy)
  |_=>exact hy
 exact
  { eb:=h2.eb,ex:=h2.ex,sim:=h2.sim,defers:=h2.defers
    size:=by rw[h2.size];simp[St.rel]
    fr:=fun t x hx=>by
     simp only[St.rel,t_]at hx;obtain⟨y,hy,rfl⟩:=f_.1 hx;exact hav (h.fr t y hy) (h2.fr t y hy)
    olen:=h2.olen,own:=h2.own
    blen:=by rw[h2.blen];simp[St.rel]
    box:=fun j xs p hx hp=>by
     simp only[St.rel,t_]at hx;obtain⟨ys,hy,rfl⟩:=f_.1 hx;obtain⟨g1,vs,g2,g3⟩:=h2.box j ys p hy hp;obtain⟨_,us,g4,g5⟩:=h.box j ys p hy hp;have:us=vs:=by
      have e:=g4.symm.trans g2;injection e with e
      injection e with e1
      injection e1
     subst this;exact⟨g1,us,g2,Gt h ho h2 g5 g3⟩
    nodup:=h2.nodup,lin:=h2.lin,unf:=h2.unf,below:=h2.below,base:=h2.base}
theorem FC{lo:Nat×Nat}{c:IC}{Q:Exit→St→Prop}(k:Nat){o:Own}(ho:st.owns[k]? =some o)(h:dH lo P c Q (st.rel k o)):dH lo P c Q st:=
 fun code hc B Xs G w0 hG E a w hR=>h code hc B Xs G w0 hG (E.seal k) a w (hR.release ho)
end
theorem pkZ :type_of% (aiX @rO.eq_1 (aiX @rO.eq_2 (aiX @wZ.eq_1 (aiX @wZ.eq_2 (aiX @fH.eq_1 (aiX @fH.eq_2 (aiX @fA.eq_1 (aiX @St.put.eq_1 (aiX @St.put.eq_2 (aiX @St.ev.eq_1 (aiX @St.ev.eq_2 (aiX @qO.eq_1 (aiX @qO.eq_2 (aiX @xg.eq_1 (aiX @xg.eq_2 (aiX @D.ones.eq_1 (aiX @D.ones.eq_2 (aiX @D.szs.eq_1 (aiX @D.szs.eq_2 (aiX @undef.eq_1 (aiX @dR (aiX @bJ (aiX @dI (aiX @dQ (aiX @je (@iE)))))))))))))))))))))))))):=aiX @rO.eq_1 (aiX @rO.eq_2 (aiX @wZ.eq_1 (aiX @wZ.eq_2 (aiX @fH.eq_1 (aiX @fH.eq_2 (aiX @fA.eq_1 (aiX @St.put.eq_1 (aiX @St.put.eq_2 (aiX @St.ev.eq_1 (aiX @St.ev.eq_2 (aiX @qO.eq_1 (aiX @qO.eq_2 (aiX @xg.eq_1 (aiX @xg.eq_2 (aiX @D.ones.eq_1 (aiX @D.ones.eq_2 (aiX @D.szs.eq_1 (aiX @D.szs.eq_2 (aiX @undef.eq_1 (aiX @dR (aiX @bJ (aiX @dI (aiX @dQ (aiX @je (@iE)))))))))))))))))))))))))
theorem wG{p:Prop}(h:p:=by first|(with_reducible rfl)|(with_reducible refine mO ?_;kernel_rfl)|exact bW _|exact eP _|exact aO _|exact vC _ _|exact wV _ _ _|omega|(simp;done)|(simp;omega)):p:=h
section
variable{P:Program}{B:Nat}{Xs:List Nat}{G:Org}{w0:World}{st:St}{E:Env}{a:Act}{w:World}
theorem XV{os:List Own}{x:AC}{u:Value}:∀{xs:List AC} {vs:List Value} {j:Nat},Oks E os w xs vs→(∀v,vs[j]? =some v→x.ok E os w v)→Oks E os w (xs.set j x) vs
 | [],[],_,_,_=>trivial
 |y::xs,v::vs,0,h,hx=>⟨hx v rfl,h.2⟩
 |y::xs,v::vs,j+1,h,hx=>⟨h.1,XV (u:=u) h.2 (fun z hz=>hx z (by simpa using hz))⟩
 | [],_::_,_,h,_=>h.elim
 |_::_,[],_,h,_=>h.elim
theorem XW{os:List Own}{x:AC}:∀{xs:List AC} {vs:List Value} {j:Nat},Oks E os w xs vs→xs[j]? =some x→∀v,vs[j]? =some v→x.ok E os w v
 | [],[],_,_,hx,_,_=>by simp at hx
 | y::xs,v::vs,0,h,hx,z,hz=>by
   simp at hx hz;subst hx hz;exact h.1
 |y::xs,v::vs,j+1,h,hx,z,hz=>XW h.2 (by simpa using hx) z (by simpa using hz)
 | [],_::_,_,h,_,_,_=>h.elim
 |_::_,[],_,h,_,_,_=>h.elim
def St.Ky(st:St)(kb j e s:Nat)(m:Bool):St:=⟨st.fr,st.owns++ [⟨[],e,s,0,⟨true,m⟩⟩],st.boxes.set kb ((st.boxes.getD kb []).set j (.own st.owns.length 0))⟩
theorem Rel.Ky(h:Rel B Xs G w0 st E a w){kb j e s:Nat}{m:Bool}{xs:List AC}(hb:st.boxes[kb]? =some xs)(hx:xs[j]? =some (.raw (.slice none 0 0))):
 Rel B Xs G w0 (st.Ky kb j e s m) {E with om:=E.om++ [(.slice none 0 0,[])]} a w:=by
 have h1:Rel B Xs G w0 ⟨st.fr,st.owns++ [⟨[],e,s,0,⟨true,m⟩⟩],st.boxes⟩ {E with om:=E.om++ [(.slice none 0 0,[])]} a w:=
  Rel.Dt (fr:=st.fr) (os:=st.owns) (bs:=st.boxes) (x:= .any) (u:=undef) h (Below.refl _ _)
   ⟨rfl,fun k o p hk hp=>by
     cases k with
     | zero=>
       simp at hk hp;subst hk hp;exact⟨[],bF.nil,⟨rfl,rfl⟩,fun d hd=>by simp at hd,fun b hb=>by simp at hb⟩
     |succ k=>simp at hk,by simp[Value.ownBlock],Lin.one (fun _=>I_),Unf.one (fun _ b hb=>by simp at hb)⟩ none (fun _ _ _ _=>trivial)
 have hol:=h.olen;exact
  { eb:=h1.eb,ex:=h1.ex,sim:=h1.sim,defers:=h1.defers,size:=h1.size,fr:=h1.fr,olen:=h1.olen,own:=h1.own
    blen:=by rw[h1.blen];simp[St.Ky]
    box:=fun k ys p hy hp=>by
     by_cases e1:kb=k
     ·subst e1;have hlt:kb<st.boxes.length:=(b_.1 hb).1;simp only[St.Ky]at hy;rw[T_ hlt]at hy;injection hy with hy
      subst hy;have hg:st.boxes.getD kb []=xs:=by rw[c_,hb];rfl
      rw[hg];obtain⟨g1,vs,g2,g3⟩:=h1.box kb xs p hb hp;refine⟨g1,vs,g2,XV (u:=undef) g3 fun v hv=> ?_⟩;have hv2:v= .slice none 0 0:=XW g3 hx v hv;subst hv2;have e2:(st.owns++ [(⟨[],e,s,0,⟨true,m⟩⟩:Own)])[st.owns.length]? =some ⟨[],e,s,0,⟨true,m⟩⟩:=by rw[B_ (s_ _)];simp
      have e3:(E.om++ [(Value.slice none 0 0,([]:List Nat))])[st.owns.length]? =some (.slice none 0 0,[]):=by rw[B_ (by omega),hol];simp
      exact⟨⟨none,0,0,rfl⟩,⟨[],e,s,0,⟨true,m⟩⟩,(.slice none 0 0,[]),e2,e3,s_ _,fun _=>rfl⟩
     ·simp only[St.Ky]at hy;rw[List.getElem?_set_ne e1]at hy;exact h1.box k ys p hy hp
    nodup:=h1.nodup,lin:=h1.lin,unf:=h1.unf,below:=h1.below,base:=h1.base}
theorem JX{lo:Nat×Nat}{c:IC}{Q:Exit→St→Prop}(kb j e s:Nat)(m:Bool){xs:List AC}(hb:st.boxes[kb]? =some xs)(hx:xs[j]? =some (.raw (.slice none 0 0)))(h:dH lo P c Q (st.Ky kb j e s m)):dH lo P c Q st:=
 fun code hc B Xs G w0 hG E a w hR=>h code hc B Xs G w0 hG _ a w (hR.Ky hb hx)
theorem Um{lo:Nat×Nat}{Q:Exit→St→Prop}{X:Type}{c:IC}(F:X→St)(inv:X→Prop)(μ:X→Nat)(x0:X)(pk0:List Nat)(h0:inv x0)(hl0:lo.1=0)(hlo:∀x,lo.2≤(F x).boxes.length)(hle:wW pk0 st (F x0))
 (round:∀x,inv x→dH lo P c (wQ F inv μ x Q) (F x)):dH lo P (.loop c) Q st:=fun code hc B Xs G w0 hG E a w hR=>by
 have hG1:G.os.length=0:=Nat.le_zero.1 (hl0▸hG.1);have hG2:∀x,G.E.bm.length≤(F x).boxes.length:=fun x=>p_ hG.2 (hlo x)
 cases code with
 | loop cc=>
   simp only[ak]at hc;obtain⟨c',hcc,he⟩:=f_.1 hc;simp only[IC.loop.injEq]at he;subst he;obtain⟨E',hR'⟩:=hR.PN hle hG1 (hG2 _);refine DJ (fun n a w=>∃x E,μ x=n∧inv x∧Rel B Xs G w0 (F x) E a w) (μ x0) ⟨x0,E',rfl,h0,hR'⟩ ?_;rintro n a w ⟨x,E,rfl,hx,hR⟩;refine wp_mono (round x hx cc hcc B Xs G w0 hG E a w hR) ?_;rintro e a' w' ⟨st',E',h1,h2⟩;cases e with
   | normal=>
     obtain⟨x',pk,h3,h4,h5⟩:=h2;obtain⟨E'',h6⟩:=h1.PN h3 hG1 (hG2 _);exact⟨μ x',h5,x',E'',rfl,h4,h6⟩
   |_=>exact⟨st',E',h1,h2⟩
 |region id cops b=>exact(oL hc (by simp) (by simp)).elim
 |block id x=>simp[ak]at hc
 |cond c x y=>simp only[ak]at hc;split at hc<;>simp at hc
 |seq x y=>simp only[ak]at hc;split at hc<;>simp at hc
 |ret=>simp[ak]at hc
 |exit id=>simp[ak]at hc
 |skip=>simp[ak]at hc
 |label l=>simp[ak]at hc
 |rangeFunc=>simp[ak]at hc
 |scope=>simp[ak]at hc
 |goto=>simp[ak]at hc
 |refuse=>simp[ak]at hc
theorem WL{lo:Nat×Nat}{Q:Exit→St→Prop}{X:Type}{c:IC}{fr0:List AV}{os0:List Own}{bs0:List (List AC)}(sp:X→List Sp)(ow:X→List Own)(bx:X→List (List AC)→List (List AC))(inv:X→Prop)(μ:X→Nat)(x0:X)(pk0:List Nat)(h0:inv x0)(hl0:lo.1=0)
 (hlo:∀x,lo.2≤(bx x bs0).length) (hle:wW pk0 ⟨fr0,os0,bs0⟩ (FB fr0 bs0 sp ow bx x0)) (round:∀x,inv x→dH lo P c (wQ (FB fr0 bs0 sp ow bx) inv μ x Q) (FB fr0 bs0 sp ow bx x)):dH lo P (.loop c) Q ⟨fr0,os0,bs0⟩:=
 Um (FB fr0 bs0 sp ow bx) inv μ x0 pk0 h0 hl0 hlo hle round
end
theorem szD(xs:Array UInt8):ByteArray.size ⟨xs⟩=xs.size:=rfl
theorem nv{G H:Prop}(k:H)(h:H→G:=by first|(with_reducible first|exact oP|exact jL|exact lD|exact lF|exact oQ|exact yC|exact kS|exact nP|exact gY|exact jG|exact lq|exact jB|exact kV|exact iM|exact jA)|((with_reducible refine jF ?_);rfl)|((with_reducible refine jI ?_);rfl)|((with_reducible refine jK ?_);rfl)):G:=h k
section
variable{lo:Nat×Nat}{P:Program}{K:St→Prop}{Q:Exit→St→Prop}{st:St}{m:Bool}{F H:Prop}{l:List IOp}
theorem ss(f:F)(k:H)(h:F→(sw P K l st)=H:=by intro f;conv=>lhs;simp(disch:=first|decide|omega) only[↓pkS,pkW,pkA,pkZ,List.flatMap_cons,List.flatMap_nil,List.append_nil,kJ,lvD,lcD,lvK,lcK,jq,ex,kav,gdA,opI,fQ,vJ,jQ,AV.toD,AC.toD,AV.nw,AC.nw,AC.one,Value.oneCell',if_true,if_false,Bool.false_eq_true,kD,D.one,D.sz,Nat.reduceAdd,Nat.reduceSub,Nat.reduceLeDiff,Nat.reduceEqDiff,reduceIte,pkN,UU,Int.reduceLT,Int.reduceLE,AV.fl,AC.fl,AV.shift,AC.shift,szD,List.size_toArray,ByteArray.size_append,Ae,eqV,eqC,f]):sw P K l st:=(h f).mpr k
theorem sx(f:F)(k:H)(h:F→(sd P m K l st)=H:=by intro f;conv=>lhs;simp(disch:=first|decide|omega) only[↓pkR,pkD,pkA,pkZ,List.flatMap_cons,List.flatMap_nil,List.append_nil,kJ,lvD,lcD,lvK,lcK,jq,ex,kav,gdA,opI,fQ,vJ,jQ,AV.toD,AC.toD,AV.nw,AC.nw,AC.one,Value.oneCell',if_true,if_false,Bool.false_eq_true,kD,D.one,D.sz,Nat.reduceAdd,Nat.reduceSub,Nat.reduceLeDiff,Nat.reduceEqDiff,reduceIte,pkN,UU,Int.reduceLT,Int.reduceLE,AV.fl,AC.fl,AV.shift,AC.shift,szD,List.size_toArray,ByteArray.size_append,Ae,eqV,eqC,f]):sd P m K l st:=(h f).mpr k
theorem nN{G:Prop}(k:H)(h:H→G:=by intro k;first|((with_reducible refine ae8 ?_ k);(intro off;simp only[↓pkR,St.ev,List.getD_cons_zero,List.getD_cons_succ];first|done|(intro hx;cases hx)|(simp;done)))|((with_reducible refine ae7 ?_ k);rfl)|((with_reducible refine abA ?_ k);rfl)|(with_reducible exact ae9 k)):G:=h k
theorem rD{G:Prop}(k:H)(h:H→G:=by intro k;first|(with_reducible exact iC k)|((with_reducible refine mg false ?_ k);rfl)|((with_reducible refine mg true ?_ k);rfl)|((with_reducible refine Nu false ?_ k);rfl)|((with_reducible refine Nu true ?_ k);rfl)):G:=h k
theorem sS{G:Prop}(f:F)(k:H)(h:F→G=H:=by intro f;conv=>lhs;simp only[undef,stS,st0,stN,D.av,D.avN,dD,bf,dG,dF,dK,bV,bP,bM,UU,List.map_cons,List.map_nil,List.replicate,List.cons_append,List.nil_append,List.length_cons,List.length_nil,Nat.reduceAdd,Nat.reduceSub,f]):G:=(h f).mpr k
theorem cS{c:Opd}{x y:IC}{b:Bool}{p q:Prop}(hb:st.ev c= .c false [.raw (.bool b)])(h1:b=true→p→dH lo P x Q st)(h2:b=false→q→dH lo P y Q st)(hp:(b=true)=p:=by conv=>lhs;(try simp only[pkC]))(hq:(b=false)=q:=by conv=>lhs;(try simp only[pkC])):dH lo P (.cond c x y) Q st:=
 jJ hb (fun h=>h1 h (hp.mp h)) (fun h=>h2 h (hq.mp h))
section
variable{d:Option Nat}{g:Nat}{w b:Bool}{i:I}{rest:List IOp}
theorem gi(k:sw P K (⟨d,some (g,w),i⟩::rest) st):sw P K (⟨d,some (g,w),i⟩::rest) st:=k
theorem gxi(k:sd P m K (⟨d,some (g,w),i⟩::rest) st):sd P m K (⟨d,some (g,w),i⟩::rest) st:=k
theorem gF(k:H)(h:(sw P K rest (st.put d (.c false [.raw undef])))=H:=by conv=>lhs;(try simp only[St.put,undef,pkA,Nat.reduceAdd,Nat.reduceSub,Nat.reduceLeDiff,Nat.reduceEqDiff])):sw P K rest (st.put d (.c false [.raw undef])):=h.mpr k
theorem gS{p q:Prop}(hg:st.fr.getD g .any= .c false [.raw (.bool b)])(h1:b=w→p→sw P K (⟨d,none,i⟩::rest) st)(h2:b= !w→q→sw P K rest (st.put d (.c false [.raw undef])))(hp:(b=w)=p:=by conv=>lhs;(try simp only[pkC]))(hq:(b= !w)=q:=by conv=>lhs;(try simp only[pkC])):
 sw P K (⟨d,some (g,w),i⟩::rest) st:=Zx hg (fun h=>h1 h (hp.mp h)) (fun h=>h2 h (hq.mp h))
theorem gxF(k:H)(h:(sd P m K rest (st.put d (.c false [.raw undef])))=H:=by conv=>lhs;(try simp only[St.put,undef,pkA,Nat.reduceAdd,Nat.reduceSub,Nat.reduceLeDiff,Nat.reduceEqDiff])):sd P m K rest (st.put d (.c false [.raw undef])):=h.mpr k
theorem gnF{kc:Nat}{Ts:List Nat}(k:H)(h:(sn P kc m Ts K rest (st.put d (.c false [.raw undef])))=H:=by conv=>lhs;(try simp only[St.put,undef,pkA,Nat.reduceAdd,Nat.reduceSub,Nat.reduceLeDiff,Nat.reduceEqDiff])):sn P kc m Ts K rest (st.put d (.c false [.raw undef])):=h.mpr k
theorem gxS{p q:Prop}(hg:st.fr.getD g .any= .c false [.raw (.bool b)])(h1:b=w→p→sd P m K (⟨d,none,i⟩::rest) st)(h2:b= !w→q→sd P m K rest (st.put d (.c false [.raw undef])))(hp:(b=w)=p:=by conv=>lhs;(try simp only[pkC]))(hq:(b= !w)=q:=by conv=>lhs;(try simp only[pkC])):
 sd P m K (⟨d,some (g,w),i⟩::rest) st:=ZI hg (fun h=>h1 h (hp.mp h)) (fun h=>h2 h (hq.mp h))
end
end
theorem gq_{G H:Prop}(k:H)(h:H→G:=by intro k;first|((with_reducible refine gi ?_);first|exact eX rfl k|(refine eY rfl ?_;refine gF ?_;exact k))|((with_reducible refine gxi ?_);first|exact o8 rfl k|(refine o9 rfl ?_;refine gxF ?_;exact k))):G:=h k
theorem cq_{lo:Nat×Nat}{P:Program}{c:Opd}{x y:IC}{Q:Exit→St→Prop}{st:St}(k:dH lo P (.cond c x y) Q st):dH lo P (.cond c x y) Q st:=k
theorem c2_{G A B:Prop}(a:A)(b:B)(h:A→B→G:=by intro a b;first|(with_reducible exact gS rfl a b)|(with_reducible exact gxS rfl a b)|((with_reducible refine cq_ ?_);(fail_if_success refine nv ?_);with_reducible exact cS rfl a b)):G:=h a b
theorem ca_{G A B:Prop}(a:A)(b:B)(h:A→B→G:=by intro a b;with_reducible exact fC a b):G:=h a b
theorem hq_{G H:Prop}(k:H)(h:H→G:=by intro k;with_reducible exact hK _ k):G:=h k
theorem rg_{G H:Prop}(k:H)(h:H→G:=by intro k;first|(with_reducible exact iC k)|((with_reducible refine mg false ?_ k);rfl)|((with_reducible refine mg true ?_ k);rfl)):G:=h k
section
variable{P:Program}{K:St→Prop}{st:St}{m:Bool}{l:List IOp}
theorem aiO{H:Prop}(h:sw P K l st=H):sw P K l st=H:=h
theorem aiP{H:Prop}(h:sd P m K l st=H):sd P m K l st=H:=h
end
theorem sz_{G H F:Prop}(f:F)(k:H)(h:F→G=H:=by intro f;first|((with_reducible apply aiO);conv=>lhs;simp(disch:=first|decide|omega) only[↓pkS,pkW,pkA,pkZ,List.flatMap_cons,List.flatMap_nil,List.append_nil,kJ,lvD,lcD,lvK,lcK,jq,ex,kav,gdA,opI,fQ,vJ,jQ,AV.toD,AC.toD,AV.nw,AC.nw,AC.one,Value.oneCell',if_true,if_false,Bool.false_eq_true,kD,D.one,D.sz,Nat.reduceAdd,Nat.reduceSub,Nat.reduceLeDiff,Nat.reduceEqDiff,reduceIte,pkN,UU,Int.reduceLT,Int.reduceLE,AV.fl,AC.fl,AV.shift,AC.shift,szD,List.size_toArray,ByteArray.size_append,Ae,eqV,eqC,f])|((with_reducible apply aiP);conv=>lhs;simp(disch:=first|decide|omega) only[↓pkR,pkD,pkA,pkZ,List.flatMap_cons,List.flatMap_nil,List.append_nil,kJ,lvD,lcD,lvK,lcK,jq,ex,kav,gdA,opI,fQ,vJ,jQ,AV.toD,AC.toD,AV.nw,AC.nw,AC.one,Value.oneCell',if_true,if_false,Bool.false_eq_true,kD,D.one,D.sz,Nat.reduceAdd,Nat.reduceSub,Nat.reduceLeDiff,Nat.reduceEqDiff,reduceIte,pkN,UU,Int.reduceLT,Int.reduceLE,AV.fl,AC.fl,AV.shift,AC.shift,szD,List.size_toArray,ByteArray.size_append,Ae,eqV,eqC,f])):G:=(h f).mpr k
theorem cg_{G:Prop}(k:G)(h:G→G:=by intro k;first|(with_reducible exact oK k)|(with_reducible exact WC k)):G:=h k
theorem cT_{G H:Prop}{P:Program}{f:Nat}{ds:List D}{r:AV}(hc:aI P f ds r)(k:H)(h:aI P f ds r→H→G:=by intro hc k;first|((with_reducible refine oK ?_);exact bT (hc:=hc) (h:=k))|((with_reducible refine WC ?_);exact Zf (hc:=hc) (h:=k))):G:=h hc k
theorem bq_{G:Prop}(h:G:=by first|(first|(with_reducible rfl)|(with_reducible refine mO ?_;kernel_rfl)|exact bW _|exact eP _|exact aO _|exact vC _ _|exact wV _ _ _|omega|(simp;done)|(simp;omega))|((with_reducible refine oU ?_);first|exact⟨⟨rfl,rfl⟩,trivial⟩|exact trivial|exact⟨⟨rfl,rfl⟩,⟨rfl,rfl⟩,trivial⟩|exact⟨⟨rfl,rfl⟩,⟨rfl,rfl⟩,⟨rfl,rfl⟩,trivial⟩|(simp[St.ev,List.map_cons,List.map_nil,List.getD_cons_zero,List.getD_cons_succ,bD,oW,jM,mZ,AC.toD,dR,bJ,dI,dQ,Value.oneCell',kK,gI,kM,kL,dD,bf,dG,dF,zq,zu,bP,bM,UU,AV.fl,AC.fl,AV.shift,AC.shift,List.append_nil];first|done|rfl))):G:=h
theorem a3_{A B C:Prop}(a:A)(b:B)(c:C):A∧(B∧C):=⟨a,b,c⟩
theorem a4_{A B C D:Prop}(a:A)(b:B)(c:C)(d:D):A∧(B∧(C∧D)):=⟨a,b,c,d⟩
theorem a5_{A B C D E:Prop}(a:A)(b:B)(c:C)(d:D)(e:E):A∧(B∧(C∧(D∧E))):=⟨a,b,c,d,e⟩
theorem a6_{A B C D E F:Prop}(a:A)(b:B)(c:C)(d:D)(e:E)(f:F):A∧(B∧(C∧(D∧(E∧F)))):=⟨a,b,c,d,e,f⟩
theorem a7_{A B C D E F G:Prop}(a:A)(b:B)(c:C)(d:D)(e:E)(f:F)(g:G):A∧(B∧(C∧(D∧(E∧(F∧G))))):=⟨a,b,c,d,e,f,g⟩
theorem a8_{A B C D E F G H:Prop}(a:A)(b:B)(c:C)(d:D)(e:E)(f:F)(g:G)(h:H):A∧(B∧(C∧(D∧(E∧(F∧(G∧H)))))):=⟨a,b,c,d,e,f,g,h⟩
theorem a9_{A B C D E F G H I:Prop}(a:A)(b:B)(c:C)(d:D)(e:E)(f:F)(g:G)(h:H)(i:I):A∧(B∧(C∧(D∧(E∧(F∧(G∧(H∧I))))))):=⟨a,b,c,d,e,f,g,h,i⟩
theorem WU{A B C D E F G H I J:Prop}(a:A)(b:B)(c:C)(d:D)(e:E)(f:F)(g:G)(h:H)(i:I)(j:J):A∧(B∧(C∧(D∧(E∧(F∧(G∧(H∧(I∧J)))))))):=⟨a,b,c,d,e,f,g,h,i,j⟩
def zz_(d:Nat)(i:I):IOp:=⟨some d,none,i⟩
def zy_(d t:Nat)(i:I):IOp:=⟨some d,some (t,true),i⟩
def zx_(d t:Nat)(i:I):IOp:=⟨some d,some (t,false),i⟩
def zw_(d a:Nat):IOp:=⟨some d,none,.mov (.t a)⟩
def zv_(d t a:Nat):IOp:=⟨some d,some (t,true),.mov (.t a)⟩
def zu_(d t a:Nat):IOp:=⟨some d,some (t,false),.mov (.t a)⟩
def zt_(d k a:Nat):IOp:=⟨some d,none,.fad k (.t a)⟩
def zs_(d k a:Nat):IOp:=⟨some d,none,.load k false (.t a)⟩
def zr_(d k a:Nat):IOp:=⟨some d,none,.load k true (.t a)⟩
def zq_(d f a:Nat):IOp:=⟨some d,none,.call f [.t a]⟩
def zp_(d f a b:Nat):IOp:=⟨some d,none,.call f [.t a,.t b]⟩
def zo_(d f a b c:Nat):IOp:=⟨some d,none,.call f [.t a,.t b,.t c]⟩
def zn_(d f a:Nat)(z:Int):IOp:=⟨some d,none,.call f [.t a,.k (.int .i64 z)]⟩
def zm_(d:Nat)(o:BinOp)(a:Nat)(z:Int):IOp:=⟨some d,none,.bin o (.t a) (.k (.int .i64 z))⟩
def zl_(d:Nat)(o:BinOp)(a b:Nat):IOp:=⟨some d,none,.bin o (.t a) (.t b)⟩
def zk_(d:Nat)(z:Int):IOp:=⟨some d,none,.mov (.k (.int .i64 z))⟩
def zj_(d:Nat)(v:Bool):IOp:=⟨some d,none,.mov (.k (.bool v))⟩
def zi_(d a:Nat):IOp:=⟨some d,none,.nck (.t a)⟩
def zh_(d a b:Nat)(v:Bool):IOp:=⟨some d,none,.pick (.t a) (.t b) (.k (.bool v))⟩
def zg_(d a:Nat)(v:Bool)(b:Nat):IOp:=⟨some d,none,.pick (.t a) (.k (.bool v)) (.t b)⟩
def zf_(d:Nat)(v:Bool)(a:Nat):IOp:=⟨some d,none,.len v (.t a)⟩
def ze_(d k a b:Nat):IOp:=⟨some d,none,.iad k (.t a) (.t b)⟩
def zd_(l:List IOp)(x:IC):IC:= .seq (.reg false l) x
def zc_(n:Nat)(v:Bool)(y:IC):IC:= .seq (.reg false [⟨some n,none,.mov (.k (.bool v))⟩]) y
theorem zb_{G H:Prop}(k:H)(h:G=H:=by conv=>lhs;dsimp only[zz_,zy_,zx_,zw_,zv_,zu_,zt_,zs_,zr_,zq_,zp_,zo_,zn_,zm_,zl_,zk_,zj_,zi_,zh_,zg_,zf_,ze_,zd_,zc_]):G:=h.mpr k
theorem za_{a b:Int}(h:a≠b):(a==b)=false:=beq_false_of_ne h
end Go.Proofs.YtfjmoicellpnhaaGreat
