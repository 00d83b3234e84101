/-
  Texts joined: IrE IrF IrT Ty IrG IrL IrS IrW IrR IrN IrU IrV IrX IrY.
-/
import Derived.Test.YtfjmoicellpnhaaGreatJD
import Derived.Test.YtfjmoicellpnhaaGreatJA
namespace Go.Proofs.YtfjmoicellpnhaaGreat
open Go.RowKit
open List renaming getElem?_eq_getElem→a_,getElem?_eq_some_iff→b_,getD_eq_getElem?_getD→c_,getElem?_take→d_,mem_of_getElem? →e_,mem_map→h_,getElem?_append_left→i_,mem_flatMap→j_,nodup_append→l_,all_cons→n_,mem_append→q_,getElem?_map→t_,all_eq_true→v_,length_cons→w_,take_sublist→x_,mem_append_right→y_,mem_iff_getElem? →z_,mem_append_left→A_,getElem?_append_right→B_,length_map→C_,replicate→E_,flatMap_cons→G_,cons_append→H_,nodup_nil→I_,map_cons→K_,length_take→M_,getElem?_replicate→N_,getElem?_cons_zero→P_,getElem?_cons_succ→Q_,append_nil→R_,getElem?_set_self→T_,getElem?_toArray→U_,getElem?_append→W_,map_congr_left→X_,getD_cons_zero→Y_,getD_cons_succ→Z_,take_succ_cons→a_a,drop_succ_cons→a_b,set_cons_zero→a_c,set_cons_succ→a_d,size_toArray→a_h,getElem_inj→a_k,getElem_mem→a_m,nodup_cons→a_n,nil_append→a_p,length_nil→a_q,take_zero→a_t,drop_zero→a_u,take_nil→a_v,drop_nil→a_w,flatMap→a_A,map_nil→a_B,all_nil→a_E
open Option renaming map_eq_some_iff→f_,getD_some→k_,map_some→S_,getD_none→a_l,map_none→a_r
open Bool renaming and_eq_true→g_,not_false→J_,not_true→L_,not_eq_eq_eq_not→V_,false_eq_true→a_e,not_eq_false'→a_g,not_eq_true'→a_j,and_true→a_x,true_and→a_y,and_self→a_z
open Or renaming inr→m_,inl→r_
open Value renaming oneCell'→o_
open Nat renaming le_trans→p_,le_refl→s_,zero_le→u_,lt_of_lt_of_le→D_,add_sub_cancel_left→O_,zero_add→a_C,add_zero→a_D,le_of_eq→a_F
open Option.some renaming injEq→F_
set_option linter.unusedSimpArgs false
set_option linter.unusedVariables false
inductive IC where
 |reg (dr:Bool) (ops:List IOp)
 |regN (b:Bool) (Ts:List Nat) (ops:List IOp)
 |seq (x y:IC)
 |cond (c:Opd) (x y:IC)
 |block (id:Nat) (x:IC)
 |loop (x:IC)
 |exit (id:Nat)
 |ret
 |skip
def adO(is:List IOp):List Nat:=(is.filterMap fun o=>qA o.i).filter fun t=>is.all fun o=>match o.d with|some u=>u !=t|none=>true
def agn(is:List IOp):Bool:=is.any fun o=>match o.i with
 | .store _ (.t x) _=>is.any fun q=>q.d==some x && (match q.i with
   | .iad .. =>true
   | .fad _ (.t y)=>is.any fun r=>r.d==some y && (match r.i with| .iad .. =>true|_=>false)
   |_=>false)
 |_=>false
def ac8(ops:List Oper)(is:List IOp):Option IC:=
 if(xE ops is && !(is.any fun o=>o.i.isC)) && !agn is then some (.reg true is)
 else if IE [] ops is then some (.regN (xE ops is) [] is)
 else if IE (adO is) ops is then some (.regN (xE ops is) (adO is) is)
 else if xE ops is then some (.reg true is)
 else if IE (1000000::adO is) ops is then some (.regN (xE ops is) (1000000::adO is) is)else none
theorem rU{ops:List Oper}{is:List IOp}{c:IC}(h:ac8 ops is=some c):(c= .reg true is∧xE ops is=true)∨∃Ts,c= .regN (xE ops is) Ts is∧IE Ts ops is=true:=by
 unfold ac8 at h
 split at h
 ·next h1=>simp only[g_]at h1;injection h with h;exact r_ ⟨h.symm,h1.1.1⟩
 ·split at h
  ·next h1=>injection h with h;exact m_ ⟨_,h.symm,h1⟩
  ·split at h
   ·next h1=>injection h with h;exact m_ ⟨_,h.symm,h1⟩
   ·split at h
    ·next h1=>injection h with h;exact r_ ⟨h.symm,h1⟩
    ·split at h
     ·next h1=>injection h with h;exact m_ ⟨_,h.symm,h1⟩
     ·cases h
def ay(P:Program):Code→Option IC
 | .region id ops false=>(mX P ops ops.toList).map (IC.reg false)
 | .region id ops true=>(match mX P ops ops.toList with|some is=>if P.follows .mixedOrders then ac8 ops.toList is else none|none=>none)
 | .seq x y=>(match ay P x,ay P y with|some x,some y=>some (.seq x y)|_,_=>none)
 | .cond c x y=>(match ay P x,ay P y with|some x,some y=>some (.cond (opd c) x y)|_,_=>none)
 | .block id x=>(ay P x).map (IC.block id)
 | .loop x=>(ay P x).map IC.loop
 | .exit id=>some (.exit id)
 | .ret=>some .ret
 | .skip=>some .skip
 | .label _=>some .skip
 |_=>none
theorem oL{P:Program}{id:Nat}{ops:Array Oper}{b:Bool}{c:IC}(h:ay P (.region id ops b)=some c)(hc:∀d l,c≠ .reg d l)(hn:∀b T l,c≠ .regN b T l):False:=by
 cases b with
 | false=>
   simp only[ay]at h
   obtain⟨l,_,he⟩:=f_.1 h
   exact hc _ _ he.symm
 | true=>
   simp only[ay]at h
   split at h
   ·split at h
    ·rcases rU h with⟨h,_⟩|⟨Ts,h,_⟩
     ·exact hc _ _ h
     ·exact hn _ _ _ h
    ·cases h
   ·cases h
def dK(lo:Nat×Nat)(P:Program)(c:IC)(Q:Exit→St→Prop)(st:St):Prop:=
 ∀(code:Code),ay P code=some c→∀(B:Nat) (Xs:List Nat) (G:Org) (w0:World),(G.os.length≤lo.1∧G.E.bm.length≤lo.2)→∀(E:Env) (a:Act) (w:World),Rel B Xs G w0 st E a w→code.wp P (fun e a' w'=>∃st' E',Rel B Xs G w0 st' E' a' w'∧Q e st') a w
abbrev AWP(P:Program)(c:IC)(Q:Exit→St→Prop)(st:St):Prop:=dK (0,0) P c Q st
def Ou(lo:Nat×Nat)(P:Program)(y:IC)(Q:Exit→St→Prop):Exit→St→Prop
 | .normal,st=>dK lo P y Q st
 |e,st=>Q e st
def Dx(id:Nat)(Q:Exit→St→Prop):Exit→St→Prop
 | .exit id',st=>if id'=id then Q .normal st else Q (.exit id') st
 |e,st=>Q e st
section
variable{lo:Nat×Nat}{P:Program}{Q:Exit→St→Prop}{st:St}
theorem ado{c:IC}{Q':Exit→St→Prop}(h:dK lo P c Q st)(hq:∀e st,Q e st→Q' e st):dK lo P c Q' st:=
 fun code hc B Xs G w0 hG E a w hR=>wp_mono (h code hc B Xs G w0 hG E a w hR) fun e a' w' ⟨st',E',h1,h2⟩=>⟨st',E',h1,hq e st' h2⟩
theorem lN(h:Q .normal st):dK lo P .skip Q st:=fun code hc B Xs G w0 hG E a w hR=>by
 cases code with
 |skip=>exact wp_skip ⟨st,E,hR,h⟩
 |label l=>exact wp_label ⟨st,E,hR,h⟩
 |region id ops b=>exact(oL hc (by simp) (by simp)).elim
 |seq x y=>simp only[ay]at hc;split at hc<;>simp at hc
 |cond c x y=>simp only[ay]at hc;split at hc<;>simp at hc
 |block id x=>simp[ay]at hc
 |loop x=>simp[ay]at hc
 |exit id=>simp[ay]at hc
 |ret=>simp[ay]at hc
 |rangeFunc=>simp[ay]at hc
 |scope=>simp[ay]at hc
 |goto=>simp[ay]at hc
 |refuse=>simp[ay]at hc
theorem lQ{id:Nat}(h:Q (.exit id) st):dK lo P (.exit id) Q st:=fun code hc B Xs G w0 hG E a w hR=>by
 cases code with
 |exit id=>simp[ay]at hc;subst hc;exact wp_exit ⟨st,E,hR,h⟩
 |skip=>simp[ay]at hc
 |label l=>simp[ay]at hc
 |region id ops b=>exact(oL hc (by simp) (by simp)).elim
 |seq x y=>simp only[ay]at hc;split at hc<;>simp at hc
 |cond c x y=>simp only[ay]at hc;split at hc<;>simp at hc
 |block id x=>simp[ay]at hc
 |loop x=>simp[ay]at hc
 |ret=>simp[ay]at hc
 |rangeFunc=>simp[ay]at hc
 |scope=>simp[ay]at hc
 |goto=>simp[ay]at hc
 |refuse=>simp[ay]at hc
theorem oP(h:Q .ret st):dK lo P .ret Q st:=fun code hc B Xs G w0 hG E a w hR=>by
 cases code with
 |ret=>exact wp_ret ⟨st,E,hR,h⟩
 |exit id=>simp[ay]at hc
 |skip=>simp[ay]at hc
 |label l=>simp[ay]at hc
 |region id ops b=>exact(oL hc (by simp) (by simp)).elim
 |seq x y=>simp only[ay]at hc;split at hc<;>simp at hc
 |cond c x y=>simp only[ay]at hc;split at hc<;>simp at hc
 |block id x=>simp[ay]at hc
 |loop x=>simp[ay]at hc
 |rangeFunc=>simp[ay]at hc
 |scope=>simp[ay]at hc
 |goto=>simp[ay]at hc
 |refuse=>simp[ay]at hc
theorem oO{x y:IC}(h:dK lo P x (Ou lo P y Q) st):dK lo P (.seq x y) Q st:=fun code hc B Xs G w0 hG E a w hR=>by
 cases code with
 | seq cx cy=>
   simp only[ay]at hc
   split at hc
   ·next x' y' hx hy=>
    simp only[F_,IC.seq.injEq]at hc
    obtain⟨rfl,rfl⟩:=hc
    refine wp_seq (wp_mono (h cx hx B Xs G w0 hG E a w hR) ?_)
    rintro e a' w' ⟨st',E',h1,h2⟩
    cases e with
    |normal=>exact h2 cy hy B Xs G w0 hG E' a' w' h1
    |_=>exact⟨st',E',h1,h2⟩
   ·cases hc
 |ret=>simp[ay]at hc
 |exit id=>simp[ay]at hc
 |skip=>simp[ay]at hc
 |label l=>simp[ay]at hc
 |region id ops b=>exact(oL hc (by simp) (by simp)).elim
 |cond c x y=>simp only[ay]at hc;split at hc<;>simp at hc
 |block id x=>simp[ay]at hc
 |loop x=>simp[ay]at hc
 |rangeFunc=>simp[ay]at hc
 |scope=>simp[ay]at hc
 |goto=>simp[ay]at hc
 |refuse=>simp[ay]at hc
theorem I5{c:Opd}{x y:IC}{b:Bool}(hb:st.ev c= .c false [.raw (.bool b)])(h1:b=true→dK lo P x Q st)(h2:b=false→dK lo P y Q st):dK lo P (.cond c x y) Q st:=fun code hc B Xs G w0 hG E a w hR=>by
 cases code with
 | cond o cx cy=>
   simp only[ay]at hc
   split at hc
   ·next x' y' hx hy=>
    simp only[F_,IC.cond.injEq]at hc
    obtain⟨rfl,rfl,rfl⟩:=hc
    have he:=dY hR hb
    cases b with
    |true=>exact wp_cond_true he (h1 rfl cx hx B Xs G w0 hG E a w hR)
    |false=>exact wp_cond_false he (h2 rfl cy hy B Xs G w0 hG E a w hR)
   ·cases hc
 |seq x y=>simp only[ay]at hc;split at hc<;>simp at hc
 |ret=>simp[ay]at hc
 |exit id=>simp[ay]at hc
 |skip=>simp[ay]at hc
 |label l=>simp[ay]at hc
 |region id ops b=>exact(oL hc (by simp) (by simp)).elim
 |block id x=>simp[ay]at hc
 |loop x=>simp[ay]at hc
 |rangeFunc=>simp[ay]at hc
 |scope=>simp[ay]at hc
 |goto=>simp[ay]at hc
 |refuse=>simp[ay]at hc
theorem jQ{id:Nat}{x:IC}(h:dK lo P x (Dx id Q) st):dK lo P (.block id x) Q st:=fun code hc B Xs G w0 hG E a w hR=>by
 cases code with
 | block id' cx=>
   simp only[ay]at hc
   obtain⟨x',hx,he⟩:=f_.1 hc
   simp only[IC.block.injEq]at he
   obtain⟨rfl,rfl⟩:=he
   refine wp_block (wp_mono (h cx hx B Xs G w0 hG E a w hR) ?_)
   rintro e a' w' ⟨st',E',h1,h2⟩
   cases e with
   | exit j=>
     simp only[Exit.inBlock,Dx]at h2⊢
     split
     ·next e=>rw[if_pos e]at h2;exact⟨st',E',h1,h2⟩
     ·next e=>rw[if_neg e]at h2;exact⟨st',E',h1,h2⟩
   |_=>exact⟨st',E',h1,h2⟩
 |cond c x y=>simp only[ay]at hc;split at hc<;>simp at hc
 |seq x y=>simp only[ay]at hc;split at hc<;>simp at hc
 |ret=>simp[ay]at hc
 |exit id=>simp[ay]at hc
 |skip=>simp[ay]at hc
 |label l=>simp[ay]at hc
 |region id ops b=>exact(oL hc (by simp) (by simp)).elim
 |loop x=>simp[ay]at hc
 |rangeFunc=>simp[ay]at hc
 |scope=>simp[ay]at hc
 |goto=>simp[ay]at hc
 |refuse=>simp[ay]at hc
theorem iM{ops:List IOp}(h:∀K:St→Prop,(∀st',Q .normal st'→K st')→sw P K ops st):dK lo P (.reg false ops) Q st:=fun code hc B Xs G w0 hG E a w hR=>by
 cases code with
 | region id cops b=>
   cases b with
   | true=>
     simp only[ay]at hc
     split at hc
     ·split at hc
      ·rcases rU hc with⟨hc,_⟩|⟨Ts,hc,_⟩<;>simp at hc
      ·cases hc
     ·cases hc
   | false=>
     simp only[ay]at hc
     obtain⟨l,hl,he⟩:=f_.1 hc
     simp only[IC.reg.injEq]at he
     obtain⟨_,rfl⟩:=he
     exact wp_region_list (BX (K:=Q .normal) (fun st' E' a' w' h1 h2=>⟨st',E',h1,h2⟩) _ _ st E a w hl hR (h _ fun _ h=>h))
 |block id x=>simp[ay]at hc
 |cond c x y=>simp only[ay]at hc;split at hc<;>simp at hc
 |seq x y=>simp only[ay]at hc;split at hc<;>simp at hc
 |ret=>simp[ay]at hc
 |exit id=>simp[ay]at hc
 |skip=>simp[ay]at hc
 |label l=>simp[ay]at hc
 |loop x=>simp[ay]at hc
 |rangeFunc=>simp[ay]at hc
 |scope=>simp[ay]at hc
 |goto=>simp[ay]at hc
 |refuse=>simp[ay]at hc
theorem mP{ops:List IOp}(m:Bool)(hm:m=ops.any fun o=>o.i.cls==3)(h:∀K:St→Prop,(∀st',Q .normal st'→K st')→sd P m K ops st):dK lo P (.reg true ops) Q st:=fun code hc B Xs G w0 hG E a w hR=>by
 cases code with
 | region id cops b=>
   cases b with
   | false=>
     simp only[ay]at hc
     obtain⟨l,hl,he⟩:=f_.1 hc
     simp at he
   | true=>
     simp only[ay]at hc
     split at hc
     ·next l hl=>
      split at hc
      ·next hd=>
       rcases rU hc with⟨hc,hb⟩|⟨Ts,hc,_⟩
       ·simp only[IC.reg.injEq]at hc
        obtain⟨_,rfl⟩:=hc
        exact afl (K:=Q .normal) hd hl hb hm (fun st' E' a' w' h1 h2=>⟨st',E',h1,h2⟩) (h _ fun _ h=>h) hR
       ·cases hc
      ·cases hc
     ·cases hc
 |block id x=>simp[ay]at hc
 |cond c x y=>simp only[ay]at hc;split at hc<;>simp at hc
 |seq x y=>simp only[ay]at hc;split at hc<;>simp at hc
 |ret=>simp[ay]at hc
 |exit id=>simp[ay]at hc
 |skip=>simp[ay]at hc
 |label l=>simp[ay]at hc
 |loop x=>simp[ay]at hc
 |rangeFunc=>simp[ay]at hc
 |scope=>simp[ay]at hc
 |goto=>simp[ay]at hc
 |refuse=>simp[ay]at hc
theorem LK{ops:List IOp}{Ts:List Nat}(m:Bool)(hm:m=ops.any fun o=>o.i.cls==3)(h:∀K:St→Prop,(∀st',Q .normal st'→K st')→sd P m K ops st):dK lo P (.regN true Ts ops) Q st:=fun code hc B Xs G w0 hG E a w hR=>by
 cases code with
 | region id cops b=>
   cases b with
   | false=>
     simp only[ay]at hc
     obtain⟨l,hl,he⟩:=f_.1 hc
     simp at he
   | true=>
     simp only[ay]at hc
     split at hc
     ·next l hl=>
      split at hc
      ·next hd=>
       rcases rU hc with⟨hc,hb⟩|⟨Ts,hc,_⟩
       ·cases hc
       ·simp only[IC.regN.injEq]at hc
        obtain⟨hb,_,rfl⟩:=hc
        exact afl (K:=Q .normal) hd hl hb.symm hm (fun st' E' a' w' h1 h2=>⟨st',E',h1,h2⟩) (h _ fun _ h=>h) hR
      ·cases hc
     ·cases hc
 |block id x=>simp[ay]at hc
 |cond c x y=>simp only[ay]at hc;split at hc<;>simp at hc
 |seq x y=>simp only[ay]at hc;split at hc<;>simp at hc
 |ret=>simp[ay]at hc
 |exit id=>simp[ay]at hc
 |skip=>simp[ay]at hc
 |label l=>simp[ay]at hc
 |loop x=>simp[ay]at hc
 |rangeFunc=>simp[ay]at hc
 |scope=>simp[ay]at hc
 |goto=>simp[ay]at hc
 |refuse=>simp[ay]at hc
theorem aF{ops:List IOp}{Ts:List Nat}{b:Bool}(kc:Nat)(m:Bool)(hD:eu Ts st)(h:∀K:St→Prop,(∀st',Q .normal st'→K st')→sn P kc m Ts K ops st)(hS:aat Ts=true→∀y∈Ts,∀k off,st.ev (.t y)= .bptr k off→k=kc:=by first|(intro h;exact absurd h (by decide))|(simp[aat,St.ev,List.getD_cons_zero,List.getD_cons_succ];done)):dK lo P (.regN b Ts ops) Q st:=fun code hc B Xs G w0 hG E a w hR=>by
 cases code with
 | region id cops b=>
   cases b with
   | false=>
     simp only[ay]at hc
     obtain⟨l,hl,he⟩:=Option.map_eq_some_iff.1 hc
     simp at he
   | true=>
     simp only[ay]at hc
     split at hc
     ·next l hl=>
      split at hc
      ·next hd=>
       rcases rU hc with⟨hc,hb⟩|⟨Ts,hc,hb⟩
       ·cases hc
       ·simp only[IC.regN.injEq]at hc
        obtain⟨_,rfl,rfl⟩:=hc
        exact agI (K:=Q .normal) (kc:=kc) (m:=m) hd hl hb ⟨hD,hS⟩ (fun st' E' a' w' h1 h2=>⟨st',E',h1,h2⟩) (h _ fun _ h=>h) hR
      ·cases hc
     ·cases hc
 |block id x=>simp[ay]at hc
 |cond c x y=>simp only[ay]at hc;split at hc<;>simp at hc
 |seq x y=>simp only[ay]at hc;split at hc<;>simp at hc
 |ret=>simp[ay]at hc
 |exit id=>simp[ay]at hc
 |skip=>simp[ay]at hc
 |label l=>simp[ay]at hc
 |loop x=>simp[ay]at hc
 |rangeFunc=>simp[ay]at hc
 |scope=>simp[ay]at hc
 |goto=>simp[ay]at hc
 |refuse=>simp[ay]at hc
theorem bF{st:St}:eu [] st:=fun x hx=>by simp at hx
def AC.fits(n m:Nat):AC→Bool
 | .own k _=>decide (k<n)
 | .osub k _ _ _=>decide (k<n)
 | .cl _ caps=>caps.all fun k=>decide (k<m)
 |_=>true
def AV.fits(n m:Nat):AV→Bool
 | .c _ xs=>xs.all (AC.fits n m)
 | .ptr xs=>xs.all (AC.fits n m)
 | .bptr k _=>decide (k<m)
 | .eptr k _ _ _=>decide (k<n)
 | .tup ys=>ys.all fun y=>y.2.all (AC.fits n m)
 | .any=>true
def aX(n m:Nat):List AV→List AV→Prop
 | [],[]=>True
 |x::xs,y::ys=>(y= .any∨(x=y∧y.fits n m=true))∧aX n m xs ys
 |_,_=>False
def ZV(st st':St):Prop:=aX st'.owns.length st'.boxes.length st.fr st'.fr∧(∃r,st.owns=st'.owns++r)∧(∃r,st.boxes=st'.boxes++r)∧∀xs∈st'.boxes,xs.all (AC.fits st'.owns.length st'.boxes.length)=true
def aK :List Own→List Own→Prop
 |_,[]=>True
 |o::os,o'::os'=>(o.l=o'.l∧o.e=o'.e∧o.s=o'.s∧o.ver=o'.ver∧o.nw=o'.nw)∧aK os os'
 | [],_::_=>False
def aN :List (List AC)→List (List AC)→Prop
 |_,[]=>True
 |x::xs,y::ys=>x=y∧aN xs ys
 | [],_::_=>False
def aO(st st':St):Prop:=aX st'.owns.length st'.boxes.length st.fr st'.fr∧aK st.owns st'.owns∧aN st.boxes st'.boxes∧(st'.boxes.all fun xs=>xs.all (AC.fits st'.owns.length st'.boxes.length))=true
theorem uS :∀{os os':List Own},aK os os'→∃r,os=os'++r
 |os,[],_=>⟨os,rfl⟩
 | o::os,o'::os',h=>by
   obtain⟨r,hr⟩:=uS h.2
   obtain⟨⟨h1,h2,h3,h4,h5⟩,_⟩:=h
   refine⟨r, ?_⟩
   rw[H_,← hr]
   congr 1
   cases o;cases o';simp_all
 | [],_::_,h=>h.elim
theorem vI :∀{xs ys:List (List AC)},aN xs ys→∃r,xs=ys++r
 |xs,[],_=>⟨xs,rfl⟩
 | x::xs,y::ys,h=>by
   obtain⟨r,hr⟩:=vI h.2
   exact⟨r,by rw[H_,← hr,h.1]⟩
 | [],_::_,h=>h.elim
theorem EX{st st':St}(h:aO st st'):ZV st st':=by
 obtain⟨h1,h2,h3,h4⟩:=h
 exact⟨h1,uS h2,vI h3,fun xs hx=>v_.1 h4 xs hx⟩
section
variable{E:Env}{os os':List Own}{w:World}{n m:Nat}
def Env.cut(E:Env)(n m:Nat):Env:={E with om:=E.om.take n,bm:=E.bm.take m}
theorem Yd{b:Nat}(h:b∈(E.cut n m).M):b∈E.M:=by
 rcases jh.1 h with⟨k,p,h1,h2⟩|⟨k,p,h1,h2⟩
 ·refine jh.2 (r_ ⟨k,p, ?_,h2⟩)
  simp only[Env.cut]at h1
  rw[d_]at h1
  split at h1
  ·exact h1
  ·cases h1
 ·refine jh.2 (m_ ⟨k,p, ?_,h2⟩)
  simp only[Env.cut]at h1
  rw[d_]at h1
  split at h1
  ·exact h1
  ·cases h1
theorem AC.ok.cut{r:List Own}{x:AC}{v:Value}(h:x.ok E (os++r) w v)(hn:os.length=n)(hf:x.fits n m=true):x.ok (E.cut n m) os w v:=by
 cases x with
 |any=>trivial
 |raw u=>exact h
 | cl f caps=>
   obtain⟨ps,h1,h2⟩:=h
   refine⟨ps, ?_,h2⟩
   rw[← h1]
   refine X_ fun k hk=> ?_
   have:k<m:=by simpa using v_.1 hf k hk
   simp only[Env.cut]
   rw[d_,if_pos this]
 | sl b l=>
   obtain⟨fp,h1,h2⟩:=h
   exact⟨fp,h1,fun b hb=>⟨fun hm=>(h2 b hb).1 (Yd hm),(h2 b hb).2⟩⟩
 | own k i=>
   obtain⟨hv,o,p,h1,h2,h3,h4⟩:=h
   have hk:k<n:=by simpa[AC.fits]using hf
   refine⟨hv,o,p, ?_, ?_,h3,h4⟩
   ·rwa[i_ (by omega)]at h1
   ·simp only[Env.cut]
    rw[d_,if_pos hk]
    exact h2
 | osub k i pa pb=>
   obtain⟨hv,o,p,h1,h2,h3,h4⟩:=h
   have hk:k<n:=by simpa[AC.fits]using hf
   refine⟨hv,o,p, ?_, ?_,h3,h4⟩
   ·rwa[i_ (by omega)]at h1
   ·simp only[Env.cut]
    rw[d_,if_pos hk]
    exact h2
theorem Oks.cut{r:List Own}(hn:os.length=n):∀{xs:List AC} {vs:List Value},Oks E (os++r) w xs vs→xs.all (AC.fits n m)=true→Oks (E.cut n m) os w xs vs
 | [],[],_,_=>trivial
 | x::xs,v::vs,h,hf=>by
   simp only[n_,g_]at hf
   exact⟨h.1.cut hn hf.1,Oks.cut hn h.2 hf.2⟩
 | [],_::_,h,_=>h.elim
 |_::_,[],h,_=>h.elim
theorem Gok.cut{r:List Own}(hn:os.length=n){g:Bool}{xs:List AC}{v:Value}(h:Gok E (os++r) w g xs v)(hf:xs.all (AC.fits n m)=true):Gok (E.cut n m) os w g xs v:=by
 cases g with
 |true=>obtain⟨vs,h1,h2⟩:=h;exact⟨vs,h1,h2.cut hn hf⟩
 |false=>exact Oks.cut hn (show Oks _ _ _ xs [v] from h) hf
theorem tZ.cut{r:List Own}(hn:os.length=n):∀{ys:List (Bool×List AC)} {vs:List Value},tZ E (os++r) w ys vs→(ys.all fun y=>y.2.all (AC.fits n m))=true→tZ (E.cut n m) os w ys vs
 | [],[],_,_=>trivial
 | x::xs,v::vs,h,hf=>by
   simp only[n_,g_]at hf
   exact⟨h.1.cut hn hf.1,tZ.cut hn h.2 hf.2⟩
 | [],_::_,h,_=>h.elim
 |_::_,[],h,_=>h.elim
theorem AV.ok.cut{r:List Own}(hn:os.length=n){x:AV}{v:Value}(h:x.ok E (os++r) w v)(hf:x.fits n m=true):x.ok (E.cut n m) os w v:=by
 cases x with
 |any=>trivial
 |c g xs=>exact Gok.cut hn h hf
 | ptr xs=>
   obtain⟨b,o,vs,h1,h2,h3,h4,h5⟩:=h
   exact⟨b,o,vs,h1,h2,fun hm=>h3 (Yd hm),h4,h5.cut hn hf⟩
 | bptr k off=>
   obtain⟨p,h1,h2⟩:=h
   refine⟨p, ?_,h2⟩
   simp only[Env.cut]
   rw[d_,if_pos (by simpa[AV.fits]using hf)]
   exact h1
 | eptr k i j off=>
   obtain⟨o,p,h1,h2,h3,h4⟩:=h
   have hk:k<n:=by simpa[AV.fits]using hf
   refine⟨o,p, ?_, ?_,h3,h4⟩
   ·rwa[i_ (by omega)]at h1
   ·simp only[Env.cut]
    rw[d_,if_pos hk]
    exact h2
 | tup ys=>
   obtain⟨vs,h1,h2⟩:=h
   exact⟨vs,h1,h2.cut hn hf⟩
end
theorem Rw{n m:Nat}:∀{xs ys:List AV},aX n m xs ys→xs.length=ys.length∧∀(t:Nat) (y:AV),ys[t]? =some y→y= .any∨(xs[t]? =some y∧y.fits n m=true)
 | [],[],_=>⟨rfl,fun t y h=>by simp at h⟩
 | x ::xs,y::ys,h=>by
   obtain⟨h1,h2⟩:=Rw h.2
   refine⟨by simp[h1],fun t z hz=> ?_⟩
   cases t with
   | zero=>
     simp at hz
     subst hz
     rcases h.1 with h'|⟨h',h''⟩
     ·exact r_ h'
     ·exact m_ ⟨by simp[h'],h''⟩
   |succ t=>simpa using h2 t z (by simpa using hz)
 | [],_::_,h=>h.elim
 |_::_,[],h=>h.elim
theorem Rel.weak{B:Nat}{Xs:List Nat}{G:Org}{w0:World}{st st':St}{E:Env}{a:Act}{w:World}(h:Rel B Xs G w0 st E a w)(hle:ZV st st')(hG1:G.os.length≤st'.owns.length)(hG2:G.E.bm.length≤st'.boxes.length):∃E',Rel B Xs G w0 st' E' a w:=by
 obtain⟨h1,⟨r1,h2⟩,⟨r2,h3⟩,h4⟩:=hle
 obtain⟨hl,hf⟩:=Rw h1
 obtain⟨fr,os,bs⟩:=st
 obtain⟨fr',os',bs'⟩:=st'
 simp only at h2 h3 h1 hl hf h4
 subst h2 h3
 have hol:=h.olen
 have hbl:=h.blen
 simp only[List.length_append]at hol hbl
 refine⟨E.cut os'.length bs'.length, ?_⟩
 exact
  { eb:=h.eb
    ex:=h.ex
    sim := { base:=h.sim.base,size:=h.sim.size,blk:=h.sim.blk,old:=fun b hb hm=>h.sim.old b hb (Yd hm),
             own:=fun k o p g1 g2=>by
              obtain⟨o',p',q1,q2,q3⟩:=h.sim.own k o p g1 g2
              have hk:k<os'.length:=D_ (b_.1 g1).1 hG1
              refine⟨o',p', ?_, ?_,q3⟩
              ·simp only at q1⊢
               rwa[i_ hk]at q1
              ·simp only[Env.cut]
               rw[d_,if_pos hk];exact q2
             box:=fun k p g=>by
              have hk:k<bs'.length:=D_ (b_.1 g).1 hG2
              simp only[Env.cut]
              rw[d_,if_pos hk];exact h.sim.box k p g}
    defers:=h.defers
    size:=by rw[h.size];exact hl
    fr:=fun t y hy=>by
     rcases hf t y hy with rfl|⟨h5,h6⟩
     ·trivial
     ·exact(h.fr t y h5).cut rfl h6
    olen:=by simp only[Env.cut,M_];omega
    own:=fun k o p g1 g2=>by
     have hk:k<os'.length:=(b_.1 g1).1
     simp only[Env.cut]at g2
     rw[d_,if_pos hk]at g2
     obtain⟨cs,h5,h6,h7,h8⟩:=h.own k o p (by simp only;rw[i_ hk];exact g1) g2
     exact⟨cs,h5,h6,h7,fun b hb=>⟨fun hm=>(h8 b hb).1 (Yd hm),(h8 b hb).2⟩⟩
    blen:=by simp only[Env.cut,M_];omega
    box:=fun k xs p g1 g2=>by
     have hk:k<bs'.length:=(b_.1 g1).1
     simp only[Env.cut]at g2
     rw[d_,if_pos hk]at g2
     obtain⟨h5,vs,h6,h7⟩:=h.box k xs p (by simp only;rw[i_ hk];exact g1) g2
     exact⟨h5,vs,h6,h7.cut rfl (h4 xs (e_ g1))⟩
    nodup:=by
     have:=h.nodup
     unfold Env.M at this⊢
     rw[l_]at this⊢
     refine⟨this.1.sublist (by simp only[Env.cut];exact(x_ _ _).map _),this.2.1.sublist (by
      simp only[Env.cut]
      have e:=congrArg (a_A (fun p:Value×List Nat=>p.1.ownBlock.toList)) (List.take_append_drop os'.length E.om)
      rw[List.flatMap_append]at e
      rw[← e]
      exact List.sublist_append_left _ _),fun x hx y hy=> ?_⟩
     refine this.2.2 x ?_ y ?_
     ·exact((x_ bs'.length E.bm).map _).subset hx
     ·obtain⟨p,hp,hpy⟩:=j_.1 hy
      exact j_.2 ⟨p,List.mem_of_mem_take hp,hpy⟩
    lin:=by
     refine h.lin.map (fun k=>k) (fun j k e _ _=>e) fun k o p g1 g2 g3=>m_ ⟨o, ?_, ?_,g3⟩
     ·simp only;rw[i_ (b_.1 g1).1];exact g1
     ·simp only[Env.cut]at g2
      rwa[d_,if_pos (b_.1 g1).1]at g2
    unf:=by
     refine h.unf.map (fun k=>k) fun k o p g1 g2 g3=>m_ ⟨o, ?_, ?_,g3⟩
     ·simp only;rw[i_ (b_.1 g1).1];exact g1
     ·simp only[Env.cut]at g2
      rwa[d_,if_pos (b_.1 g1).1]at g2
    below:=h.below
    base:=h.base}
theorem ZJ{c:IC}{st':St}(hle:ZV st st')(h1:lo.1≤st'.owns.length)(h2:lo.2≤st'.boxes.length)(h:dK lo P c Q st'):dK lo P c Q st:=fun code hc B Xs G w0 hG E a w hR=>by
 obtain⟨E',hR'⟩:=hR.weak hle (p_ hG.1 h1) (p_ hG.2 h2)
 exact h code hc B Xs G w0 hG E' a w hR'
theorem BU{P:Program}{Q:Exit→Act→World→Prop}{a:Act}{w:World}{c:Code}(I:Nat→Act→World→Prop)(n:Nat)(h₀:I n a w)
 (round:∀n a w,I n a w→c.wp P (Exit.then (fun a' w'=>∃m,m<n∧I m a' w') Q) a w):(Code.loop c).wp P Q a w:=by
 intro b k cs
 have key:∀n a w,I n a w→∃e a' w',Q e a' w'∧Arrives P (lone (b.at a (.code c:: .inLoop c::k)) cs w) b k cs e a' w':=by
  intro n
  induction n using Nat.strongRecOn with
  | _ n ih=>
    intro a w hI
    obtain⟨e,a₁,w₁,hq,harr⟩:=round n a w hI b (.inLoop c::k) cs
    cases e with
    | normal=>
      obtain⟨m,hlt,hI₁⟩:=hq
      obtain⟨e₂,a₂,w₂,hq₂,harr₂⟩:=ih m hlt a₁ w₁ hI₁
      exact⟨e₂,a₂,w₂,hq₂,.of_steps (Steps.trans harr (.one step_inLoop)) harr₂⟩
    |exit id=>exact⟨_,a₁,w₁,hq,.pass (x:= .inLoop c) rfl (fun _ _=> .inl (by simp)) harr⟩
    |goto l=>exact⟨_,a₁,w₁,hq,.pass (x:= .inLoop c) rfl (fun _ _=> .inl (by simp)) harr⟩
    |ret=>exact⟨_,a₁,w₁,hq,.pass (x:= .inLoop c) rfl (fun _ _=> .inl (by simp)) harr⟩
    |panic ch=>exact⟨_,a₁,w₁,hq,.pass (x:= .inLoop c) rfl (fun _ _=> .inl (by simp)) harr⟩
    |outgrown=>exact⟨_,a₁,w₁,hq,.pass (x:= .inLoop c) rfl (fun _ _=> .inl (by simp)) harr⟩
 obtain⟨e,a',w',hq,harr⟩:=key n a w h₀
 exact⟨e,a',w',hq,.of_steps (.one step_loop) harr⟩
def Aa{X:Type}(F:X→St)(inv:X→Prop)(μ:X→Nat)(x:X)(Q:Exit→St→Prop):Exit→St→Prop
 | .normal,st=>∃x',ZV st (F x')∧inv x'∧μ x'<μ x
 |e,st=>Q e st
theorem LM{X:Type}{c:IC}(F:X→St)(inv:X→Prop)(μ:X→Nat)(x0:X)(h0:inv x0)(hlo:∀x,lo.1≤(F x).owns.length∧lo.2≤(F x).boxes.length)(hle:ZV st (F x0))(round:∀x,inv x→dK lo P c (Aa F inv μ x Q) (F x)):dK lo P (.loop c) Q st:=fun code hc B Xs G w0 hG E a w hR=>by
 cases code with
 | loop cc=>
   simp only[ay]at hc
   obtain⟨c',hcc,he⟩:=f_.1 hc
   simp only[IC.loop.injEq]at he
   subst he
   obtain⟨E',hR'⟩:=hR.weak hle (p_ hG.1 (hlo _).1) (p_ hG.2 (hlo _).2)
   refine BU (fun n a w=>∃x E,μ x=n∧inv x∧Rel B Xs G w0 (F x) E a w) (μ x0) ⟨x0,E',rfl,h0,hR'⟩ ?_
   rintro n a w ⟨x,E,rfl,hx,hR⟩
   refine wp_mono (round x hx cc hcc B Xs G w0 hG E a w hR) ?_
   rintro e a' w' ⟨st',E',h1,h2⟩
   cases e with
   | normal=>
     obtain⟨x',h3,h4,h5⟩:=h2
     obtain⟨E'',h6⟩:=h1.weak h3 (p_ hG.1 (hlo _).1) (p_ hG.2 (hlo _).2)
     exact⟨μ x',h5,x',E'',rfl,h4,h6⟩
   |_=>exact⟨st',E',h1,h2⟩
 |region id cops b=>exact(oL hc (by simp) (by simp)).elim
 |block id x=>simp[ay]at hc
 |cond c x y=>simp only[ay]at hc;split at hc<;>simp at hc
 |seq x y=>simp only[ay]at hc;split at hc<;>simp at hc
 |ret=>simp[ay]at hc
 |exit id=>simp[ay]at hc
 |skip=>simp[ay]at hc
 |label l=>simp[ay]at hc
 |rangeFunc=>simp[ay]at hc
 |scope=>simp[ay]at hc
 |goto=>simp[ay]at hc
 |refuse=>simp[ay]at hc
theorem adp{X:Type}{c:IC}(F:X→St)(inv:X→Prop)(μ:X→Nat)(x0:X)(h0:inv x0)(hle:ZV st (F x0))(round:∀x,inv x→AWP P c (Aa F inv μ x Q) (F x)):AWP P (.loop c) Q st:=
 LM F inv μ x0 h0 (fun _=>⟨u_ _,u_ _⟩) hle round
end
def stN(b:Bool)(n:Nat)(ds:List D):St:=⟨ds.map (D.avN b)++E_ (n - ds.length) (.c false [.raw undef]),[],[]⟩
def st0(n:Nat)(ds:List D):St:=⟨ds.map D.av++E_ (n - ds.length) (.c false [.raw undef]),[],[]⟩
theorem ahb{w:World}{F:List Nat}{d:D}{v:Value}{H:Nat}{b:Bool}(h:RdF w F d v):(D.avN b d).ok ⟨H,[],[],if b then F else []⟩ [] w v:=by
 unfold RdF at h
 show Gok _ _ _ d.isAgg (d.acs b) v
 unfold Gok
 have hn:∀x∈F,b=true→(⟨H,[],[],if b then F else []⟩:Env).nw x:=fun x hx e=>by subst e;exact m_ hx
 cases hg:d.isAgg with
 | true=>
   rw[hg,if_pos rfl]at h
   obtain⟨fp,cs,h1,h2,h3⟩:=h
   rw[if_pos rfl]
   exact⟨cs,h1,sJ h2 (fun x hx=>⟨by simp[Env.M],hn x (h3 x hx)⟩)⟩
 | false=>
   rw[hg,if_neg (by simp)]at h
   obtain⟨fp,h2,h3⟩:=h
   rw[if_neg (by simp)]
   exact sJ h2 (fun x hx=>⟨by simp[Env.M],hn x (h3 x hx)⟩)
theorem F8{w:World}{F:List Nat}:∀{ds:List D} {vs:List Value},Du w F ds vs→ds.length=vs.length∧∀(t:Nat) (d:D),ds[t]? =some d→∃v,vs[t]? =some v∧RdF w F d v
 | [],[],_=>⟨rfl,fun t d h=>by simp at h⟩
 | d::ds,v::vs,h=>by
   obtain⟨h1,h2⟩:=F8 h.2
   refine⟨by simp[h1],fun t x hx=> ?_⟩
   cases t with
   |zero=>simp at hx;subst hx;exact⟨v,rfl,h.1⟩
   |succ t=>simpa using h2 t x (by simpa using hx)
 | [],_::_,h=>h.elim
 |_::_,[],h=>h.elim
theorem af5{w:World}{d:D}{v:Value}(h:Rd w d v):∃F,RdF w F d v:=by
 unfold Rd at h
 unfold RdF
 split at h
 ·obtain⟨fp,cs,h1,h2⟩:=h
  exact⟨fp,by rw[if_pos (by assumption)];exact⟨fp,cs,h1,h2,fun b hb=>hb⟩⟩
 ·obtain⟨fp,h2⟩:=h
  exact⟨fp,by rw[if_neg (by assumption)];exact⟨fp,h2,fun b hb=>hb⟩⟩
theorem Pe{w:World}:∀{ds:List D} {vs:List Value},Rds w ds vs→∃F,Du w F ds vs
 | [],[],_=>⟨[],trivial⟩
 | d::ds,v::vs,h=>by
   obtain⟨F1,h1⟩:=af5 h.1
   obtain⟨F2,h2⟩:=Pe h.2
   exact⟨F1++F2,h1.mono (fun b hb=>A_ _ hb),h2.mono (fun b hb=>y_ _ hb)⟩
 | [],_::_,h=>h.elim
 |_::_,[],h=>h.elim
theorem YP{w:World}{F:List Nat}{ds:List D}{vs:List Value}(b:Bool)(h:Du w F ds vs)(ht:yP w)(n:Nat):Rel w.heap.size (if b then F else []) ⟨⟨w.heap.size,[],[],if b then F else []⟩,[],w⟩ w (stN b n ds) ⟨w.heap.size,[],[],if b then F else []⟩ {tmps:=vs.toArray++Array.replicate (n - vs.toArray.size) undef,defers:= []} w where
 eb:=s_ _
 ex:=rfl
 sim:=Sim.refl _ _ _
 defers:=rfl
 size:=by
  obtain⟨hl,_⟩:=F8 h
  simp[stN,hl]
 fr :=by
  obtain⟨hl,hg⟩:=F8 h
  intro t x hx
  simp only[stN]at hx
  rw[W_]at hx
  simp only[Array.getD_eq_getD_getElem?]
  split at hx
  ·next ht=>
   rw[t_]at hx
   obtain⟨d,hd,rfl⟩:=f_.1 hx
   obtain⟨v,hv,hr⟩:=hg t d hd
   rw[Array.getElem?_append_left (by simp at ht⊢;omega)]
   simp only[U_,hv,k_]
   exact ahb hr
  ·next ht=>
   rw[N_]at hx
   split at hx
   ·next hlt=>
    injection hx with hx
    subst hx
    simp only[C_]at ht hlt
    rw[Array.getElem?_append_right (by simp;omega),Array.getElem?_replicate]
    simp only[a_h,← hl]
    rw[if_pos hlt]
    exact⟨rfl,trivial⟩
   ·cases hx
 olen:=rfl
 own:=fun k o p h1 h2=>by simp[stN]at h1
 blen:=rfl
 box:=fun k xs p h1 h2=>by simp[stN]at h1
 nodup:=by simp[Env.M]
 lin:=Lin.nil
 unf:=Unf.nil
 below:=BelowT.start ht
 base:=s_ _
def iV(Fin:St→Prop):Exit→St→Prop
 | .normal,st=>Fin st
 | .ret,st=>Fin st
 |_,_=>False
theorem IW{P:Program}{f:Nat}{fn:Func}{code:Code}{ic:IC}{ds:List D}{Fin:St→Prop}{post:List Nat→World→Ending→World→Prop}(b:Bool)(hf:P.funcs[f]? =some fn)(hb:fn.body=some code)(hc:ay P code=some ic)
 (h:AWP P ic (iV Fin) (stN b fn.ntmps ds))
 (hfin:∀(F:List Nat) (G:Org) (w w':World) (st:St) (E:Env) (a:Act),Rel w.heap.size (if b then F else []) G w st E a w'→Fin st→∃v,(results fn a.tmps).run P w'= .ok v w'∧post F w (.returned v) w'):
 ∀(w:World) (F:List Nat) (vs:List Value),Du w F ds vs→yP w→Calls P f vs.toArray w (post F w):=by
 intro w F vs hr ht
 refine calls_of_wp hf hb ?_
 have:=h code hc w.heap.size _ _ w ⟨s_ _,s_ _⟩ _ _ w (YP b hr ht fn.ntmps)
 refine wp_mono this ?_
 rintro e a' w' ⟨st',E',h1,h2⟩
 cases e with
 | normal=>
   obtain⟨v,h3,h4⟩:=hfin F _ w w' st' E' a' h1 h2
   exact⟨h1.defers,v,h3,h4⟩
 | ret=>
   obtain⟨v,h3,h4⟩:=hfin F _ w w' st' E' a' h1 h2
   exact⟨h1.defers,v,h3,h4⟩
 |_=>exact h2.elim
theorem qP{P:Program}{f:Nat}{fn:Func}{code:Code}{ic:IC}{ds:List D}{Fin:St→Prop}{post:World→Ending→World→Prop}(hf:P.funcs[f]? =some fn)(hb:fn.body=some code)(hc:ay P code=some ic)
 (h:AWP P ic (iV Fin) (st0 fn.ntmps ds))
 (hfin:∀(G:Org) (w w':World) (st:St) (E:Env) (a:Act),Rel w.heap.size [] G w st E a w'→Fin st→∃v,(results fn a.tmps).run P w'= .ok v w'∧post w (.returned v) w'):
 ∀(w:World) (vs:List Value),Rds w ds vs→yP w→Calls P f vs.toArray w (post w):=by
 intro w vs hr ht
 obtain⟨F,hF⟩:=Pe hr
 exact IW (post:=fun _=>post) false hf hb hc h (fun F G w w' st E a hR=>hfin G w w' st E a hR) w F vs hF ht
def kN(l:List D):Prop:=∀(w:World) (f:List Nat) (cs:List Value),Rs w l f cs→f= []
def gZ(os:List Own):AC→AC→Prop
 |_,.any=>True
 | .raw v,.raw u=>v=u
 | .sl n l,.sl _ l'=>n=true∧l=l'
 | .own k i,.sl _ l=>∃o,os[k]? =some o∧o.ver=i∧o.l=l∧(o.nw.n=true∨kN l)
 | .raw v,.sl _ l=>v= .slice none 0 0∧l= []
 |_,_=>False
def pX(os:List Own):List AC→List AC→Prop
 | [],[]=>True
 |x::xs,y::ys=>gZ os x y∧pX os xs ys
 |_,_=>False
section
variable{B:Nat}{Xs:List Nat}{G:Org}{w0:World}{st:St}{E E':Env}{a:Act}{w:World}
def Dw(B:Nat)(Xs:List Nat)(E':Env):Prop:=∀b,(B≤b∨b∈Xs)→b∉E'.M∧E'.nw b
theorem E8(B:Nat):Dw B [] (qw B):=fun b hb=>by
 have:B≤b:=by simpa using hb
 exact⟨rE.2 this,r_ this⟩
theorem aea(B:Nat)(F:List Nat):Dw B F (l9 B F):=fun b hb=>⟨Au.2 hb,hb⟩
theorem Gl(h:Rel B Xs G w0 st E a w){b:Nat}(hb:E.nw b):B≤b∨b∈Xs:=by
 unfold Env.nw at hb
 rw[h.ex]at hb
 exact hb.imp_left (p_ h.eb)
theorem ZT(h:Rel B Xs G w0 st E a w)(hE:Dw B Xs E'){x y:AC}{v:Value}(hf:gZ st.owns x y)(hx:x.ok E st.owns w v):y.ok E' [] w v:=by
 cases y with
 |any=>trivial
 | raw u=>cases x with
   |raw v'=>obtain rfl:=hf;exact hx
   |_=>exact hf.elim
 | sl n l=>cases x with
   | sl n' l'=>
     obtain⟨rfl,rfl⟩:=hf
     obtain⟨fp,h1,h2⟩:=hx
     refine⟨fp,h1,fun b hb=> ?_⟩
     have hB:=hE b (Gl h ((h2 b hb).2 rfl))
     exact⟨hB.1,fun _=>hB.2⟩
   | own k i=>
     obtain⟨o,h1,h2,rfl,h3⟩:=hf
     obtain⟨_,o',p,g1,g2,g3,g4⟩:=hx
     rw[h1]at g1
     injection g1 with g1
     subst g1
     obtain rfl:=g4 h2
     obtain⟨cs,h5,h6,h7,h8⟩:=h.own k o p h1 g2
     refine⟨_,Sl.nI h5 h6,fun b hb=> ?_⟩
     have hB:E.nw b:=by
      rcases q_.1 hb with hb|hb
      ·exact h.wQ (bK.lt h5 b (by simpa using hb)).1
      ·rcases h3 with h3|h3
       ·exact(h8 b hb).2 h3
       ·rw[h3 _ _ _ h6]at hb;simp at hb
     have hB:=hE b (Gl h hB)
     exact⟨hB.1,fun _=>hB.2⟩
   | raw v'=>
     obtain⟨rfl,rfl⟩:=hf
     obtain rfl:=hx
     refine⟨[], ?_,fun b hb=>by simp at hb⟩
     unfold Sl
     rw[R]
     exact⟨none,0,rfl,s_ _,u_ _,r_ ⟨rfl,rfl⟩⟩
   |any=>exact hf.elim
   |osub _ _ _ _=>exact hf.elim
   |cl _ _=>exact hf.elim
 |own k i=>cases x<;>exact hf.elim
 |osub k i pa pb=>cases x<;>exact hf.elim
 |cl f caps=>cases x<;>exact hf.elim
theorem vM(h:Rel B Xs G w0 st E a w)(hE:Dw B Xs E'):∀{xs ys:List AC} {vs:List Value},pX st.owns xs ys→Oks E st.owns w xs vs→Oks E' [] w ys vs
 | [],[],[],_,_=>trivial
 |x::xs,y::ys,v::vs,hf,hx=>⟨ZT h hE hf.1 hx.1,vM h hE hf.2 hx.2⟩
 | [],[],_::_,_,hx=>hx.elim
 |_::_,_::_,[],_,hx=>hx.elim
 | [],_::_,_,hf,_=>hf.elim
 |_::_,[],_,hf,_=>hf.elim
theorem Rt(h:Rel B Xs G w0 st E a w)(hE:Dw B Xs E'){g:Bool}{xs ys:List AC}{v:Value}(hf:pX st.owns xs ys)(hx:Gok E st.owns w g xs v):Gok E' [] w g ys v:=by
 cases g with
 |true=>obtain⟨vs,h1,h2⟩:=hx;exact⟨vs,h1,vM h hE hf h2⟩
 |false=>exact vM h hE hf (show Oks _ _ _ xs [v] from hx)
end
theorem Es{os:List Own}:∀{xs ys:List AC},pX os xs ys→xs.length=ys.length
 | [],[],_=>rfl
 |_::xs,_::ys,h=>by rw[w_,w_,Es h.2]
 | [],_::_,h=>h.elim
 |_::_,[],h=>h.elim
def ahf(t:Nat)(g:Bool)(ys:List AC)(st:St):Prop:=∃xs,st.fr.getD t .any= .c g xs∧pX st.owns xs ys
def ahi(t:Nat)(ys:List AC)(st:St):Prop:=∃k xs,st.fr.getD t .any= .bptr k 0∧st.boxes[k]? =some xs∧pX st.owns xs ys
def ahg(r:ResultVar)(g:Bool)(ys:List AC)(st:St):Prop:=match r with
 | .tmp t=>ahf t g ys st
 | .cell t _=>ahi t ys st
def Af(P:Program)(ty:TypeId)(n:Nat):Bool:=match P.info? ty,P.underlying ty with
 |some i,some d=>i.size==n && pz d
 |_,_=>false
def fE(P:Program)(r:ResultVar)(g:Bool)(n:Nat):Bool:=match r with
 | .tmp _=>true
 | .cell _ ty=>g && Af P ty n
def kE(r:ResultVar)(tmps:Array Value):Sem Value:=match r with
 | .tmp t=>pure (tmps.getD t undef)
 | .cell a t=>do loadVar t (← asAddr (tmps.getD a undef))
section
variable{P:Program}{f:Nat}{fn:Func}{code:Code}{ic:IC}{ds:List D}
theorem pR{B:Nat}{Xs:List Nat}{G:Org}{w0:World}{st:St}{E:Env}{a:Act}{w:World}(h:Rel B Xs G w0 st E a w){t:Nat}{x:AV}(hx:st.fr.getD t .any=x):x.ok E st.owns w (a.tmps.getD t undef):=by
 have:=fP h (.tmp t)
 simp only[opd,St.ev,Act.eval]at this
 rwa[hx]at this
theorem XQ{B:Nat}{Xs:List Nat}{G:Org}{w0:World}{st:St}{E E':Env}{a:Act}{w:World}(h:Rel B Xs G w0 st E a w)(hE:Dw B Xs E'){r:ResultVar}{g:Bool}{ys:List AC}(hp:fE P r g ys.length=true)(hf:ahg r g ys st):
 ∃v,(kE r a.tmps).run P w= .ok v w∧Gok E' [] w g ys v:=by
 cases r with
 | tmp t=>
   obtain⟨xs,h1,h2⟩:=hf
   exact⟨_,rfl,Rt h hE h2 (pR h h1)⟩
 | cell t ty=>
   obtain⟨k,xs,h1,h2,h3⟩:=hf
   simp only[fE,g_,Af]at hp
   obtain⟨rfl,hp⟩:=hp
   split at hp
   ·next i d hi hd=>
    simp only[g_,beq_iff_eq]at hp
    obtain⟨p,g1,g2⟩:=pR h h1
    obtain⟨_,vs,h4,h5⟩:=h.box k xs p h2 g1
    have hlen:vs.length=i.size:=by rw[← h5.len,Es h3,hp.1]
    refine⟨.agg vs.toArray, ?_,vs,rfl,vM h hE h3 h5⟩
    simp only[kE]
    rw[g2]
    have:=run_loadVar_row (P:=P) w p.1 p.2 ty vs.toArray (0,0) d h4 hd (by have:=hp.2;cases d<;>simp_all [pz]) (by rw[hi];simp[hlen])
    simp[asAddr,this]
   ·cases hp
theorem pY{r:ResultVar}(hr:fn.results= #[r])(tmps:Array Value){w:World}{v:Value}(h:(kE r tmps).run P w= .ok v w):(results fn tmps).run P w= .ok v w:=by
 cases r with
 |tmp t=>simp[kE]at h;simp[results,hr,h]
 |cell t ty=>simp[kE]at h;simp[results,hr,h]
theorem DJ{r q:ResultVar}(hr:fn.results= #[r,q])(tmps:Array Value){w:World}{v u:Value}(h:(kE r tmps).run P w= .ok v w)(h2:(kE q tmps).run P w= .ok u w):(results fn tmps).run P w= .ok (.tuple #[v,u]) w:=by
 have e:(results fn tmps).run P w=(kE r tmps >>=fun v=>kE q tmps >>=fun u=>pure (.tuple #[v,u]):Sem Value).run P w:=by
  have a1:∀(x:Result Addr) (f:Addr→World→Result Value) (g:Value→World→Result Value),(x.andThen f).andThen g=x.andThen fun a w=>(f a w).andThen g:=by
   intro x f g;cases x<;>rfl
  cases r<;>cases q<;>simp[results,hr,kE,a1]
 rw[e]
 simp[h,h2]
theorem dR{t:Nat}{g:Bool}{ys:List AC}(hf:P.funcs[f]? =some fn:=by kernel_rfl)(hb:fn.body=some code:=by kernel_rfl)(hr:fn.results= #[.tmp t]:=by kernel_rfl)(hc:ay P code=some ic)
 (h:AWP P ic (iV (ahf t g ys)) (st0 fn.ntmps ds)):aV P f ds (.c g ys):=by
 refine qP (post:=fun w e w'=>Jk (.c g ys) w e w') hf hb hc h ?_
 rintro G w w' st E a hR ⟨xs,h1,h2⟩
 refine⟨_,results_tmp hr a.tmps P w',_,rfl,Rt hR (E8 _) h2 (pR hR h1),hR.below.out⟩
theorem IV{t:Nat}{ty:TypeId}{ys:List AC}(hf:P.funcs[f]? =some fn:=by kernel_rfl)(hb:fn.body=some code:=by kernel_rfl)(hr:fn.results= #[.cell t ty]:=by kernel_rfl)(hp:Af P ty ys.length=true:=by kernel_rfl)(hc:ay P code=some ic)
 (h:AWP P ic (iV (ahi t ys)) (st0 fn.ntmps ds)):aV P f ds (.c true ys):=by
 refine qP (post:=fun w e w'=>Jk (.c true ys) w e w') hf hb hc h ?_
 rintro G w w' st E a hR hF
 obtain⟨v,h1,h2⟩:=XQ (P:=P) (r:= .cell t ty) (g:=true) hR (E8 _) (by simp[fE,hp]) hF
 exact⟨v,pY hr _ h1,v,rfl,h2,hR.below.out⟩
theorem IX{r:ResultVar}{g:Bool}{ys:List AC}(hf:P.funcs[f]? =some fn:=by kernel_rfl)(hb:fn.body=some code:=by kernel_rfl)(hr:fn.results= #[r]:=by kernel_rfl)(hp:fE P r g ys.length=true:=by kernel_rfl)(hc:ay P code=some ic)
 (h:AWP P ic (iV (ahg r g ys)) (stN true fn.ntmps ds)):jS P f ds (.c g ys):=by
 intro w F vs hF hr'
 refine IW (post:=fun F w e w'=>L6 (.c g ys) F w e w') true hf hb hc h ?_ w F vs hr'
 rintro F G w w' st E a hR h1
 obtain⟨v,h3,h4⟩:=XQ hR (aea _ F) hp h1
 exact⟨_,pY hr _ h3,_,rfl,h4,hR.below.out⟩
def ahe(k i:Nat)(l:List D)(e s:Nat)(st:St):Prop:=∃o,st.owns[k]? =some o∧o.ver=i∧o.l=l∧o.e=e∧o.s=s∧(o.nw.n=true∨kN l)
def ahh(t:Nat)(l:List D)(e s:Nat)(st:St):Prop:=∃k i o,st.fr.getD t .any= .c false [.own k i]∧st.owns[k]? =some o∧o.ver=i∧o.l=l∧o.e=e∧o.s=s∧(o.nw.n=true∨kN l)
theorem PI{G:Org}{w w':World}{st:St}{E:Env}{a:Act}(hR:Rel w.heap.size [] G w st E a w'){k i:Nat}{l:List D}{e s:Nat}{v:Value}(hv:(AC.own k i).ok E st.owns w' v)(h:ahe k i l e s st):
 ∃cs f,bK w' w.heap.size e s v l.length cs∧Rs w' l f cs∧∀b∈f,some b≠v.ownBlock∧w.heap.size≤b:=by
 obtain⟨o,h2,h3,rfl,rfl,rfl,h4⟩:=h
 obtain⟨_,o',p,g1,g2,g3,g4⟩:=hv
 rw[h2]at g1
 injection g1 with g1
 subst g1
 obtain⟨cs,h5,h6,h7,h8⟩:=hR.own k o p h2 g2
 rw[g4 h3]
 refine⟨cs,p.2,sG h5 hR.eb,h6,fun b hb=>⟨fun e=> ?_, ?_⟩⟩
 ·exact(h8 b hb).1 (jh.2 (m_ ⟨k,p,g2,e.symm⟩))
 ·rcases h4 with h4|h4
  ·simpa using Gl hR ((h8 b hb).2 h4)
  ·rw[h4 _ _ _ h6]at hb;simp at hb
theorem fK{t:Nat}{l:List D}{e s:Nat}(hf:P.funcs[f]? =some fn:=by kernel_rfl)(hb:fn.body=some code:=by kernel_rfl)(hr:fn.results= #[.tmp t]:=by kernel_rfl)(hc:ay P code=some ic)
 (h:AWP P ic (iV (ahh t l e s)) (st0 fn.ntmps ds)):dA P f ds l e s:=by
 refine qP (post:=fun w e' w'=>tJ false l e s w e' w') hf hb hc h ?_
 rintro G w w' st E a hR ⟨k,i,o,h1,h2⟩
 obtain⟨hv,_⟩:=pR hR h1
 obtain⟨cs,f',h3,h4,h5⟩:=PI hR hv ⟨o,h2⟩
 exact⟨_,results_tmp hr a.tmps P w',_,cs,f',rfl,h3,h4,h5,hR.below.out⟩
def Et(o o':Own):Prop:=match o'.nw.lin with
 |false=>o.nw.n=true∨kN o.l
 |true=>(o.nw.n=true∧o.nw.lin=true)∨kN o.l
def vT(os:List Own):List Nat→List Own→Prop
 | [],[]=>True
 |k::pk,o'::os'=>(∃o,os[k]? =some o∧o'=⟨o.l,o.e,o.s,0,⟨true,o'.nw.lin⟩⟩∧Et o o')∧vT os pk os'
 |_,_=>False
theorem Et.weak{o o':Own}(h:Et o o'):o.nw.n=true∨kN o.l:=by
 unfold Et at h
 split at h
 ·exact h
 ·exact h.imp And.left id
theorem Et.lin{o o':Own}(h:Et o o')(e:o'.nw.lin=true):o.nw.lin=true∨kN o.l:=by
 unfold Et at h
 rw[e]at h
 exact h.imp And.right id
theorem rC{os:List Own}:∀{pk:List Nat} {os':List Own},vT os pk os'→pk.length=os'.length∧∀(j k:Nat) (o':Own),pk[j]? =some k→os'[j]? =some o'→∃o,os[k]? =some o∧o'=⟨o.l,o.e,o.s,0,⟨true,o'.nw.lin⟩⟩∧Et o o'
 | [],[],_=>⟨rfl,fun j k o' h=>by simp at h⟩
 | k::pk,o'::os',h=>by
   obtain⟨h1,h2⟩:=rC h.2
   refine⟨by simp[h1],fun j k' o'' g1 g2=> ?_⟩
   cases j with
   |zero=>simp at g1 g2;subst g1 g2;exact h.1
   |succ j=>exact h2 j k' o'' (by simpa using g1) (by simpa using g2)
 | [],_::_,h=>h.elim
 |_::_,[],h=>h.elim
section
variable{B:Nat}{G:Org}{w0:World}{st:St}{E:Env}{a:Act}{w:World}{pk:List Nat}{os':List Own}
def qF(E:Env)(pk:List Nat):List (Value×List Nat):=pk.map fun k=>E.om.getD k (undef,[])
theorem Aq{j k:Nat}(h:pk[j]? =some k):(qF E pk)[j]? =some (E.om.getD k (undef,[])):=by simp[qF,h]
theorem Py(h:Rel B [] G w0 st E a w)(ho:vT st.owns pk os'){b:Nat}(hb:b∈(qF E pk).flatMap fun q=>q.1.ownBlock.toList):∃k∈pk,∃p,E.om[k]? =some p∧p.1.ownBlock=some b:=by
 obtain⟨q,hq,hqb⟩:=j_.1 hb
 obtain⟨k,hk,rfl⟩:=h_.1 hq
 obtain⟨j,hj⟩:=z_.1 hk
 obtain⟨h1,h2⟩:=rC ho
 have hj':j<os'.length:=by rw[← h1];exact(b_.1 hj).1
 obtain⟨o,g1,_⟩:=h2 j k _ hj (a_ hj')
 have hke:k<E.om.length:=by rw[h.olen];exact(b_.1 g1).1
 exact⟨k,hk,E.om[k],a_ hke,by rw[c_,a_ hke]at hqb;simpa using hqb⟩
theorem Vq(h:Rel B [] G w0 st E a w){i j:Nat}{p q:Value×List Nat}{b:Nat}(hi:E.om[i]? =some p)(hj:E.om[j]? =some q)(hp:p.1.ownBlock=some b)(hq:q.1.ownBlock=some b):i=j:=by
 have hn:=h.nodup
 unfold Env.M at hn
 rw[l_]at hn
 have : ∀(L:List (Value×List Nat)) (i j:Nat) (p q:Value×List Nat),(L.flatMap (fun p=>p.1.ownBlock.toList)).Nodup→L[i]? =some p→L[j]? =some q→p.1.ownBlock=some b→q.1.ownBlock=some b→i=j:=by
  intro L
  induction L with
  |nil=>intro i j p q _ hi;simp at hi
  | cons z L ih=>
    intro i j p q hn hi hj hpb hqb
    rw[G_,l_]at hn
    cases i with
    | zero=>
      cases j with
      |zero=>rfl
      | succ j=>
        simp at hi hj
        subst hi
        exact absurd rfl (hn.2.2 b (by simp[hpb]) b (j_.2 ⟨q,e_ hj,by simp[hqb]⟩))
    | succ i=>
      cases j with
      | zero=>
        simp at hi hj
        subst hj
        exact absurd rfl (hn.2.2 b (by simp[hqb]) b (j_.2 ⟨p,e_ hi,by simp[hpb]⟩))
      | succ j=>
        simp at hi hj
        rw[ih i j p q hn.2.1 hi hj hpb hqb]
 exact this E.om i j p q hn.2.1 hi hj hp hq
theorem J6(h:Rel B [] G w0 st E a w)(ho:vT st.owns pk os')(hnd:pk.Nodup):vP B w (qF E pk) os':=by
 obtain⟨h1,h2⟩:=rC ho
 refine⟨by simp[qF,h1],fun j o' p g1 g2=> ?_, ?_⟩
 ·have hj:j<pk.length:=by rw[h1];exact(b_.1 g1).1
  have hk:=a_ hj
  obtain⟨o,g3,g4e,g4o⟩:=h2 j _ o' hk g1
  have g4:=g4o.weak
  rw[g4e]
  have hke:pk[j]<E.om.length:=by rw[h.olen];exact(b_.1 g3).1
  rw[Aq hk,c_,a_ hke]at g2
  simp only[k_,F_]at g2
  subst g2
  obtain⟨cs,h5,h6,h7,h8⟩:=h.own _ o _ g3 (a_ hke)
  refine⟨cs,sG h5 h.eb,h6,h7,fun b hb=>⟨?_,fun hm=> ?_⟩⟩
  ·rcases g4 with g4|g4
   ·simpa using Gl h ((h8 b hb).2 g4)
   ·rw[g4 _ _ _ h6]at hb;simp at hb
  ·obtain⟨k,_,p,g5,g6⟩:=Py h ho hm
   exact(h8 b hb).1 (jh.2 (m_ ⟨k,p,g5,g6⟩))
 ·have hpk:∀(j:Nat) (o':Own) (p:Value×List Nat),os'[j]? =some o'→(qF E pk)[j]? =some p→o'.nw.lin=true→p.2= []∨∃o,st.owns[pk.getD j 0]? =some o∧E.om[pk.getD j 0]? =some p∧o.nw.lin=true:=by
   intro j o' p g1 g2 g3
   have hj:j<pk.length:=by rw[h1];exact(b_.1 g1).1
   have hk:=a_ hj
   obtain⟨o,q1,q2,q3⟩:=h2 j _ o' hk g1
   have hke:pk[j]<E.om.length:=by rw[h.olen];exact(b_.1 q1).1
   rw[Aq hk,c_,a_ hke]at g2
   simp only[k_,F_]at g2
   subst g2
   rcases q3.lin g3 with e|e
   ·refine m_ ⟨o, ?_, ?_,e⟩
    ·rw[c_,hk];exact q1
    ·rw[c_,hk];exact a_ hke
   ·obtain⟨cs,_,h6,_⟩:=h.own _ o _ q1 (a_ hke)
    exact r_ (e _ _ _ h6)
  refine⟨?_, ?_, ?_⟩
  rotate_left
  ·refine h.lin.map (fun j=>pk.getD j 0) (fun i j hij hi hj e=>hij ?_) hpk
   have hi':i<pk.length:=by omega
   have hj':j<pk.length:=by omega
   simp only[c_,a_ hi',a_ hj',k_]at e
   exact(a_k hnd).1 e
  ·exact h.unf.map (fun j=>pk.getD j 0) hpk
  have :∀(pk:List Nat) (os':List Own),vT st.owns pk os'→pk.Nodup→((qF E pk).flatMap fun q=>q.1.ownBlock.toList).Nodup:=by
   intro pk
   induction pk with
   |nil=>intro os' _ _;exact I_
   | cons k pk ih=>
     intro os' ho hnd
     match os',ho with
     | o'::os',ho=>
       rw[a_n]at hnd
       obtain⟨o,g1,_⟩:=ho.1
       have hke:k<E.om.length:=by rw[h.olen];exact(b_.1 g1).1
       show(a_A _ (E.om.getD k (undef,[])::qF E pk)).Nodup
       rw[G_,l_]
       refine⟨by cases(E.om.getD k (undef,[])).1.ownBlock<;>simp,ih os' ho.2 hnd.2,fun x hx y hy e=> ?_⟩
       subst e
       obtain⟨k',hk',p,g5,g6⟩:=Py h ho.2 hy
       rw[c_,a_ hke]at hx
       exact hnd.1 (Vq h (a_ hke) g5 (by simpa using hx) g6▸hk')
  exact this pk os' ho hnd
end
end
section
variable{lo:Nat×Nat}{P:Program}{y:IC}{Q:Exit→St→Prop}{st:St}{i j:Nat}{c:Opd}
theorem xJ(h:dK lo P y Q st):Ou lo P y Q .normal st:=h
theorem kX(h:Q (.exit i) st):Ou lo P y Q (.exit i) st:=h
theorem nV(h:Q .ret st):Ou lo P y Q .ret st:=h
theorem iJ(h:Q .normal st):Dx i Q .normal st:=h
theorem lJ(h:Q .ret st):Dx i Q .ret st:=h
theorem jK(h:Q .normal st):Dx i Q (.exit i) st:=by
 show ite _ _ _
 rw[if_pos rfl]
 exact h
theorem jJ(hij:(j==i)=false)(h:Q (.exit j) st):Dx i Q (.exit j) st:=by
 show ite _ _ _
 rw[if_neg (by simpa using hij)]
 exact h
theorem jF{X:Type}{F:X→St}{inv:X→Prop}{μ:X→Nat}{x:X}(h:Q (.exit i) st):Aa F inv μ x Q (.exit i) st:=h
theorem kZ{X:Type}{F:X→St}{inv:X→Prop}{μ:X→Nat}{x:X}(h:Q .ret st):Aa F inv μ x Q .ret st:=h
theorem Lm{Fin:St→Prop}(h:Fin st):iV Fin .normal st:=h
theorem bC{Fin:St→Prop}(h:Fin st):iV Fin .ret st:=h
theorem jM{x:IC}(hb:st.ev c= .c false [.raw (.bool true)])(h:dK lo P x Q st):dK lo P (.cond c x y) Q st:=I5 hb (fun _=>h) (fun e=>by cases e)
theorem jP{x:IC}(hb:st.ev c= .c false [.raw (.bool false)])(h:dK lo P y Q st):dK lo P (.cond c x y) Q st:=I5 hb (fun e=>by cases e) (fun _=>h)
end
theorem abd{x0:Opd}:I.plain (.mov x0)=true:=by simp only[I.plain]
theorem Wu{x0:Opd}{x1:Opd}{x2:Opd}:I.plain (.pick x0 x1 x2)=true:=by simp only[I.plain]
theorem abo{x0:BinOp}{x1:Opd}{x2:Opd}:I.plain (.bin x0 x1 x2)=true:=by simp only[I.plain]
theorem abp{x0:Bool}{x1:Opd}{x2:Opd}:I.plain (.beq x0 x1 x2)=true:=by simp only[I.plain]
theorem aa9{x0:Opd}:I.plain (.not x0)=true:=by simp only[I.plain]
theorem Wv{x0:Nat}{x1:Bool}{x2:Opd}:I.plain (.load x0 x1 x2)=true:=by simp only[I.plain]
theorem abh{x0:Nat}{x1:Opd}:I.plain (.fad x0 x1)=true:=by simp only[I.plain]
theorem abb{x0:Opd}:I.plain (.nck x0)=true:=by simp only[I.plain]
theorem Pv{x0:List Value}:I.plain (.alloc x0)=true:=by simp only[I.plain]
theorem abm{x0:Opd}:I.plain (.box x0)=true:=by simp only[I.plain]
theorem Pq{x0:Nat}{x1:Opd}{x2:Opd}:I.plain (.store x0 x1 x2)=true:=by simp only[I.plain]
theorem Wy{x0:Bool}{x1:Nat}{x2:Nat}{x3:Nat}{x4:Bool}{x5:List Opd}:I.plain (.brow x0 x1 x2 x3 x4 x5)=true:=by simp only[I.plain]
theorem abn{x0:List Value}{x1:List (Nat×Nat×Opd)}:I.plain (.bld x0 x1)=true:=by simp only[I.plain]
theorem abg{x0:Nat}{x1:Nat}{x2:Bool}{x3:Opd}:I.plain (.fld x0 x1 x2 x3)=true:=by simp only[I.plain]
theorem Ws{x0:Opd}{x1:Opd}:I.plain (.sidx x0 x1)=true:=by simp only[I.plain]
theorem aa8{x0:Opd}{x1:Option Opd}{x2:Option Opd}:I.plain (.ssl x0 x1 x2)=true:=by simp only[I.plain]
theorem abj{x0:Nat}{x1:Opd}:I.plain (.ext x0 x1)=true:=by simp only[I.plain]
theorem abf{x0:Bool}{x1:Opd}:I.plain (.len x0 x1)=true:=by simp only[I.plain]
theorem aaT{x0:Opd}:I.plainW (.mov x0)=true:=by simp only[I.plainW]
theorem V9{x0:Opd}{x1:Opd}{x2:Opd}:I.plainW (.pick x0 x1 x2)=true:=by simp only[I.plainW]
theorem aa3{x0:BinOp}{x1:Opd}{x2:Opd}:I.plainW (.bin x0 x1 x2)=true:=by simp only[I.plainW]
theorem aa4{x0:Bool}{x1:Opd}{x2:Opd}:I.plainW (.beq x0 x1 x2)=true:=by simp only[I.plainW]
theorem aaR{x0:Opd}:I.plainW (.not x0)=true:=by simp only[I.plainW]
theorem Wh{x0:Nat}{x1:Bool}{x2:Opd}:I.plainW (.load x0 x1 x2)=true:=by simp only[I.plainW]
theorem aaX{x0:Nat}{x1:Opd}:I.plainW (.fad x0 x1)=true:=by simp only[I.plainW]
theorem aaS{x0:Opd}:I.plainW (.nck x0)=true:=by simp only[I.plainW]
theorem Pm{x0:List Value}:I.plainW (.alloc x0)=true:=by simp only[I.plainW]
theorem aa1{x0:Opd}:I.plainW (.box x0)=true:=by simp only[I.plainW]
theorem aa2{x0:List Value}{x1:List (Nat×Nat×Opd)}:I.plainW (.bld x0 x1)=true:=by simp only[I.plainW]
theorem aaW{x0:Nat}{x1:Nat}{x2:Bool}{x3:Opd}:I.plainW (.fld x0 x1 x2 x3)=true:=by simp only[I.plainW]
theorem V8{x0:Opd}{x1:Opd}:I.plainW (.sidx x0 x1)=true:=by simp only[I.plainW]
theorem aaQ{x0:Opd}{x1:Option Opd}{x2:Option Opd}:I.plainW (.ssl x0 x1 x2)=true:=by simp only[I.plainW]
theorem aaY{x0:Nat}{x1:Opd}:I.plainW (.ext x0 x1)=true:=by simp only[I.plainW]
theorem aaV{x0:Bool}{x1:Opd}:I.plainW (.len x0 x1)=true:=by simp only[I.plainW]
theorem abe{f:Nat}{xs:List Opd}:I.plain (.mkf f xs)=true:=by simp only[I.plain]
theorem Wx{b:Bool}{x:Opd}:I.plain (.fnil b x)=true:=by simp only[I.plain]
theorem Wq{b:Bool}{x:Opd}:I.plain (.snil b x)=true:=by simp only[I.plain]
theorem WA{b:Bool}{k:List Value}{x y:Opd}:I.plain (.beqS b k x y)=true:=by simp only[I.plain]
theorem Wj{b:Bool}{k:List Value}{x y:Opd}:I.plainW (.beqS b k x y)=true:=by simp only[I.plainW]
theorem X7{b:Bool}{k:List Value}{x y:Opd}:eff (.beqS b k x y)=false:=by simp[eff,I.cls]
theorem abl{k:IntKind}{x:Opd}:I.plain (.cvi k x)=true:=by simp only[I.plain]
theorem abk{x:Opd}:I.plain (.cvs x)=true:=by simp only[I.plain]
theorem WB{e:Nat}{x y:Opd}:I.plain (.apps e x y)=true:=by simp only[I.plain]
theorem aa0{k:IntKind}{x:Opd}:I.plainW (.cvi k x)=true:=by simp only[I.plainW]
theorem aaZ{x:Opd}:I.plainW (.cvs x)=true:=by simp only[I.plainW]
theorem Wn{e:Nat}{x y:Opd}:I.plainW (.apps e x y)=true:=by simp only[I.plainW]
theorem acP{k:IntKind}{x:Opd}:eff (.cvi k x)=false:=by simp[eff,I.cls]
theorem acO{x:Opd}:eff (.cvs x)=false:=by simp[eff,I.cls]
theorem X8{e:Nat}{x y:Opd}:eff (.apps e x y)=true:=by simp[eff,I.cls]
theorem afu{e:Nat}{z:Value}{x:Opd}:I.plain (.mk e z x)=true:=by simp only[I.plain]
theorem aaU{f:Nat}{xs:List Opd}:I.plainW (.mkf f xs)=true:=by simp only[I.plainW]
theorem Wi{b:Bool}{x:Opd}:I.plainW (.fnil b x)=true:=by simp only[I.plainW]
theorem V7{b:Bool}{x:Opd}:I.plainW (.snil b x)=true:=by simp only[I.plainW]
theorem aft{e:Nat}{z:Value}{x:Opd}:I.plainW (.mk e z x)=true:=by simp only[I.plainW]
theorem acJ{f:Nat}{xs:List Opd}:eff (.mkf f xs)=false:=by simp[eff,I.cls]
theorem X4{b:Bool}{x:Opd}:eff (.fnil b x)=false:=by simp[eff,I.cls]
theorem XY{b:Bool}{x:Opd}:eff (.snil b x)=false:=by simp[eff,I.cls]
theorem afG{e:Nat}{z:Value}{x:Opd}:eff (.mk e z x)=true:=by simp[eff,I.cls]
theorem acI{x0:Opd}:eff (.mov x0)=false:=by simp[eff,I.cls]
theorem X0{x0:Opd}{x1:Opd}{x2:Opd}:eff (.pick x0 x1 x2)=false:=by simp[eff,I.cls]
theorem acS{x0:BinOp}{x1:Opd}{x2:Opd}:eff (.bin x0 x1 x2)=false:=by simp[eff,I.cls]
theorem acT{x0:Bool}{x1:Opd}{x2:Opd}:eff (.beq x0 x1 x2)=false:=by simp[eff,I.cls]
theorem acG{x0:Opd}:eff (.not x0)=false:=by simp[eff,I.cls]
theorem X3{x0:Nat}{x1:Bool}{x2:Opd}:eff (.load x0 x1 x2)=false:=by simp[eff,I.cls]
theorem acM{x0:Nat}{x1:Opd}:eff (.fad x0 x1)=false:=by simp[eff,I.cls]
theorem acH{x0:Opd}:eff (.nck x0)=false:=by simp[eff,I.cls]
theorem RU{x0:List Value}:eff (.alloc x0)=true:=by simp[eff,I.cls]
theorem acQ{x0:Opd}:eff (.box x0)=true:=by simp[eff,I.cls]
theorem RS{x0:Nat}{x1:Opd}{x2:Opd}:eff (.store x0 x1 x2)=true:=by simp[eff,I.cls]
theorem acR{x0:List Value}{x1:List (Nat×Nat×Opd)}:eff (.bld x0 x1)=false:=by simp[eff,I.cls]
theorem acL{x0:Nat}{x1:Nat}{x2:Bool}{x3:Opd}:eff (.fld x0 x1 x2 x3)=false:=by simp[eff,I.cls]
theorem XZ{x0:Opd}{x1:Opd}:eff (.sidx x0 x1)=false:=by simp[eff,I.cls]
theorem acF{x0:Opd}{x1:Option Opd}{x2:Option Opd}:eff (.ssl x0 x1 x2)=false:=by simp[eff,I.cls]
theorem acN{x0:Nat}{x1:Opd}:eff (.ext x0 x1)=false:=by simp[eff,I.cls]
theorem acK{x0:Bool}{x1:Opd}:eff (.len x0 x1)=false:=by simp[eff,I.cls]
theorem X5{e s n:Nat}{g:Bool}{xs:List Opd}:eff (.brow false e s n g xs)=false:=by simp[eff,I.cls]
theorem X6{e s n:Nat}{g:Bool}{xs:List Opd}:eff (.brow true e s n g xs)=true:=by simp[eff,I.cls]
theorem zB{st:St}:mo true st= []:=by simp[mo]
theorem zC{st:St}:mo false st=st.owns:=by simp[mo]
inductive Sp where
 |k
 |d
 |v (x:AV)
def aG :List Sp→List AV→List AV
 | .k::ss,x::xs=>x::aG ss xs
 | .d::ss,_::xs=> .any::aG ss xs
 | .v y::ss,_::xs=>y::aG ss xs
 |_,_=> []
def FB{X:Type}(fr0:List AV)(bs0:List (List AC))(sp:X→List Sp)(ow:X→List Own)(bx:X→List (List AC)→List (List AC))(x:X):St:=⟨aG (sp x) fr0,ow x,bx x bs0⟩
theorem aW{P:Program}{Q:Exit→St→Prop}{X:Type}{c:IC}{fr0:List AV}{os0:List Own}{bs0:List (List AC)}(sp:X→List Sp)(ow:X→List Own)(bx:X→List (List AC)→List (List AC))(inv:X→Prop)(μ:X→Nat)(x0:X)(h0:inv x0)
 (hle:aO ⟨fr0,os0,bs0⟩ (FB fr0 bs0 sp ow bx x0)) (round:∀x,inv x→AWP P c (Aa (FB fr0 bs0 sp ow bx) inv μ x Q) (FB fr0 bs0 sp ow bx x)):AWP P (.loop c) Q ⟨fr0,os0,bs0⟩:=
 adp (FB fr0 bs0 sp ow bx) inv μ x0 h0 (EX hle) round
theorem aS{Q:Exit→St→Prop}{st:St}{X:Type}{F:X→St}{inv:X→Prop}{μ:X→Nat}{x:X}(x':X)(h1:aO st (F x'))(h2:inv x')(h3:μ x'<μ x):Aa F inv μ x Q .normal st:=⟨x',EX h1,h2,h3⟩
theorem dI(b:Bool)(n:Int):(li n).acs b= [.raw (.int .i64 n)]:=rfl
theorem dH(b:Bool)(s:ByteArray):(ls s).acs b= [.raw (.string s)]:=rfl
theorem dL(b:Bool)(v:Value):(D.leaf v).acs b= [.raw v]:=rfl
theorem fA(b:Bool)(l:List D):(D.sl l).acs b= [.sl b l]:=rfl
theorem dQ(l:List Int):El 1 (l.map li):=fun d h=>by obtain⟨x,_,rfl⟩:=h_.1 h;exact⟨rfl,rfl⟩
theorem dF(l:List ByteArray):El 1 (l.map ls):=fun d h=>by obtain⟨x,_,rfl⟩:=h_.1 h;exact⟨rfl,rfl⟩
theorem acD(s:Nat):El s []:=fun d h=>by simp at h
theorem XW{s:Nat}{d:D}{l:List D}:El s (d::l)=((d.one∧d.sz=s)∧El s l):=by
 apply propext
 constructor
 ·intro h
  exact⟨h d (by simp),fun x hx=>h x (by simp[hx])⟩
 ·rintro⟨h1,h2⟩ x hx
  rcases List.mem_cons.1 hx with rfl|hx
  ·exact h1
  ·exact h2 x hx
theorem nO{α:Type}{g:α→D}(hg:∀(x:α) (w:World) (f:List Nat) (cs:List Value),R w (g x) f cs→f= []):∀(l:List α),kN (l.map g)
 | [],w,f,cs,h=>h.1
 | x::l,w,f,cs,h=>by
   rw[K_,Rs]at h
   obtain⟨f1,f2,c1,c2,rfl,rfl,h1,h2⟩:=h
   rw[hg x w f1 c1 h1,nO hg l w f2 c2 h2]
   rfl
theorem Zu(l:List Int):kN (l.map li):=nO (g:=li) (fun x w f cs h=>(show f= []∧_ from h).1) l
theorem rP(l:List ByteArray):kN (l.map ls):=nO (g:=ls) (fun x w f cs h=>(show f= []∧_ from h).1) l
theorem Xd(l:List D)(k:Nat):idx l (some (k:Int))=l[k]? :=by simp[idx]
theorem dD{α:Type}(f:α→D)(l:List α){k:Nat}(h:k<l.length):idx (l.map f) (some (k:Int))=some (f l[k]):=by
 rw[Xd,t_,a_ h]
 rfl
theorem dN{n:Nat}(h:n≤9223372036854775806):IntKind.i64.wrap ((n:Int)+1)=((n+1:Nat):Int):=by
 rw[IntWalk.i64_in _ (by omega)]
 rfl
theorem tJ.tos{l:List D}{e s:Nat}{w:World}{en:Ending}{w':World}(h:tJ false l e s w en w')(hf:kN l):yH l w en w':=by
 obtain⟨v,cs,f,rfl,h1,h2,h3,h4⟩:=h
 have:=hf _ _ _ h2
 subst this
 exact⟨_,v,rfl,Sl.nI h1 h2,gV.nI h1 gV.nil (fun g hg=>by simp),h4⟩
theorem dA.to{P:Program}{f:Nat}{ds l:List D}{e s:Nat}(h:dA P f ds l e s)(hf:kN l):aV P f ds (.c false [.sl true l]):=by
 intro w vs hr ht
 refine(h w vs hr ht).mono ?_
 rintro en w' ⟨v,cs,f',rfl,h1,h2,h3,h4⟩
 have:=hf _ _ _ h2
 subst this
 refine⟨v,rfl,⟨⟨_,Sl.nI h1 h2,fun b hb=> ?_⟩,trivial⟩,h4⟩
 rw[R_]at hb
 have:=(bK.lt h1 b (by simpa using hb)).1
 exact⟨rE.2 this,fun _=>r_ this⟩
theorem GOrigin.aQ(x:GOrigin):x.toD.flat= [.leaf (.int .i64 x.cell),.leaf (.int .i64 x.row)]:=by
 simp[GOrigin.aP,D.flat,D.ji,li,ls]
theorem GOrigin.bn(x:GOrigin)(b:Bool):x.toD.acs b= [.raw (.int .i64 x.cell),.raw (.int .i64 x.row)]:=by
 simp[D.acs,GOrigin.aQ,D.ac]
theorem GOrigin.aZ(x:GOrigin):x.toD.isAgg=true:=by rw[GOrigin.aP];rfl
theorem GOrigin.je(x:GOrigin):x.toD.one:=by
 simp[GOrigin.aP,D.one,D.ones,li,ls,o_]
theorem GOrigin.el(l:List GOrigin):El 2 (l.map GOrigin.toD):=fun d h=>by obtain⟨x,_,rfl⟩:=h_.1 h;exact⟨x.je,x.fO⟩
theorem GOrigin.XP(l:List GOrigin):kN (l.map GOrigin.toD):=nO (fun x w f cs h=>(GOrigin.opened.1 h).1) l
theorem GRow.aQ(x:GRow):x.toD.flat= [.sl (x.cells.map li),.sl (x.src.map GOrigin.toD)]:=by
 simp[GRow.aP,D.flat,D.ji,li,ls]
theorem GRow.bn(x:GRow)(b:Bool):x.toD.acs b= [.sl b (x.cells.map li),.sl b (x.src.map GOrigin.toD)]:=by
 simp[D.acs,GRow.aQ,D.ac]
theorem GRow.aZ(x:GRow):x.toD.isAgg=true:=by rw[GRow.aP];rfl
theorem GRow.je(x:GRow):x.toD.one:=by
 simp[GRow.aP,D.one,D.ones,li,ls,o_]
theorem GRow.el(l:List GRow):El 2 (l.map GRow.toD):=fun d h=>by obtain⟨x,_,rfl⟩:=h_.1 h;exact⟨x.je,x.fO⟩
theorem GVal.aQ(x:GVal):x.toD.flat= [.leaf (.int .i64 x.kind),.leaf (.int .i64 x.n),.leaf (.int .i64 x.step),.leaf (.string x.text),.sl (x.list.map GVal.toD),.sl (x.cols.map ls),.sl (x.rows.map GRow.toD)]:=by
 simp[GVal.aP,D.flat,D.ji,li,ls]
theorem GVal.bn(x:GVal)(b:Bool):x.toD.acs b= [.raw (.int .i64 x.kind),.raw (.int .i64 x.n),.raw (.int .i64 x.step),.raw (.string x.text),.sl b (x.list.map GVal.toD),.sl b (x.cols.map ls),.sl b (x.rows.map GRow.toD)]:=by
 simp[D.acs,GVal.aQ,D.ac]
theorem GVal.aZ(x:GVal):x.toD.isAgg=true:=by rw[GVal.aP];rfl
theorem GVal.je(x:GVal):x.toD.one:=by
 simp[GVal.aP,D.one,D.ones,li,ls,o_]
theorem GVal.el(l:List GVal):El 7 (l.map GVal.toD):=fun d h=>by obtain⟨x,_,rfl⟩:=h_.1 h;exact⟨x.je,x.fO⟩
theorem GTok.aQ(x:GTok):x.toD.flat= [.leaf (.int .i64 x.kind),.leaf (.int .i64 x.n),.leaf (.int .i64 x.pos),.leaf (.string x.text)]:=by
 simp[GTok.aP,D.flat,D.ji,li,ls]
theorem GTok.bn(x:GTok)(b:Bool):x.toD.acs b= [.raw (.int .i64 x.kind),.raw (.int .i64 x.n),.raw (.int .i64 x.pos),.raw (.string x.text)]:=by
 simp[D.acs,GTok.aQ,D.ac]
theorem GTok.aZ(x:GTok):x.toD.isAgg=true:=by rw[GTok.aP];rfl
theorem GTok.je(x:GTok):x.toD.one:=by
 simp[GTok.aP,D.one,D.ones,li,ls,o_]
theorem GTok.el(l:List GTok):El 4 (l.map GTok.toD):=fun d h=>by obtain⟨x,_,rfl⟩:=h_.1 h;exact⟨x.je,x.fO⟩
theorem GTok.XP(l:List GTok):kN (l.map GTok.toD):=nO (fun x w f cs h=>(GTok.opened.1 h).1) l
theorem GExpr.aQ(x:GExpr):x.toD.flat= [.leaf (.int .i64 x.kind),.leaf (.int .i64 x.n),.leaf (.string x.text),.sl (x.args.map GExpr.toD)]:=by
 simp[GExpr.aP,D.flat,D.ji,li,ls]
theorem GExpr.bn(x:GExpr)(b:Bool):x.toD.acs b= [.raw (.int .i64 x.kind),.raw (.int .i64 x.n),.raw (.string x.text),.sl b (x.args.map GExpr.toD)]:=by
 simp[D.acs,GExpr.aQ,D.ac]
theorem GExpr.aZ(x:GExpr):x.toD.isAgg=true:=by rw[GExpr.aP];rfl
theorem GExpr.je(x:GExpr):x.toD.one:=by
 simp[GExpr.aP,D.one,D.ones,li,ls,o_]
theorem GExpr.el(l:List GExpr):El 4 (l.map GExpr.toD):=fun d h=>by obtain⟨x,_,rfl⟩:=h_.1 h;exact⟨x.je,x.fO⟩
theorem GCell.aQ(x:GCell):x.toD.flat= [.leaf (.int .i64 x.id),.leaf (.int .i64 x.ver),.leaf (.int .i64 x.kind),.leaf (.string x.name),.leaf (.string x.code),.leaf (.int .i64 x.n)]:=by
 simp[GCell.aP,D.flat,D.ji,li,ls]
theorem GCell.bn(x:GCell)(b:Bool):x.toD.acs b= [.raw (.int .i64 x.id),.raw (.int .i64 x.ver),.raw (.int .i64 x.kind),.raw (.string x.name),.raw (.string x.code),.raw (.int .i64 x.n)]:=by
 simp[D.acs,GCell.aQ,D.ac]
theorem GCell.aZ(x:GCell):x.toD.isAgg=true:=by rw[GCell.aP];rfl
theorem GCell.je(x:GCell):x.toD.one:=by
 simp[GCell.aP,D.one,D.ones,li,ls,o_]
theorem GCell.el(l:List GCell):El 6 (l.map GCell.toD):=fun d h=>by obtain⟨x,_,rfl⟩:=h_.1 h;exact⟨x.je,x.fO⟩
theorem GCell.XP(l:List GCell):kN (l.map GCell.toD):=nO (fun x w f cs h=>(GCell.opened.1 h).1) l
theorem GNb.aQ(x:GNb):x.toD.flat= [.sl (x.cells.map GCell.toD)]:=by
 simp[GNb.aP,D.flat,D.ji,li,ls]
theorem GNb.bn(x:GNb)(b:Bool):x.toD.acs b= [.sl b (x.cells.map GCell.toD)]:=by
 simp[D.acs,GNb.aQ,D.ac]
theorem GNb.aZ(x:GNb):x.toD.isAgg=true:=by rw[GNb.aP];rfl
theorem GNb.je(x:GNb):x.toD.one:=by
 simp[GNb.aP,D.one,D.ones,li,ls,o_]
theorem GNb.el(l:List GNb):El 1 (l.map GNb.toD):=fun d h=>by obtain⟨x,_,rfl⟩:=h_.1 h;exact⟨x.je,x.fO⟩
theorem GPart.aQ(x:GPart):x.toD.flat= [.leaf (.int .i64 x.kind),.leaf (.string x.name),.leaf (.int .i64 x.expr.kind),.leaf (.int .i64 x.expr.n),.leaf (.string x.expr.text),.sl (x.expr.args.map GExpr.toD),.leaf (.int .i64 x.value.kind),.leaf (.int .i64 x.value.n),.leaf (.int .i64 x.value.step),.leaf (.string x.value.text),.sl (x.value.list.map GVal.toD),.sl (x.value.cols.map ls),.sl (x.value.rows.map GRow.toD),.leaf (.int .i64 x.pos)]:=by
 simp[GPart.aP,GExpr.aP,GVal.aP,D.flat,D.ji,li,ls]
theorem GPart.bn(x:GPart)(b:Bool):x.toD.acs b= [.raw (.int .i64 x.kind),.raw (.string x.name),.raw (.int .i64 x.expr.kind),.raw (.int .i64 x.expr.n),.raw (.string x.expr.text),.sl b (x.expr.args.map GExpr.toD),.raw (.int .i64 x.value.kind),.raw (.int .i64 x.value.n),.raw (.int .i64 x.value.step),.raw (.string x.value.text),.sl b (x.value.list.map GVal.toD),.sl b (x.value.cols.map ls),.sl b (x.value.rows.map GRow.toD),.raw (.int .i64 x.pos)]:=by
 simp[D.acs,GPart.aQ,D.ac]
theorem GPart.aZ(x:GPart):x.toD.isAgg=true:=by rw[GPart.aP];rfl
theorem GPart.je(x:GPart):x.toD.one:=by
 simp[GPart.aP,GExpr.aP,GVal.aP,D.one,D.ones,li,ls,o_]
theorem GPart.el(l:List GPart):El 14 (l.map GPart.toD):=fun d h=>by obtain⟨x,_,rfl⟩:=h_.1 h;exact⟨x.je,x.fO⟩
theorem GEdit.aQ(x:GEdit):x.toD.flat= [.leaf (.int .i64 x.kind),.leaf (.int .i64 x.pos),.leaf (.int .i64 x.cell.id),.leaf (.int .i64 x.cell.ver),.leaf (.int .i64 x.cell.kind),.leaf (.string x.cell.name),.leaf (.string x.cell.code),.leaf (.int .i64 x.cell.n)]:=by
 simp[GEdit.aP,GCell.aP,D.flat,D.ji,li,ls]
theorem GEdit.bn(x:GEdit)(b:Bool):x.toD.acs b= [.raw (.int .i64 x.kind),.raw (.int .i64 x.pos),.raw (.int .i64 x.cell.id),.raw (.int .i64 x.cell.ver),.raw (.int .i64 x.cell.kind),.raw (.string x.cell.name),.raw (.string x.cell.code),.raw (.int .i64 x.cell.n)]:=by
 simp[D.acs,GEdit.aQ,D.ac]
theorem GEdit.aZ(x:GEdit):x.toD.isAgg=true:=by rw[GEdit.aP];rfl
theorem GEdit.je(x:GEdit):x.toD.one:=by
 simp[GEdit.aP,GCell.aP,D.one,D.ones,li,ls,o_]
theorem GEdit.el(l:List GEdit):El 8 (l.map GEdit.toD):=fun d h=>by obtain⟨x,_,rfl⟩:=h_.1 h;exact⟨x.je,x.fO⟩
theorem GEdit.XP(l:List GEdit):kN (l.map GEdit.toD):=nO (fun x w f cs h=>(GEdit.opened.1 h).1) l
theorem GRead.aQ(x:GRead):x.toD.flat= [.leaf (.int .i64 x.kind),.leaf (.int .i64 x.n),.leaf (.int .i64 x.time),.leaf (.string x.text),.leaf (.int .i64 x.result.kind),.leaf (.int .i64 x.result.n),.leaf (.int .i64 x.result.step),.leaf (.string x.result.text),.sl (x.result.list.map GVal.toD),.sl (x.result.cols.map ls),.sl (x.result.rows.map GRow.toD)]:=by
 simp[GRead.aP,GVal.aP,D.flat,D.ji,li,ls]
theorem GRead.bn(x:GRead)(b:Bool):x.toD.acs b= [.raw (.int .i64 x.kind),.raw (.int .i64 x.n),.raw (.int .i64 x.time),.raw (.string x.text),.raw (.int .i64 x.result.kind),.raw (.int .i64 x.result.n),.raw (.int .i64 x.result.step),.raw (.string x.result.text),.sl b (x.result.list.map GVal.toD),.sl b (x.result.cols.map ls),.sl b (x.result.rows.map GRow.toD)]:=by
 simp[D.acs,GRead.aQ,D.ac]
theorem GRead.aZ(x:GRead):x.toD.isAgg=true:=by rw[GRead.aP];rfl
theorem GRead.je(x:GRead):x.toD.one:=by
 simp[GRead.aP,GVal.aP,D.one,D.ones,li,ls,o_]
theorem GRead.el(l:List GRead):El 11 (l.map GRead.toD):=fun d h=>by obtain⟨x,_,rfl⟩:=h_.1 h;exact⟨x.je,x.fO⟩
theorem GTape.aQ(x:GTape):x.toD.flat= [.leaf (.int .i64 x.cell),.leaf (.int .i64 x.ver),.sl (x.reads.map GRead.toD)]:=by
 simp[GTape.aP,D.flat,D.ji,li,ls]
theorem GTape.bn(x:GTape)(b:Bool):x.toD.acs b= [.raw (.int .i64 x.cell),.raw (.int .i64 x.ver),.sl b (x.reads.map GRead.toD)]:=by
 simp[D.acs,GTape.aQ,D.ac]
theorem GTape.aZ(x:GTape):x.toD.isAgg=true:=by rw[GTape.aP];rfl
theorem GTape.je(x:GTape):x.toD.one:=by
 simp[GTape.aP,D.one,D.ones,li,ls,o_]
theorem GTape.el(l:List GTape):El 3 (l.map GTape.toD):=fun d h=>by obtain⟨x,_,rfl⟩:=h_.1 h;exact⟨x.je,x.fO⟩
theorem adQ :type_of% (aho @GOrigin.aQ (aho @GOrigin.bn (aho @GOrigin.aZ (aho @GRow.aQ (aho @GRow.bn (aho @GRow.aZ (aho @GVal.aQ (aho @GVal.bn (aho @GVal.aZ (aho @GTok.aQ (aho @GTok.bn (aho @GTok.aZ (aho @GExpr.aQ (aho @GExpr.bn (aho @GExpr.aZ (aho @GCell.aQ (aho @GCell.bn (aho @GCell.aZ (aho @GNb.aQ (aho @GNb.bn (aho @GNb.aZ (aho @GPart.aQ (aho @GPart.bn (aho @GPart.aZ (aho @GEdit.aQ (aho @GEdit.bn (aho @GEdit.aZ (aho @GRead.aQ (aho @GRead.bn (aho @GRead.aZ (aho @GTape.aQ (aho @GTape.bn (@GTape.aZ))))))))))))))))))))))))))))))))):=aho @GOrigin.aQ (aho @GOrigin.bn (aho @GOrigin.aZ (aho @GRow.aQ (aho @GRow.bn (aho @GRow.aZ (aho @GVal.aQ (aho @GVal.bn (aho @GVal.aZ (aho @GTok.aQ (aho @GTok.bn (aho @GTok.aZ (aho @GExpr.aQ (aho @GExpr.bn (aho @GExpr.aZ (aho @GCell.aQ (aho @GCell.bn (aho @GCell.aZ (aho @GNb.aQ (aho @GNb.bn (aho @GNb.aZ (aho @GPart.aQ (aho @GPart.bn (aho @GPart.aZ (aho @GEdit.aQ (aho @GEdit.bn (aho @GEdit.aZ (aho @GRead.aQ (aho @GRead.bn (aho @GRead.aZ (aho @GTape.aQ (aho @GTape.bn (@GTape.aZ))))))))))))))))))))))))))))))))
theorem dS(l:List D):(D.sl l).isAgg=false:=rfl
theorem bU(v:Value):(D.leaf v).isAgg=false:=rfl
theorem dW(n:Int):(li n).isAgg=false:=rfl
theorem dU(s:ByteArray):(ls s).isAgg=false:=rfl
theorem lU(l:List D):(D.sl l).flat= [.sl l]:=by rw[D.flat]
theorem iC(v:Value):(D.leaf v).flat= [.leaf v]:=by rw[D.flat]
theorem lX(n:Int):(li n).flat= [.leaf (.int .i64 n)]:=iC _
theorem lW(s:ByteArray):(ls s).flat= [.leaf (.string s)]:=iC _
section
variable{P:Program}{f:Nat}{w:World}
theorem Pg{d:D}{vs:List Value}(h:Rds w [d] vs):∃v,vs= [v]∧Rd w d v:=by
 match vs,h with
 | [v],h=>exact⟨v,rfl,h.1⟩
theorem aaN{d e:D}{vs:List Value}(h:Rds w [d,e] vs):∃v u,vs= [v,u]∧Rd w d v∧Rd w e u:=by
 match vs,h with
 | [v,u],h=>exact⟨v,u,rfl,h.1,h.2.1⟩
theorem DK{l:List D}{v:Value}(h:Rd w (.sl l) v):∃fp,Sl w l fp v:=by
 obtain⟨fp,h⟩:=h
 exact⟨fp,h⟩
theorem uQ{u v:Value}(h:Rd w (.leaf u) v):v=u:=by
 obtain⟨fp,h⟩:=h
 have h2:fp= []∧[v]= [u]:=h
 simpa using h2.2
theorem TU{d:D}{v:Value}(hd:d.isAgg=true)(h:Rd w d v):∃fp cs,v= .agg cs.toArray∧R w d fp cs:=by
 unfold Rd at h
 rw[if_pos hd]at h
 exact h
theorem Ph{l:List D}{fp:List Nat}{v:Value}(h:Sl w l fp v):Rd w (.sl l) v:=⟨fp,h⟩
theorem Ad{ds:List D}{u:Value}(h:∀w vs,Rds w ds vs→Calls P f vs.toArray w (JO u w)):aV P f ds (.c false [.raw u]):=fun w vs hr _=>(h w vs hr).mono fun e w' ⟨h1,h2⟩=>⟨u,h1,⟨rfl,trivial⟩,h2⟩
theorem ET{ds:List D}{u:Value}(h:∀w vs,Rds w ds vs→Calls P f vs.toArray w (Tq u w)):aV P f ds (.c false [.raw u]):=fun w vs hr _=>(h w vs hr).mono fun e w' ⟨h1,h2⟩=>by
 subst h2
 exact⟨u,h1,⟨rfl,trivial⟩,Below.refl _ _⟩
theorem abz{ds:List D}{u:Value}(h:aV P f ds (.c false [.raw u])){w:World}{vs:List Value}(hr:Rds w ds vs)(ht:yP w:=by first|exact trivial|assumption):Calls P f vs.toArray w (JO u w):=(h w vs hr ht).mono fun e w' ⟨v,h1,h2,h3⟩=>by
 obtain rfl:=h2.1
 exact⟨h1,h3⟩
theorem of_own{ds l:List D}{e s:Nat}(h:dA P f ds l e s)(hf:kN l){w:World}{vs:List Value}(hr:Rds w ds vs)(ht:yP w:=by first|exact trivial|assumption):Calls P f vs.toArray w (yH l w):=(h w vs hr ht).mono fun en w' h1=>tJ.tos h1 hf
def ZU(l:List D)(u:Value)(w:World)(e:Ending)(w':World):Prop:=∃fp v,e= .returned (.tuple #[.agg #[v],u])∧Sl w' l fp v∧gV w' w.heap.size fp∧Below w.heap.size w w'
theorem aec{ds l:List D}{e s:Nat}{u:Value}(h:zZ P f ds (.tup [(true,[.own 0 0]),(false,[.raw u])]) [⟨l,e,s,0,true⟩])(hf:kN l){w:World}{vs:List Value}(hr:Rds w ds vs)(ht:yP w:=by first|exact trivial|assumption):Calls P f vs.toArray w (ZU l u w):=(h w vs hr ht).mono fun en w' ⟨v,om,h1,h2,h3,h4⟩=>by
 obtain⟨us,rfl,h5⟩:=h3
 match us,h5 with
 | [a,b],⟨h6,h7,_⟩=>
   obtain⟨xs,rfl,h8⟩:=h6
   obtain rfl:=h7.1
   match xs,h8 with
   | [x],⟨⟨_,o,p,g1,g2,g3,g4⟩,_⟩=>
     simp at g1
     subst g1
     obtain rfl:=g4 rfl
     obtain⟨_,o2,_⟩:=h2
     obtain⟨cs,k1,k2,k3,k4⟩:=o2 0 _ p rfl g2
     have:=hf _ _ _ k2
     rw[this]at k2
     exact⟨_,p.1,h1,Sl.nI k1 k2,gV.nI k1 gV.nil (fun g hg=>by simp),h4⟩
theorem zZ.to{ds l:List D}{e s:Nat}{u:Value}(h:zZ P f ds (.tup [(true,[.own 0 0]),(false,[.raw u])]) [⟨l,e,s,0,true⟩])(hf:kN l):aV P f ds (.tup [(true,[.sl true l]),(false,[.raw u])]):=fun w vs hr ht=>(aec h hf hr ht).mono fun en w' ⟨fp,v,h1,h2,h3,h4⟩=>
 ⟨_,h1,⟨[.agg #[v],u],rfl,⟨[v],rfl,⟨fp,h2,fun b hb=>⟨rE.2 (h3.2 b hb).1,fun _=>r_ (h3.2 b hb).1⟩⟩,trivial⟩,⟨rfl,trivial⟩,trivial⟩,h4⟩
end
section
variable{P:Program}{f:Nat}{w:World}
def LZ(w:World)(base:Nat)(fp:List Nat):Prop:=True∧∀b∈fp,base≤b∧True
theorem LZ.mono{w:World}{base base':Nat}{fp:List Nat}(h:LZ w base fp)(hb:base'≤base):LZ w base' fp:=⟨trivial,fun b hm=>⟨p_ hb (h.2 b hm).1,trivial⟩⟩
theorem LZ.below{w w':World}{base:Nat}{fp:List Nat}(h:LZ w base fp)(hl:∀b∈fp,b<w.heap.size)(hb:Below w.heap.size w w'):LZ w' base fp:=⟨trivial,h.2⟩
theorem of_flat{E:Env}{os:List Own}{w:World}:∀{l:List D} {n:Bool} {vs:List Value},(∀d∈l,d.isAgg=false)→Oks E os w (l.map (D.ac n)) vs→∃fp,Rs w l fp vs∧∀b∈fp,b∉E.M∧(n=true→E.nw b)
 | [],_,[],_,_=>⟨[],⟨rfl,rfl⟩,fun b hb=>by simp at hb⟩
 | d ::l,n,v::vs,ha,h=>by
   obtain⟨f2,r2,m2⟩:=of_flat (fun x hx=>ha x (by simp[hx])) h.2
   have h1:=h.1
   cases d with
   | leaf u=>
     obtain rfl:v=u:=h1
     exact⟨f2,⟨[],f2,[v],vs,rfl,rfl,⟨rfl,rfl⟩,r2⟩,m2⟩
   | sl l'=>
     obtain⟨fp,g1,g2⟩:=h1
     refine⟨fp++f2,⟨fp,f2,[v],vs,rfl,rfl,g1,r2⟩,fun b hb=> ?_⟩
     rcases q_.1 hb with hb|hb
     ·exact g2 b hb
     ·exact m2 b hb
   |agg l'=>have:=ha (.agg l') (by simp);cases this
 | [],_,_::_,_,h=>h.elim
 |_::_,_,[],_,h=>h.elim
end
def stS(n:Nat)(avs:List AV)(os:List Own)(bs:List (List AC)):St:=⟨avs++E_ (n - avs.length) (.c false [.raw undef]),os,bs⟩
theorem Oj{E:Env}{os:List Own}{w:World}:∀{xs:List AV} {vs:List Value},oU E os w xs vs→xs.length=vs.length∧∀(t:Nat) (x:AV),xs[t]? =some x→∃v,vs[t]? =some v∧x.ok E os w v
 | [],[],_=>⟨rfl,fun t d h=>by simp at h⟩
 | x::xs,v::vs,h=>by
   obtain⟨h1,h2⟩:=Oj h.2
   refine⟨by simp[h1],fun t y hy=> ?_⟩
   cases t with
   |zero=>simp at hy;subst hy;exact⟨v,rfl,h.1⟩
   |succ t=>simpa using h2 t y (by simpa using hy)
 | [],_::_,h=>h.elim
 |_::_,[],h=>h.elim
theorem ru{B:Nat}{Xs:List Nat}{G:Org}{w0:World}{fr:List AV}{os:List Own}{bs:List (List AC)}{E:Env}{a:Act}{w:World}{avs:List AV}{vs:List Value}(h:Rel B Xs G w0 ⟨fr,os,bs⟩ E a w)(hv:oU E os w avs vs)(n:Nat):
 Rel B Xs ⟨E,os,w⟩ w0 (stS n avs os bs) E {tmps:=vs.toArray++Array.replicate (n - vs.toArray.size) undef,defers:= []} w where
 eb:=h.eb
 ex:=h.ex
 sim:=Sim.refl _ _ _
 defers:=rfl
 size:=by
  obtain⟨hl,_⟩:=Oj hv
  simp[stS,hl]
 fr :=by
  obtain⟨hl,hg⟩:=Oj hv
  intro t x hx
  simp only[stS]at hx
  rw[W_]at hx
  simp only[Array.getD_eq_getD_getElem?]
  split at hx
  ·next ht=>
   obtain⟨v,hv,hr⟩:=hg t x hx
   rw[Array.getElem?_append_left (by simp at ht⊢;omega)]
   simp only[U_,hv,k_]
   exact hr
  ·next ht=>
   rw[N_]at hx
   split at hx
   ·next hlt=>
    injection hx with hx
    subst hx
    rw[Array.getElem?_append_right (by simp;omega),Array.getElem?_replicate]
    simp only[a_h,← hl]
    rw[if_pos hlt]
    exact⟨rfl,trivial⟩
   ·cases hx
 olen:=h.olen
 own:=h.own
 blen:=h.blen
 box:=h.box
 nodup:=h.nodup
 lin:=h.lin
 unf:=h.unf
 below:=h.below
 base:=h.base
theorem Bj{n m:Nat}:∀(fr:List AV),aX n m fr (E_ fr.length .any)
 | []=>trivial
 |x::fr=>⟨r_ rfl,Bj fr⟩
theorem Ij{n m:Nat}{x:AV}(hx:x.fits n m=true):∀(fr:List AV) (t:Nat),fr.getD t .any=x→aX n m fr ((E_ fr.length AV.any).set t x)
 | [],t,_=>trivial
 |y::fr,0,h=>⟨m_ ⟨h,hx⟩,Bj fr⟩
 |y::fr,t+1,h=>⟨r_ rfl,Ij hx fr t (by simpa using h)⟩
def adC(rs:List ResultVar)(r:AV)(os':List Own)(bs':List (List AC))(st:St):Prop:=
 aK st.owns os'∧aN st.boxes bs'∧(bs'.all fun xs=>xs.all (AC.fits os'.length bs'.length))=true∧
  (match rs with
   | []=>r= .c false [.raw (.tuple #[])]
   | [.tmp t]=>st.fr.getD t .any=r∧r.fits os'.length bs'.length=true
   |_=>False)
theorem Fj{P:Program}{f:Nat}{fn:Func}{code:Code}{ic:IC}{avs:List AV}{os os':List Own}{bs bs':List (List AC)}{r:AV}{rs:List ResultVar}(hf:P.funcs[f]? =some fn:=by kernel_rfl)(hb:fn.body=some code:=by kernel_rfl)(hr:fn.results=rs.toArray:=by kernel_rfl)(hc:ay P code=some ic)
 (h1:os.length≤os'.length) (h2:bs.length≤bs'.length) (h:dK (os.length,bs.length) P ic (iV (adC rs r os' bs')) (stS fn.ntmps avs os bs)):iH P f avs os bs r os' bs':=by
 intro B Xs G w0 fr E a w vs hR hv
 have hol:=hR.olen
 have hbl:=hR.blen
 simp only at hol hbl
 refine calls_of_wp hf hb ?_
 have:=h code hc B Xs ⟨E,os,w⟩ w0 ⟨Nat.le_refl _,by simp only;omega⟩ E _ w (ru hR hv fn.ntmps)
 refine wp_mono this ?_
 rintro e a' w' ⟨st',E',g1,g2⟩
 have fin:adC rs r os' bs' st'→∃v,(results fn a'.tmps).run P w'= .ok v w'∧∃v' E',Ending.returned v= .returned v'∧Rel B Xs ⟨E,os,w⟩ w0 ⟨[],os',bs'⟩ E' {tmps:= #[],defers:= []} w'∧r.ok E' os' w' v':=by
  rintro⟨q1,q2,q3,q4⟩
  obtain⟨r1,k1⟩:=uS q1
  obtain⟨r2,k2⟩:=vI q2
  have drop:∀{fr':List AV} {E'':Env},Rel B Xs ⟨E,os,w⟩ w0 ⟨fr',os',bs'⟩ E'' a' w'→Rel B Xs ⟨E,os,w⟩ w0 ⟨[],os',bs'⟩ E'' {tmps:= #[],defers:= []} w':=fun hh=>
   {eb:=hh.eb,ex:=hh.ex,sim:=hh.sim,defers:=rfl,size:=rfl,fr:=fun t y hy=>by simp at hy,olen:=hh.olen,own:=hh.own,blen:=hh.blen,box:=hh.box,nodup:=hh.nodup,lin:=hh.lin,unf:=hh.unf,below:=hh.below,base:=hh.base}
  match rs,q4 with
  | [],q4=>
    obtain⟨E'',hh⟩:=g1.weak (st':=⟨List.replicate st'.fr.length .any,os',bs'⟩) ⟨Bj _,⟨r1,k1⟩,⟨r2,k2⟩,fun xs hx=>List.all_eq_true.1 q3 xs hx⟩ (by simp only;omega) (by simp only;omega)
    subst q4
    exact⟨_,results_none hr _ P w',_,E'',rfl,drop hh,rfl,trivial⟩
  | [.tmp t],q4=>
    obtain⟨E'',hh⟩:=g1.weak (st':=⟨(List.replicate st'.fr.length .any).set t r,os',bs'⟩) ⟨Ij q4.2 _ _ q4.1,⟨r1,k1⟩,⟨r2,k2⟩,fun xs hx=>List.all_eq_true.1 q3 xs hx⟩ (by simp only;omega) (by simp only;omega)
    refine⟨_,results_tmp hr _ P w',_,E'',rfl,drop hh, ?_⟩
    have hlen:t<st'.fr.length∨r= .any:=by
     rcases Nat.lt_or_ge t st'.fr.length with hlt|hge
     ·exact Or.inl hlt
     ·refine Or.inr ?_
      rw[← q4.1,List.getD_eq_getElem?_getD,List.getElem?_eq_none hge]
      rfl
    rcases hlen with hlt|rfl
    ·exact hh.fr t r (by simp only;rw[List.getElem?_set_self (by simpa using hlt)])
    ·trivial
 cases e with
 | normal=>
   obtain⟨v,h3,h4⟩:=fin g2
   exact⟨g1.defers,v,h3,h4⟩
 | ret=>
   obtain⟨v,h3,h4⟩:=fin g2
   exact⟨g1.defers,v,h3,h4⟩
 |_=>exact g2.elim
theorem Yh{P:Program}{f:Nat}{fn:Func}{code:Code}{ic:IC}{avs:List AV}{os:List Own}{bs:List (List AC)}{post:AV→List Own→List (List AC)→Prop}{rs:List ResultVar}(hf:P.funcs[f]? =some fn:=by kernel_rfl)(hb:fn.body=some code:=by kernel_rfl)(hr:fn.results=rs.toArray:=by kernel_rfl)(hc:ay P code=some ic)
 (h:dK (os.length,bs.length) P ic (iV (fun st=>∃r os' bs',post r os' bs'∧os.length≤os'.length∧bs.length≤bs'.length∧adC rs r os' bs' st)) (stS fn.ntmps avs os bs)):jT P f avs os bs post:=by
 intro B Xs G w0 fr E a w vs hR hv
 have hol:=hR.olen
 have hbl:=hR.blen
 simp only at hol hbl
 refine calls_of_wp hf hb ?_
 have:=h code hc B Xs ⟨E,os,w⟩ w0 ⟨Nat.le_refl _,by simp only;omega⟩ E _ w (ru hR hv fn.ntmps)
 refine wp_mono this ?_
 rintro e a' w' ⟨st',E',g1,g2⟩
 have fin:(∃r os' bs',post r os' bs'∧os.length≤os'.length∧bs.length≤bs'.length∧adC rs r os' bs' st')→∃v,(results fn a'.tmps).run P w'= .ok v w'∧∃v' E' r os' bs',post r os' bs'∧Ending.returned v= .returned v'∧Rel B Xs ⟨E,os,w⟩ w0 ⟨[],os',bs'⟩ E' {tmps:= #[],defers:= []} w'∧r.ok E' os' w' v':=by
  rintro⟨r,os',bs',hp,h1,h2,q1,q2,q3,q4⟩
  obtain⟨r1,k1⟩:=uS q1
  obtain⟨r2,k2⟩:=vI q2
  have drop:∀{fr':List AV} {E'':Env},Rel B Xs ⟨E,os,w⟩ w0 ⟨fr',os',bs'⟩ E'' a' w'→Rel B Xs ⟨E,os,w⟩ w0 ⟨[],os',bs'⟩ E'' {tmps:= #[],defers:= []} w':=fun hh=>
   {eb:=hh.eb,ex:=hh.ex,sim:=hh.sim,defers:=rfl,size:=rfl,fr:=fun t y hy=>by simp at hy,olen:=hh.olen,own:=hh.own,blen:=hh.blen,box:=hh.box,nodup:=hh.nodup,lin:=hh.lin,unf:=hh.unf,below:=hh.below,base:=hh.base}
  match rs,q4 with
  | [],q4=>
    obtain⟨E'',hh⟩:=g1.weak (st':=⟨List.replicate st'.fr.length .any,os',bs'⟩) ⟨Bj _,⟨r1,k1⟩,⟨r2,k2⟩,fun xs hx=>List.all_eq_true.1 q3 xs hx⟩ (by simp only;omega) (by simp only;omega)
    subst q4
    exact⟨_,results_none hr _ P w',_,E'',_,os',bs',hp,rfl,drop hh,rfl,trivial⟩
  | [.tmp t],q4=>
    obtain⟨E'',hh⟩:=g1.weak (st':=⟨(List.replicate st'.fr.length .any).set t r,os',bs'⟩) ⟨Ij q4.2 _ _ q4.1,⟨r1,k1⟩,⟨r2,k2⟩,fun xs hx=>List.all_eq_true.1 q3 xs hx⟩ (by simp only;omega) (by simp only;omega)
    refine⟨_,results_tmp hr _ P w',_,E'',r,os',bs',hp,rfl,drop hh, ?_⟩
    have hlen:t<st'.fr.length∨r= .any:=by
     rcases Nat.lt_or_ge t st'.fr.length with hlt|hge
     ·exact Or.inl hlt
     ·refine Or.inr ?_
      rw[← q4.1,List.getD_eq_getElem?_getD,List.getElem?_eq_none hge]
      rfl
    rcases hlen with hlt|rfl
    ·exact hh.fr t r (by simp only;rw[List.getElem?_set_self (by simpa using hlt)])
    ·trivial
 cases e with
 | normal=>
   obtain⟨v,h3,h4⟩:=fin g2
   exact⟨g1.defers,v,h3,h4⟩
 | ret=>
   obtain⟨v,h3,h4⟩:=fin g2
   exact⟨g1.defers,v,h3,h4⟩
 |_=>exact g2.elim
section
variable{lo:Nat×Nat}{P:Program}{K:St→Prop}{Q:Exit→St→Prop}{st:St}{m:Bool}
theorem jO{c:Opd}{x y:IC}{b:Bool}(hb:st.ev c= .c false [.raw (.bool b)])(h1:b=true→dK lo P x Q st)(h2:b=false→dK lo P y Q st):dK lo P (.cond c x y) Q st:=I5 hb h1 h2
theorem pW{os:List Own}{xs:List AV}{ds:List D}(h:bM os xs ds):bM os xs ds:=h
theorem oG{f:Nat}(h:CZ P f=true):CZ P f=true:=h
theorem fM{a b:Prop}(h1:a)(h2:b):a∧b:=⟨h1,h2⟩
theorem aB{d:Option Nat}{f:Nat}{avs:List AV}{rest:List IOp}(h:kP P K d f avs rest st):kP P K d f avs rest st:=h
theorem eX{d:Option Nat}{f:Nat}{avs:List AV}{rest:List IOp}(h:uK P m K d f avs rest st):uK P m K d f avs rest st:=h
theorem Si{d:Option Nat}{x:AV}{avs:List AV}{rest:List IOp}(h:yJ P K d x avs rest st):yJ P K d x avs rest st:=h
theorem IJ{d:Option Nat}{x:AV}{avs:List AV}{rest:List IOp}(h:vU P m K d x avs rest st):vU P m K d x avs rest st:=h
theorem ak{l:List IOp}(h:sw P K l st):sw P K l st:=h
theorem bf{l:List IOp}(h:sd P m K l st):sd P m K l st:=h
theorem fH{d:Option Nat}{g:Nat}{w:Bool}{i:I}{rest:List IOp}(hg:gdA st (some (g,w))=some true)(h:sw P K (⟨d,none,i⟩::rest) st):sw P K (⟨d,some (g,w),i⟩::rest) st:=by
 rw[OJ,hg];exact h
theorem fJ{d:Option Nat}{g:Nat}{w:Bool}{i:I}{rest:List IOp}(hg:gdA st (some (g,w))=some false)(h:sw P K rest (st.put d (.c false [.raw undef]))):sw P K (⟨d,some (g,w),i⟩::rest) st:=by
 rw[OJ,hg];exact h
theorem oZ{d:Option Nat}{g:Nat}{w:Bool}{i:I}{rest:List IOp}(hg:gdA st (some (g,w))=some true)(h:sd P m K (⟨d,none,i⟩::rest) st):sd P m K (⟨d,some (g,w),i⟩::rest) st:=by
 rw[O5,hg];exact h
theorem o7{d:Option Nat}{g:Nat}{w:Bool}{i:I}{rest:List IOp}(hg:gdA st (some (g,w))=some false)(h:sd P m K rest (st.put d (.c false [.raw undef]))):sd P m K (⟨d,some (g,w),i⟩::rest) st:=by
 rw[O5,hg];exact h
theorem sQ{g:Nat}{w b:Bool}(h:st.fr.getD g .any= .c false [.raw (.bool b)]):gdA st (some (g,w))=some (b==w):=by
 simp only[gdA,h]
theorem Yy{d:Option Nat}{g:Nat}{w b:Bool}{i:I}{rest:List IOp}(hg:st.fr.getD g .any= .c false [.raw (.bool b)])(h1:b=w→sw P K (⟨d,none,i⟩::rest) st)(h2:b= !w→sw P K rest (st.put d (.c false [.raw undef]))):
 sw P K (⟨d,some (g,w),i⟩::rest) st:=by
 cases b<;>cases w
 ·exact fH (sQ hg) (h1 rfl)
 ·exact fJ (sQ hg) (h2 rfl)
 ·exact fJ (sQ hg) (h2 rfl)
 ·exact fH (sQ hg) (h1 rfl)
theorem YI{d:Option Nat}{g:Nat}{w b:Bool}{i:I}{rest:List IOp}(hg:st.fr.getD g .any= .c false [.raw (.bool b)])(h1:b=w→sd P m K (⟨d,none,i⟩::rest) st)(h2:b= !w→sd P m K rest (st.put d (.c false [.raw undef]))):
 sd P m K (⟨d,some (g,w),i⟩::rest) st:=by
 cases b<;>cases w
 ·exact oZ (sQ hg) (h1 rfl)
 ·exact o7 (sQ hg) (h2 rfl)
 ·exact o7 (sQ hg) (h2 rfl)
 ·exact oZ (sQ hg) (h1 rfl)
end
theorem iG{lo:Nat×Nat}{P:Program}{Q:Exit→St→Prop}{X:Type}{c:IC}{fr0:List AV}{os0:List Own}{bs0:List (List AC)}(sp:X→List Sp)(ow:X→List Own)(bx:X→List (List AC)→List (List AC))(inv:X→Prop)(μ:X→Nat)(x0:X)(h0:inv x0)
 (hlo:∀x,lo.1≤(ow x).length∧lo.2≤(bx x bs0).length) (hle:aO ⟨fr0,os0,bs0⟩ (FB fr0 bs0 sp ow bx x0)) (round:∀x,inv x→dK lo P c (Aa (FB fr0 bs0 sp ow bx) inv μ x Q) (FB fr0 bs0 sp ow bx x)):dK lo P (.loop c) Q ⟨fr0,os0,bs0⟩:=
 LM (FB fr0 bs0 sp ow bx) inv μ x0 h0 hlo (EX hle) round
theorem jw{z:Int}(h1: -9223372036854775808≤z)(h2:z≤9223372036854775807):IntKind.i64.wrap z=z:=IntWalk.i64_in _ ⟨h1,h2⟩
theorem afy{α:Type}{a b:Nat}{x y:α}(h:a<b):(if a<b then x else y)=x:=if_pos h
theorem afz{α:Type}{a b:Nat}{x y:α}(h:a≤b):(if a≤b then x else y)=x:=if_pos h
theorem afH{p:Prop}[Decidable p](h:p):decide p=true:=decide_eq_true h
theorem afI{p:Prop}[Decidable p](h:¬p):decide p=false:=decide_eq_false h
theorem afN{a b:Int}(h:a=b):(a==b)=true:=by simp[h]
theorem En{a b:Int}(h:a≠b):(a==b)=false:=by simp[h]
theorem afL{a b:Int}(h:a≠b):(a !=b)=true:=by simp[h]
theorem afM{a b:Int}(h:a=b):(a !=b)=false:=by simp[h]
theorem abX{l:List D}{k:Nat}(h:k<l.length):idx l (some (k:Int))=some l[k]:=by
 rw[Xd,a_ h]
theorem Qe{α:Type}(f:α→D)(l:List α){z:Int}(h0:0≤z)(h:z.toNat<l.length):idx (l.map f) (some z)=some (f l[z.toNat]):=by
 simp only[idx]
 rw[if_pos h0,t_,a_ h]
 rfl
theorem VU{k n:Nat}(h:k≤n):mZ none (some (k:Int)) n=some (0,k):=by
 simp[mZ,h]
theorem Cc{k n:Nat}(h:k≤n):mZ (some (k:Int)) none n=some (k,n):=by
 simp[mZ,h]
theorem JW{j k n:Nat}(h:j≤k)(h':k≤n):mZ (some (j:Int)) (some (k:Int)) n=some (j,k):=by
 simp only[mZ,k_]
 rw[if_pos (by omega)]
 simp
theorem OT{n:Nat}(h:1≤n):mZ (some (1:Int)) none n=some (1,n):=by
 have:=Cc h
 simpa using this
theorem OU{n:Nat}:mZ none none n=some (0,n):=by
 simp[mZ]
section
variable{α:Type}
theorem gK(l ys:List α)(k:Nat):(l++ys)[l.length+k]? =ys[k]? :=by
 rw[B_ (by omega),O_]
theorem gy(l ys:List α):(l++ys)[l.length]? =ys[0]? :=by
 have:=gK l ys 0
 simpa using this
theorem iw(l ys:List α)(k:Nat)(y:α):(l++ys).set (l.length+k) y=l++ys.set k y:=by
 rw[List.set_append_right _ _ (by omega),O_]
theorem gu(l ys:List α)(y:α):(l++ys).set l.length y=l++ys.set 0 y:=by
 simp
end
theorem gG :∀(os:List Own),aK os os
 | []=>trivial
 |o::os=>⟨⟨rfl,rfl,rfl,rfl,rfl⟩,gG os⟩
theorem YX(os:List Own):aK os []:=by cases os<;>trivial
theorem J8 :∀(os:List Own) {r s:List Own} (_:aK r s),aK (os++r) (os++s)
 | [],_,_,h=>h
 |o::os,_,_,h=>⟨⟨rfl,rfl,rfl,rfl,rfl⟩,J8 os h⟩
theorem J7(os r:List Own):aK (os++r) os:=by
 have:=J8 os (YX r)
 rwa[R_]at this
theorem ny :∀(bs:List (List AC)),aN bs bs
 | []=>trivial
 |b::bs=>⟨rfl,ny bs⟩
theorem ZH(bs:List (List AC)):aN bs []:=by cases bs<;>trivial
theorem yF :∀(bs:List (List AC)) {r s:List (List AC)} (_:aN r s),aN (bs++r) (bs++s)
 | [],_,_,h=>h
 |b::bs,_,_,h=>⟨rfl,yF bs h⟩
theorem yE(bs r:List (List AC)):aN (bs++r) bs:=by
 have:=yF bs (ZH r)
 rwa[R_]at this
theorem Tf{n m n' m':Nat}(h:n≤n')(h':m≤m'){x:AC}(hx:x.fits n m=true):x.fits n' m'=true:=by
 cases x with
 |own k i=>simp[AC.fits]at hx⊢;omega
 |osub k i a b=>simp[AC.fits]at hx⊢;omega
 | cl f caps=>
   simp only[AC.fits,v_,decide_eq_true_eq]at hx⊢
   exact fun k hk=>D_ (hx k hk) h'
 |_=>rfl
def iP(n m:Nat)(bx:List (List AC)):Prop:=(bx.all fun xs=>xs.all (AC.fits n m))=true
theorem Oh{n m:Nat}{bx:List (List AC)}(h:iP n m bx):iP n m bx:=h
theorem iP.mono{n m n' m':Nat}{bx:List (List AC)}(h:iP n m bx)(h1:n≤n')(h2:m≤m'):iP n' m' bx:=by
 simp only[iP,v_]at h⊢
 exact fun xs hx x hxx=>Tf h1 h2 (h xs hx x hxx)
theorem SA{P:Program}{f:Nat}{avs avs':List AV}{os os':List Own}{bs bs':List (List AC)}{r:AV}(h:iH P f avs os bs r os' bs')(hle:∀E w vs,oU E os w avs' vs→oU E os w avs vs):iH P f avs' os bs r os' bs':=
 fun B Xs G w0 fr E a w vs hR hv=>h B Xs G w0 fr E a w vs hR (hle E w vs hv)
theorem agb{E:Env}{os:List Own}{w:World}{b:Bool}{v:Value}(h:(AV.c false [.raw (.slice none 0 0)]).ok E os w v):(AV.c false [.sl b []]).ok E os w v:=by
 obtain rfl:=h.1
 refine⟨⟨[], ?_,fun b hb=>by simp at hb⟩,trivial⟩
 unfold Sl
 rw[R]
 exact⟨none,0,rfl,s_ _,u_ _,r_ ⟨rfl,rfl⟩⟩
theorem pkA :type_of% (aho @K_.{0,0} (aho @a_B.{0,0} (aho @H_.{0} (aho @a_p.{0} (aho @w_.{0} (aho @a_q.{0} (aho @C_.{0,0} (aho @Y_.{0} (aho @Z_.{0} (aho @P_.{0} (aho @Q_.{0} (aho @a_c.{0} (aho @a_d.{0} (aho @a_a.{0} (aho @a_t.{0} (aho @a_b.{0} (aho @a_u.{0} (aho @a_v.{0} (aho @a_w.{0} (aho @a_C (aho @a_D (aho @a_E.{0} (aho @n_.{0} (aho @a_x (aho @a_y (aho @a_z (aho @L_ (aho @J_ (aho @beq_self_eq_true.{0} (aho @if_true.{1} (aho @if_false.{1} (aho @ite_true.{1} (aho @ite_false.{1} (aho @a_e (aho @true_and (aho @and_true (aho @decide_true (aho @decide_false (aho @k_.{0} (aho @a_l.{0} (aho @s_ (aho @u_ (aho @Int.toNat_natCast (aho @Int.natCast_nonneg (aho @BEq.rfl.{0} (aho @S_.{0,0} (aho @a_r.{0,0} (aho @adb (aho @ada (aho @dI (aho @dH (aho @dL (aho @fA (aho @dQ (aho @dF (aho @acD (@XW))))))))))))))))))))))))))))))))))))))))))))))))))))))))):=aho @K_.{0,0} (aho @a_B.{0,0} (aho @H_.{0} (aho @a_p.{0} (aho @w_.{0} (aho @a_q.{0} (aho @C_.{0,0} (aho @Y_.{0} (aho @Z_.{0} (aho @P_.{0} (aho @Q_.{0} (aho @a_c.{0} (aho @a_d.{0} (aho @a_a.{0} (aho @a_t.{0} (aho @a_b.{0} (aho @a_u.{0} (aho @a_v.{0} (aho @a_w.{0} (aho @a_C (aho @a_D (aho @a_E.{0} (aho @n_.{0} (aho @a_x (aho @a_y (aho @a_z (aho @L_ (aho @J_ (aho @beq_self_eq_true.{0} (aho @if_true.{1} (aho @if_false.{1} (aho @ite_true.{1} (aho @ite_false.{1} (aho @a_e (aho @true_and (aho @and_true (aho @decide_true (aho @decide_false (aho @k_.{0} (aho @a_l.{0} (aho @s_ (aho @u_ (aho @Int.toNat_natCast (aho @Int.natCast_nonneg (aho @BEq.rfl.{0} (aho @S_.{0,0} (aho @a_r.{0,0} (aho @adb (aho @ada (aho @dI (aho @dH (aho @dL (aho @fA (aho @dQ (aho @dF (aho @acD (@XW))))))))))))))))))))))))))))))))))))))))))))))))))))))))
theorem pkN :type_of% (aho @afy (aho @afz (aho @afH (aho @afI (aho @afN (aho @En (aho @afL (aho @afM (aho @dN (aho @jw (aho @abX (aho @dD (aho @Qe (aho @VU (aho @Cc (aho @JW (aho @OT (@OU)))))))))))))))))):=aho @afy (aho @afz (aho @afH (aho @afI (aho @afN (aho @En (aho @afL (aho @afM (aho @dN (aho @jw (aho @abX (aho @dD (aho @Qe (aho @VU (aho @Cc (aho @JW (aho @OT (@OU)))))))))))))))))
theorem pkC :type_of% (aho @decide_eq_true_eq (aho @decide_eq_false_iff_not (aho @beq_iff_eq.{0} (aho @bne_iff_ne.{0} (aho @ne_eq.{1} (aho @beq_eq_false_iff_ne.{0} (aho @bne_eq_false_iff_eq.{0} (aho @a_j (aho @a_g (aho @V_ (aho @L_ (@J_)))))))))))):=aho @decide_eq_true_eq (aho @decide_eq_false_iff_not (aho @beq_iff_eq.{0} (aho @bne_iff_ne.{0} (aho @ne_eq.{1} (aho @beq_eq_false_iff_ne.{0} (aho @bne_eq_false_iff_eq.{0} (aho @a_j (aho @a_g (aho @V_ (aho @L_ (@J_)))))))))))
theorem pkW :type_of% (aho @aaT (aho @V9 (aho @aa3 (aho @aa4 (aho @aaR (aho @Wh (aho @aaX (aho @aaS (aho @Pm (aho @aa1 (aho @aa2 (aho @aaW (aho @V8 (aho @aaQ (aho @aaY (aho @aaV (aho @aaU (aho @Wi (aho @V7 (aho @aft (aho @aa0 (aho @aaZ (aho @Wn (@Wj)))))))))))))))))))))))):=aho @aaT (aho @V9 (aho @aa3 (aho @aa4 (aho @aaR (aho @Wh (aho @aaX (aho @aaS (aho @Pm (aho @aa1 (aho @aa2 (aho @aaW (aho @V8 (aho @aaQ (aho @aaY (aho @aaV (aho @aaU (aho @Wi (aho @V7 (aho @aft (aho @aa0 (aho @aaZ (aho @Wn (@Wj)))))))))))))))))))))))
theorem pkS :type_of% (aho @aan (aho @aap (aho @aao (aho @VP (aho @OL (aho @aaq (aho @OI (aho @VQ (@afo))))))))):=aho @aan (aho @aap (aho @aao (aho @VP (aho @OL (aho @aaq (aho @OI (aho @VQ (@afo))))))))
theorem pkD :type_of% (aho @abd (aho @Wu (aho @abo (aho @abp (aho @aa9 (aho @Wv (aho @abh (aho @abb (aho @Pv (aho @abm (aho @Pq (aho @Wy (aho @abn (aho @abg (aho @Ws (aho @aa8 (aho @abj (aho @abf (aho @abe (aho @Wx (aho @Wq (aho @afu (aho @abl (aho @abk (aho @WB (aho @WA (aho @acI (aho @X0 (aho @acS (aho @acT (aho @acG (aho @X3 (aho @acM (aho @acH (aho @RU (aho @acQ (aho @RS (aho @X5 (aho @acR (aho @acL (aho @XZ (aho @acF (aho @acN (aho @acK (aho @acJ (aho @X4 (aho @XY (aho @afG (aho @acP (aho @acO (aho @X8 (aho @X7 (aho @X6 (aho @zB (@zC))))))))))))))))))))))))))))))))))))))))))))))))))))))):=aho @abd (aho @Wu (aho @abo (aho @abp (aho @aa9 (aho @Wv (aho @abh (aho @abb (aho @Pv (aho @abm (aho @Pq (aho @Wy (aho @abn (aho @abg (aho @Ws (aho @aa8 (aho @abj (aho @abf (aho @abe (aho @Wx (aho @Wq (aho @afu (aho @abl (aho @abk (aho @WB (aho @WA (aho @acI (aho @X0 (aho @acS (aho @acT (aho @acG (aho @X3 (aho @acM (aho @acH (aho @RU (aho @acQ (aho @RS (aho @X5 (aho @acR (aho @acL (aho @XZ (aho @acF (aho @acN (aho @acK (aho @acJ (aho @X4 (aho @XY (aho @afG (aho @acP (aho @acO (aho @X8 (aho @X7 (aho @X6 (aho @zB (@zC))))))))))))))))))))))))))))))))))))))))))))))))))))))
theorem pkR :type_of% (aho @aaD (aho @aaF (aho @aaE (aho @MN (aho @O6 (aho @aaI (aho @aaG (@aaH)))))))):=aho @aaD (aho @aaF (aho @aaE (aho @MN (aho @O6 (aho @aaI (aho @aaG (@aaH)))))))
def AC.ren(pk:List Nat):AC→AC
 | .own k i=> .own (pk.getD k 0) i
 | .osub k i a b=> .osub (pk.getD k 0) i a b
 |x=>x
def AV.ren(pk:List Nat):AV→AV
 | .c g xs=> .c g (xs.map (AC.ren pk))
 | .ptr xs=> .ptr (xs.map (AC.ren pk))
 | .eptr k i j off=> .eptr (pk.getD k 0) i j off
 | .tup ys=> .tup (ys.map fun y=>(y.1,y.2.map (AC.ren pk)))
 |x=>x
def jW(pk:List Nat)(n m:Nat):List AV→List AV→Prop
 | [],[]=>True
 |x::xs,y::ys=>(y= .any∨(x=y.ren pk∧y.fits n m=true))∧jW pk n m xs ys
 |_,_=>False
def jm(os:List Own):List Nat→List Own→Prop
 | [],[]=>True
 |k::pk,o'::os'=>(match os[k]? with|some o=>o.l=o'.l∧o.e=o'.e∧o.s=o'.s∧o.ver=o'.ver∧o.nw=o'.nw|none=>False)∧jm os pk os'
 |_,_=>False
def iT(pk:List Nat):List (List AC)→List (List AC)→Prop
 |_,[]=>True
 |x::xs,y::ys=>x=y.map (AC.ren pk)∧iT pk xs ys
 | [],_::_=>False
def jR(pk:List Nat)(st st':St):Prop:=pk.Nodup∧jW pk st'.owns.length st'.boxes.length st.fr st'.fr∧jm st.owns pk st'.owns∧iT pk st.boxes st'.boxes∧(st'.boxes.all fun xs=>xs.all (AC.fits st'.owns.length st'.boxes.length))=true
theorem Gh{os:List Own}:∀{pk:List Nat} {os':List Own},jm os pk os'→pk.length=os'.length∧∀(j:Nat) (o':Own),os'[j]? =some o'→∃k,pk[j]? =some k∧os[k]? =some o'
 | [],[],_=>⟨rfl,fun j o' h=>by simp at h⟩
 | k ::pk,o'::os',h=>by
   obtain⟨h1,h2⟩:=Gh h.2
   refine⟨by simp[h1],fun j o'' g=> ?_⟩
   cases j with
   | zero=>
     simp at g
     subst g
     have h3:=h.1
     split at h3
     ·next o ho=>
      refine⟨k,rfl, ?_⟩
      rw[ho]
      congr 1
      cases o;cases o';simp_all
     ·exact h3.elim
   |succ j=>simpa using h2 j o'' (by simpa using g)
 | [],_::_,h=>h.elim
 |_::_,[],h=>h.elim
theorem IZ{pk:List Nat}:∀{xs ys:List (List AC)},iT pk xs ys→ys.length≤xs.length∧∀(j:Nat) (y:List AC),ys[j]? =some y→xs[j]? =some (y.map (AC.ren pk))
 |xs,[],_=>⟨u_ _,fun j y h=>by simp at h⟩
 | x::xs,y::ys,h=>by
   obtain⟨h1,h2⟩:=IZ h.2
   refine⟨by simp;exact h1,fun j z g=> ?_⟩
   cases j with
   |zero=>simp at g;subst g;simp[h.1]
   |succ j=>simpa using h2 j z (by simpa using g)
 | [],_::_,h=>h.elim
theorem La{pk:List Nat}{n m:Nat}:∀{xs ys:List AV},jW pk n m xs ys→xs.length=ys.length∧∀(t:Nat) (y:AV),ys[t]? =some y→y= .any∨(xs[t]? =some (y.ren pk)∧y.fits n m=true)
 | [],[],_=>⟨rfl,fun t y h=>by simp at h⟩
 | x ::xs,y::ys,h=>by
   obtain⟨h1,h2⟩:=La h.2
   refine⟨by simp[h1],fun t z hz=> ?_⟩
   cases t with
   | zero=>
     simp at hz
     subst hz
     rcases h.1 with h'|⟨h',h''⟩
     ·exact r_ h'
     ·exact m_ ⟨by simp[h'],h''⟩
   |succ t=>simpa using h2 t z (by simpa using hz)
 | [],_::_,h=>h.elim
 |_::_,[],h=>h.elim
def Env.pick(E:Env)(pk:List Nat)(m:Nat):Env:={E with om:=pk.map fun k=>E.om.getD k (undef,[]),bm:=E.bm.take m}
theorem RH :∀(L:List (Value×List Nat)) (i j:Nat) (p q:Value×List Nat) (b:Nat),(L.flatMap (fun p=>p.1.ownBlock.toList)).Nodup→L[i]? =some p→L[j]? =some q→p.1.ownBlock=some b→q.1.ownBlock=some b→i=j:=by
 intro L
 induction L with
 |nil=>intro i j p q b _ hi;simp at hi
 | cons z L ih=>
   intro i j p q b hn hi hj hpb hqb
   rw[G_,l_]at hn
   cases i with
   | zero=>
     cases j with
     |zero=>rfl
     | succ j=>
       simp at hi hj
       subst hi
       exact absurd rfl (hn.2.2 b (by simp[hpb]) b (j_.2 ⟨q,e_ hj,by simp[hqb]⟩))
   | succ i=>
     cases j with
     | zero=>
       simp at hi hj
       subst hj
       exact absurd rfl (hn.2.2 b (by simp[hqb]) b (j_.2 ⟨p,e_ hi,by simp[hpb]⟩))
     | succ j=>
       simp at hi hj
       rw[ih i j p q b hn.2.1 hi hj hpb hqb]
theorem F9{L:List (Value×List Nat)}{pk:List Nat}(hlt:∀k∈pk,k<L.length){b:Nat}(hb:b∈(pk.map fun k=>L.getD k (undef,[])).flatMap fun p=>p.1.ownBlock.toList):∃k∈pk,∃p,L[k]? =some p∧p.1.ownBlock=some b:=by
 obtain⟨q,hq,hqb⟩:=j_.1 hb
 obtain⟨k,hk,rfl⟩:=h_.1 hq
 have hkl:=hlt k hk
 rw[c_,a_ hkl]at hqb
 exact⟨k,hk,L[k],a_ hkl,by simpa using hqb⟩
theorem zq{L:List (Value×List Nat)}(hL:(L.flatMap (fun p=>p.1.ownBlock.toList)).Nodup):∀{pk:List Nat},pk.Nodup→(∀k∈pk,k<L.length)→((pk.map fun k=>L.getD k (undef,[])).flatMap fun p=>p.1.ownBlock.toList).Nodup
 | [],_,_=>I_
 | k::pk,hn,hlt=>by
   rw[a_n]at hn
   rw[K_,G_,l_]
   refine⟨by cases(L.getD k (undef,[])).1.ownBlock<;>simp,zq hL hn.2 (fun j hj=>hlt j (by simp[hj])),fun x hx y hy e=> ?_⟩
   subst e
   obtain⟨j,hj,p,g1,g2⟩:=F9 (fun j hj=>hlt j (by simp[hj])) hy
   have hkl:=hlt k (by simp)
   rw[c_,a_ hkl]at hx
   have:=RH L k j L[k] p x hL (a_ hkl) g1 (by simpa using hx) g2
   subst this
   exact hn.1 hj
section
variable{B:Nat}{Xs:List Nat}{G:Org}{w0:World}{st st':St}{E:Env}{a:Act}{w:World}{pk:List Nat}{m:Nat}{os os':List Own}
theorem MV(hlt:∀k∈pk,k<E.om.length){b:Nat}(h:b∈(E.pick pk m).M):b∈E.M:=by
 unfold Env.M at h⊢
 rcases q_.1 h with h|h
 ·refine A_ _ ?_
  exact((x_ m E.bm).map _).subset h
 ·refine y_ _ ?_
  obtain⟨k,hk,p,g1,g2⟩:=F9 hlt h
  exact j_.2 ⟨p,e_ g1,by simp[g2]⟩
theorem xW{j k:Nat}(hk:pk[j]? =some k){p:Value×List Nat}(hp:E.om[k]? =some p):(E.pick pk m).om[j]? =some p:=by
 simp only[Env.pick,t_,hk,S_,c_,hp,k_]
theorem AC.ok.pick(hlt:∀k∈pk,k<E.om.length)(hl:pk.length=os'.length)(ho:∀(j:Nat) (o':Own),os'[j]? =some o'→∃k,pk[j]? =some k∧os[k]? =some o'){x:AC}{v:Value}(h:(x.ren pk).ok E os w v)(hf:x.fits os'.length m=true):x.ok (E.pick pk m) os' w v:=by
 cases x with
 |any=>trivial
 |raw u=>exact h
 | cl f caps=>
   obtain⟨ps,h1,h2⟩:=h
   refine⟨ps, ?_,h2⟩
   rw[← h1]
   refine X_ fun k hk=> ?_
   have:k<m:=by simpa using v_.1 hf k hk
   simp only[Env.pick]
   rw[d_,if_pos this]
 | sl b l=>
   obtain⟨fp,h1,h2⟩:=h
   exact⟨fp,h1,fun b hb=>⟨fun hm=>(h2 b hb).1 (MV hlt hm),(h2 b hb).2⟩⟩
 | own k i=>
   obtain⟨hv,o,p,h1,h2,h3,h4⟩:=h
   have hk:k<os'.length:=by simpa[AC.fits]using hf
   obtain⟨k0,g1,g2⟩:=ho k _ (a_ hk)
   have e:pk.getD k 0=k0:=by rw[c_,g1];rfl
   rw[e]at h1 h2
   rw[h1]at g2
   injection g2 with g2
   exact⟨hv,o,p,by rw[a_ hk,← g2],xW g1 h2,h3,h4⟩
 | osub k i pa pb=>
   obtain⟨hv,o,p,h1,h2,h3,h4⟩:=h
   have hk:k<os'.length:=by simpa[AC.fits]using hf
   obtain⟨k0,g1,g2⟩:=ho k _ (a_ hk)
   have e:pk.getD k 0=k0:=by rw[c_,g1];rfl
   rw[e]at h1 h2
   rw[h1]at g2
   injection g2 with g2
   exact⟨hv,o,p,by rw[a_ hk,← g2],xW g1 h2,h3,h4⟩
theorem Oks.pick(hlt:∀k∈pk,k<E.om.length)(hl:pk.length=os'.length)(ho:∀(j:Nat) (o':Own),os'[j]? =some o'→∃k,pk[j]? =some k∧os[k]? =some o'):∀{xs:List AC} {vs:List Value},Oks E os w (xs.map (AC.ren pk)) vs→xs.all (AC.fits os'.length m)=true→Oks (E.pick pk m) os' w xs vs
 | [],[],_,_=>trivial
 | x::xs,v::vs,h,hf=>by
   simp only[n_,g_]at hf
   exact⟨AC.ok.pick hlt hl ho h.1 hf.1,Oks.pick hlt hl ho h.2 hf.2⟩
 | [],_::_,h,_=>h.elim
 |_::_,[],h,_=>h.elim
theorem Gok.pick(hlt:∀k∈pk,k<E.om.length)(hl:pk.length=os'.length)(ho:∀(j:Nat) (o':Own),os'[j]? =some o'→∃k,pk[j]? =some k∧os[k]? =some o'){g:Bool}{xs:List AC}{v:Value}(h:Gok E os w g (xs.map (AC.ren pk)) v)(hf:xs.all (AC.fits os'.length m)=true):Gok (E.pick pk m) os' w g xs v:=by
 cases g with
 |true=>obtain⟨vs,h1,h2⟩:=h;exact⟨vs,h1,h2.pick hlt hl ho hf⟩
 |false=>exact Oks.pick hlt hl ho (show Oks _ _ _ _ [v] from h) hf
theorem tZ.pick(hlt:∀k∈pk,k<E.om.length)(hl:pk.length=os'.length)(ho:∀(j:Nat) (o':Own),os'[j]? =some o'→∃k,pk[j]? =some k∧os[k]? =some o'):∀{ys:List (Bool×List AC)} {vs:List Value},tZ E os w (ys.map fun y=>(y.1,y.2.map (AC.ren pk))) vs→(ys.all fun y=>y.2.all (AC.fits os'.length m))=true→tZ (E.pick pk m) os' w ys vs
 | [],[],_,_=>trivial
 | y::ys,v::vs,h,hf=>by
   simp only[n_,g_]at hf
   exact⟨Gok.pick hlt hl ho h.1 hf.1,tZ.pick hlt hl ho h.2 hf.2⟩
 | [],_::_,h,_=>h.elim
 |_::_,[],h,_=>h.elim
theorem AV.ok.pick(hlt:∀k∈pk,k<E.om.length)(hl:pk.length=os'.length)(ho:∀(j:Nat) (o':Own),os'[j]? =some o'→∃k,pk[j]? =some k∧os[k]? =some o'){x:AV}{v:Value}(h:(x.ren pk).ok E os w v)(hf:x.fits os'.length m=true):x.ok (E.pick pk m) os' w v:=by
 cases x with
 |any=>trivial
 |c g xs=>exact Gok.pick hlt hl ho h hf
 | ptr xs=>
   obtain⟨b,o,vs,h1,h2,h3,h4,h5⟩:=h
   exact⟨b,o,vs,h1,h2,fun hm=>h3 (MV hlt hm),h4,h5.pick hlt hl ho hf⟩
 | bptr k off=>
   obtain⟨p,h1,h2⟩:=h
   refine⟨p, ?_,h2⟩
   simp only[Env.pick]
   rw[d_,if_pos (by simpa[AV.fits]using hf)]
   exact h1
 | eptr k i j off=>
   obtain⟨o,p,h1,h2,h3,h4⟩:=h
   have hk:k<os'.length:=by simpa[AV.fits]using hf
   obtain⟨k0,g1,g2⟩:=ho k _ (a_ hk)
   have e:pk.getD k 0=k0:=by rw[c_,g1];rfl
   rw[e]at h1 h2
   rw[h1]at g2
   injection g2 with g2
   exact⟨o,p,by rw[a_ hk,← g2],xW g1 h2,h3,h4⟩
 | tup ys=>
   obtain⟨vs,h1,h2⟩:=h
   exact⟨vs,h1,h2.pick hlt hl ho hf⟩
theorem Rel.Oz(h:Rel B Xs G w0 st E a w)(hle:jR pk st st')(hG1:G.os.length=0)(hG2:G.E.bm.length≤st'.boxes.length):∃E',Rel B Xs G w0 st' E' a w:=by
 obtain⟨hnd,h1,h2,h3,h4⟩:=hle
 obtain⟨hl,hf⟩:=La h1
 obtain⟨hpl,ho⟩:=Gh h2
 obtain⟨hbl,hb⟩:=IZ h3
 have hol:=h.olen
 have hbl':=h.blen
 have hlt:∀k∈pk,k<E.om.length:=fun k hk=>by
  obtain⟨j,hj⟩:=z_.1 hk
  have hjl:j<st'.owns.length:=by rw[← hpl];exact(b_.1 hj).1
  obtain⟨k',g1,g2⟩:=ho j _ (a_ hjl)
  rw[hj]at g1
  injection g1 with g1
  subst g1
  rw[hol]
  exact(b_.1 g2).1
 have hnil:G.os= []:=List.eq_nil_of_length_eq_zero hG1
 refine⟨E.pick pk st'.boxes.length, ?_⟩
 exact
  { eb :=h.eb
    ex:=h.ex
    sim := { base:=h.sim.base,size:=h.sim.size,blk:=h.sim.blk,old:=fun b hb hm=>h.sim.old b hb (MV hlt hm),
             own:=fun k o p g1 g2=>by rw[hnil]at g1;simp at g1
             box:=fun k p g=>by
              have hk:k<st'.boxes.length:=D_ (b_.1 g).1 hG2
              simp only[Env.pick]
              rw[d_,if_pos hk];exact h.sim.box k p g}
    defers:=h.defers
    size:=by rw[h.size];exact hl
    fr:=fun t y hy=>by
     rcases hf t y hy with rfl|⟨h5,h6⟩
     ·trivial
     ·exact AV.ok.pick hlt hpl ho (h.fr t _ h5) h6
    olen:=by simp only[Env.pick,C_];exact hpl
    own:=fun k o p g1 g2=>by
     obtain⟨k0,q1,q2⟩:=ho k o g1
     have hk0:k0<E.om.length:=hlt k0 (e_ q1)
     have hp:E.om[k0]? =some p:=by
      have:=xW (m:=st'.boxes.length) q1 (a_ hk0)
      rw[this]at g2
      rw[a_ hk0]
      exact g2
     obtain⟨cs,h5,h6,h7,h8⟩:=h.own k0 o p q2 hp
     exact⟨cs,h5,h6,h7,fun b hb=>⟨fun hm=>(h8 b hb).1 (MV hlt hm),(h8 b hb).2⟩⟩
    blen:=by simp only[Env.pick,M_];omega
    box:=fun k xs p g1 g2=>by
     have hk:k<st'.boxes.length:=(b_.1 g1).1
     simp only[Env.pick]at g2
     rw[d_,if_pos hk]at g2
     obtain⟨h5,vs,h6,h7⟩:=h.box k _ p (hb k xs g1) g2
     exact⟨h5,vs,h6,h7.pick hlt hpl ho (v_.1 h4 xs (e_ g1))⟩
    nodup:=by
     have:=h.nodup
     unfold Env.M at this⊢
     rw[l_]at this⊢
     refine⟨this.1.sublist (by simp only[Env.pick];exact(x_ _ _).map _),zq this.2.1 hnd hlt,fun x hx y hy=> ?_⟩
     refine this.2.2 x ?_ y ?_
     ·exact((x_ st'.boxes.length E.bm).map _).subset hx
     ·obtain⟨k,hk,p,g1,g2⟩:=F9 hlt hy
      exact j_.2 ⟨p,e_ g1,by simp[g2]⟩
    lin:=by
     have hpl':pk.length=st'.owns.length:=hpl
     refine h.lin.map (fun j=>pk.getD j 0) (fun i j hij hi hj e=>hij ?_) fun j o p g1 g2 g3=> ?_
     ·have hi':i<pk.length:=by omega
      have hj':j<pk.length:=by omega
      simp only[c_,a_ hi',a_ hj',k_]at e
      exact(a_k hnd).1 e
     ·obtain⟨k0,q1,q2⟩:=ho j o g1
      have hk0:k0<E.om.length:=hlt k0 (e_ q1)
      have hp:E.om[k0]? =some p:=by
       have:=xW (m:=st'.boxes.length) q1 (a_ hk0)
       rw[this]at g2
       rw[a_ hk0]
       exact g2
      refine m_ ⟨o, ?_, ?_,g3⟩
      ·rw[c_,q1];exact q2
      ·rw[c_,q1];exact hp
    unf:=by
     refine h.unf.map (fun j=>pk.getD j 0) fun j o p g1 g2 g3=> ?_
     obtain⟨k0,q1,q2⟩:=ho j o g1
     have hk0:k0<E.om.length:=hlt k0 (e_ q1)
     have hp:E.om[k0]? =some p:=by
      have:=xW (m:=st'.boxes.length) q1 (a_ hk0)
      rw[this]at g2
      rw[a_ hk0]
      exact g2
     refine m_ ⟨o, ?_, ?_,g3⟩
     ·rw[c_,q1];exact q2
     ·rw[c_,q1];exact hp
    below:=h.below
    base:=h.base}
end
def vV{X:Type}(F:X→St)(inv:X→Prop)(μ:X→Nat)(x:X)(Q:Exit→St→Prop):Exit→St→Prop
 | .normal,st=>∃x' pk,jR pk st (F x')∧inv x'∧μ x'<μ x
 |e,st=>Q e st
section
variable{P:Program}{Q:Exit→St→Prop}{st:St}{i:Nat}
theorem jc{X:Type}{F:X→St}{inv:X→Prop}{μ:X→Nat}{x:X}(h:Q (.exit i) st):vV F inv μ x Q (.exit i) st:=h
theorem jE{X:Type}{F:X→St}{inv:X→Prop}{μ:X→Nat}{x:X}(h:Q .ret st):vV F inv μ x Q .ret st:=h
theorem ng{X:Type}{F:X→St}{inv:X→Prop}{μ:X→Nat}{x:X}(x':X)(pk:List Nat)(h1:jR pk st (F x'))(h2:inv x')(h3:μ x'<μ x):vV F inv μ x Q .normal st:=⟨x',pk,h1,h2,h3⟩
theorem Vt{X:Type}{c:IC}(F:X→St)(inv:X→Prop)(μ:X→Nat)(x0:X)(pk0:List Nat)(h0:inv x0)(hle:jR pk0 st (F x0))(round:∀x,inv x→AWP P c (vV F inv μ x Q) (F x)):AWP P (.loop c) Q st:=fun code hc B Xs G w0 hG E a w hR=>by
 have hG1:G.os.length=0:=Nat.le_zero.1 hG.1
 have hG2:∀x,G.E.bm.length≤(F x).boxes.length:=fun x=>p_ hG.2 (u_ _)
 cases code with
 | loop cc=>
   simp only[ay]at hc
   obtain⟨c',hcc,he⟩:=f_.1 hc
   simp only[IC.loop.injEq]at he
   subst he
   obtain⟨E',hR'⟩:=hR.Oz hle hG1 (hG2 _)
   refine BU (fun n a w=>∃x E,μ x=n∧inv x∧Rel B Xs G w0 (F x) E a w) (μ x0) ⟨x0,E',rfl,h0,hR'⟩ ?_
   rintro n a w ⟨x,E,rfl,hx,hR⟩
   refine wp_mono (round x hx cc hcc B Xs G w0 hG E a w hR) ?_
   rintro e a' w' ⟨st',E',h1,h2⟩
   cases e with
   | normal=>
     obtain⟨x',pk,h3,h4,h5⟩:=h2
     obtain⟨E'',h6⟩:=h1.Oz h3 hG1 (hG2 _)
     exact⟨μ x',h5,x',E'',rfl,h4,h6⟩
   |_=>exact⟨st',E',h1,h2⟩
 |region id cops b=>exact(oL hc (by simp) (by simp)).elim
 |block id x=>simp[ay]at hc
 |cond c x y=>simp only[ay]at hc;split at hc<;>simp at hc
 |seq x y=>simp only[ay]at hc;split at hc<;>simp at hc
 |ret=>simp[ay]at hc
 |exit id=>simp[ay]at hc
 |skip=>simp[ay]at hc
 |label l=>simp[ay]at hc
 |rangeFunc=>simp[ay]at hc
 |scope=>simp[ay]at hc
 |goto=>simp[ay]at hc
 |refuse=>simp[ay]at hc
theorem uJ{X:Type}{c:IC}{fr0:List AV}{os0:List Own}{bs0:List (List AC)}(sp:X→List Sp)(ow:X→List Own)(bx:X→List (List AC)→List (List AC))(inv:X→Prop)(μ:X→Nat)(x0:X)(pk0:List Nat)(h0:inv x0)
 (hle:jR pk0 ⟨fr0,os0,bs0⟩ (FB fr0 bs0 sp ow bx x0)) (round:∀x,inv x→AWP P c (vV (FB fr0 bs0 sp ow bx) inv μ x Q) (FB fr0 bs0 sp ow bx x)):AWP P (.loop c) Q ⟨fr0,os0,bs0⟩:=
 Vt (FB fr0 bs0 sp ow bx) inv μ x0 pk0 h0 hle round
end
def adD(t:Nat)(l:List D)(e s:Nat)(st:St):Prop:=ahh t l e s st∨(st.fr.getD t .any= .c false [.raw (.slice none 0 0)]∧l= [])
theorem lI{P:Program}{f:Nat}{fn:Func}{code:Code}{ic:IC}{ds:List D}{t:Nat}{l:List D}{e s:Nat}(hf:P.funcs[f]? =some fn:=by kernel_rfl)(hb:fn.body=some code:=by kernel_rfl)(hr:fn.results= #[.tmp t]:=by kernel_rfl)(hc:ay P code=some ic)
 (h:AWP P ic (iV (adD t l e s)) (st0 fn.ntmps ds)):dA P f ds l e s:=by
 refine qP (post:=fun w e' w'=>tJ false l e s w e' w') hf hb hc h ?_
 rintro G w w' st E a hR (⟨k,i,o,h1,h2⟩|⟨h1,rfl⟩)
 ·obtain⟨hv,_⟩:=pR hR h1
  obtain⟨cs,f',h3,h4,h5⟩:=PI hR hv ⟨o,h2⟩
  exact⟨_,results_tmp hr a.tmps P w',_,cs,f',rfl,h3,h4,h5,hR.below.out⟩
 ·obtain⟨hv,_⟩:=pR hR h1
  have hv':a.tmps.getD t undef= .slice none 0 0:=hv
  exact⟨_,results_tmp hr a.tmps P w',.slice none 0 0,[],[],congrArg Ending.returned hv',bK.nil,⟨rfl,rfl⟩,fun b hb=>by simp at hb,hR.below.out⟩
theorem Dc{t k i:Nat}{l:List D}{e s:Nat}{st:St}{o:Own}(h1:st.fr.getD t .any= .c false [.own k i])(h2:st.owns[k]? =some o)(h3:o.ver=i)(h4:o.l=l)(h5:o.e=e)(h6:o.s=s)(h7:o.nw.n=true∨kN l):iV (adD t l e s) .ret st:=r_ ⟨k,i,o,h1,h2,h3,h4,h5,h6,h7⟩
theorem acC{t:Nat}{e s:Nat}{st:St}(h1:st.fr.getD t .any= .c false [.raw (.slice none 0 0)]):iV (adD t [] e s) .ret st:=m_ ⟨h1,rfl⟩
def Ot(os:List Own)(pk:List Nat):AC→AC→Prop
 |_,.any=>True
 | .raw v,.raw u=>v=u
 | .raw v,.sl m l=>m=true∧v= .slice none 0 0∧l= []
 | .sl n l,.sl m l'=>n=true∧m=true∧l=l'
 | .own k i,.sl m l=>m=true∧k∉pk∧∃o,os[k]? =some o∧o.ver=i∧o.l=l∧(o.nw.n=true∨kN l)
 | .own k i,.own j z=>pk[j]? =some k∧z=0∧∃o,os[k]? =some o∧o.ver=i
 |_,_=>False
def qp(os:List Own)(pk:List Nat):List AC→List AC→Prop
 | [],[]=>True
 |x::xs,y::ys=>Ot os pk x y∧qp os pk xs ys
 |_,_=>False
def TB(pk:List Nat)(r:ResultVar)(g:Bool)(ys:List AC)(st:St):Prop:=match r with
 | .tmp t=>∃xs,st.fr.getD t .any= .c g xs∧qp st.owns pk xs ys
 | .cell t _=>∃k xs,st.fr.getD t .any= .bptr k 0∧st.boxes[k]? =some xs∧qp st.owns pk xs ys
theorem BJ{os:List Own}{pk:List Nat}:∀{xs ys:List AC},qp os pk xs ys→xs.length=ys.length
 | [],[],_=>rfl
 |x::xs,y::ys,h=>by rw[w_,w_,BJ h.2]
 | [],_::_,h=>h.elim
 |_::_,[],h=>h.elim
section
variable{B H:Nat}{X:List Nat}{bm0:List (Nat×TypeId)}{G:Org}{w0:World}{st:St}{E:Env}{a:Act}{w:World}{pk:List Nat}{os':List Own}
structure OutAt (B H:Nat) (X:List Nat) (bm0:List (Nat×TypeId)) (E:Env) (pk:List Nat) (os:List Own) (os':List Own):Prop where
 nw:∀x,E.nw x→H≤x∨x∈X
 own:∀(k:Nat) (p:Value×List Nat) (x:Nat),E.om[k]? =some p→p.1.ownBlock=some x→H≤x
 bm:∀q:Nat×TypeId,q∈bm0→∃k':Nat,E.bm[k']? =some q
 get:∀(j k:Nat),pk[j]? =some k→∃o',os'[j]? =some o'
 lt:∀k∈pk,k<E.om.length
theorem WH(hA:OutAt B H X bm0 E pk st.owns os'){x:Nat}(hx:x∈(⟨H,qF E pk,bm0,X⟩:Env).M):x∈E.M∧((∃q∈bm0,q.1=x)∨∃k∈pk,∃p,E.om[k]? =some p∧p.1.ownBlock=some x):=by
 unfold Env.M at hx
 simp only at hx
 rcases q_.1 hx with hx|hx
 ·obtain⟨q,hq,rfl⟩:=h_.1 hx
  obtain⟨k',hk'⟩:=hA.bm q hq
  exact⟨jh.2 (r_ ⟨k',q,hk',rfl⟩),r_ ⟨q,hq,rfl⟩⟩
 ·obtain⟨q,hq,hqb⟩:=j_.1 hx
  unfold qF at hq
  obtain⟨k,hk,rfl⟩:=h_.1 hq
  have hlt:=hA.lt k hk
  rw[c_,a_ hlt]at hqb
  have hb:(E.om[k]).1.ownBlock=some x:=by simpa using hqb
  exact⟨jh.2 (m_ ⟨k,_,a_ hlt,hb⟩),m_ ⟨k,hk,_,a_ hlt,hb⟩⟩
theorem BL(h:Rel B X G w0 st E a w){k k':Nat}{q:Nat×TypeId}{p:Value×List Nat}{x:Nat}(h1:E.bm[k]? =some q)(h2:E.om[k']? =some p)(h3:p.1.ownBlock=some x):q.1≠x:=by
 intro e
 have hn:=h.nodup
 unfold Env.M at hn
 rw[l_]at hn
 exact hn.2.2 q.1 (h_.2 ⟨q,e_ h1,rfl⟩) x (j_.2 ⟨p,e_ h2,by simpa using h3⟩) e
theorem Em(h:Rel B X G w0 st E a w){i j:Nat}{p q:Value×List Nat}{b:Nat}(hi:E.om[i]? =some p)(hj:E.om[j]? =some q)(hp:p.1.ownBlock=some b)(hq:q.1.ownBlock=some b):i=j:=by
 have hn:=h.nodup
 unfold Env.M at hn
 rw[l_]at hn
 exact RH _ i j p q b hn.2.1 hi hj hp hq
theorem vN(h:Rel B X G w0 st E a w)(hA:OutAt B H X bm0 E pk st.owns os'){x y:AC}{v:Value}(hf:Ot st.owns pk x y)(hx:x.ok E st.owns w v):y.ok ⟨H,qF E pk,bm0,X⟩ os' w v:=by
 have hmem:∀x,x∉E.M→x∉(⟨H,qF E pk,bm0,X⟩:Env).M:=fun x hx hm=>hx (WH hA hm).1
 cases y with
 |any=>trivial
 | raw u=>cases x with
   |raw v'=>obtain rfl:=hf;exact hx
   |_=>exact hf.elim
 | sl n l=>cases x with
   | sl n' l'=>
     obtain⟨rfl,rfl,rfl⟩:=hf
     obtain⟨fp,h1,h2⟩:=hx
     exact⟨fp,h1,fun b hb=>⟨hmem b (h2 b hb).1,fun _=>hA.nw b ((h2 b hb).2 rfl)⟩⟩
   | own k i=>
     obtain⟨rfl,hk,o,h1,h2,rfl,h3⟩:=hf
     obtain⟨_,o',p,g1,g2,g3,g4⟩:=hx
     rw[h1]at g1
     injection g1 with g1
     subst g1
     obtain rfl:=g4 h2
     obtain⟨cs,h5,h6,h7,h8⟩:=h.own k o p h1 g2
     refine⟨_,Sl.nI h5 h6,fun b hb=> ?_⟩
     rcases q_.1 hb with hb|hb
     ·have hb':p.1.ownBlock=some b:=by simpa using hb
      refine⟨fun hm=> ?_,fun _=>r_ (hA.own k p b g2 hb')⟩
      rcases(WH hA hm).2 with⟨q,hq,e⟩|⟨k',hk',p',g5,g6⟩
      ·obtain⟨k',hk'⟩:=hA.bm q hq
       exact BL h hk' g2 hb' e
      ·exact hk (Em h g2 g5 hb' g6▸hk')
     ·refine⟨hmem b (h8 b hb).1,fun _=> ?_⟩
      rcases h3 with h3|h3
      ·exact hA.nw b ((h8 b hb).2 h3)
      ·rw[h3 _ _ _ h6]at hb;simp at hb
   | raw v'=>
     obtain⟨rfl,rfl,rfl⟩:=hf
     obtain rfl:=hx
     exact⟨[],Sl.nI (l:= []) (fp:= []) (base:=0) (e:=0) (s:=0) (v:= .slice none 0 0) bK.nil ⟨rfl,rfl⟩,fun b hb=>by simp at hb⟩
   |any=>exact hf.elim
   |osub _ _ _ _=>exact hf.elim
   |cl _ _=>exact hf.elim
 |osub _ _ _ _=>cases x<;>exact hf.elim
 | own j z=>cases x with
   | own k i=>
     obtain⟨hj,rfl,o,h1,h2⟩:=hf
     obtain⟨hv,o',p,g1,g2,g3,g4⟩:=hx
     rw[h1]at g1
     injection g1 with g1
     subst g1
     obtain⟨o2,q1⟩:=hA.get j k hj
     refine⟨hv,o2,p,q1, ?_,u_ _,fun _=>g4 h2⟩
     rw[Aq hj,c_,g2]
     rfl
   |_=>exact hf.elim
 |cl f caps=>cases x<;>exact hf.elim
theorem tC(h:Rel B X G w0 st E a w)(hA:OutAt B H X bm0 E pk st.owns os'):∀{xs ys:List AC} {vs:List Value},qp st.owns pk xs ys→Oks E st.owns w xs vs→Oks ⟨H,qF E pk,bm0,X⟩ os' w ys vs
 | [],[],[],_,_=>trivial
 |x::xs,y::ys,v::vs,hf,hx=>⟨vN h hA hf.1 hx.1,tC h hA hf.2 hx.2⟩
 | [],[],_::_,_,hx=>hx.elim
 |_::_,_::_,[],_,hx=>hx.elim
 | [],_::_,_,hf,_=>hf.elim
 |_::_,[],_,hf,_=>hf.elim
theorem xw{P:Program}(h:Rel B X G w0 st E a w)(hA:OutAt B H X bm0 E pk st.owns os'){r:ResultVar}{g:Bool}{ys:List AC}(hp:fE P r g ys.length=true)(hf:TB pk r g ys st):
 ∃v,(kE r a.tmps).run P w= .ok v w∧Gok ⟨H,qF E pk,bm0,X⟩ os' w g ys v:=by
 cases r with
 | tmp t=>
   obtain⟨xs,h1,h2⟩:=hf
   refine⟨_,rfl, ?_⟩
   have hx:=pR h h1
   cases g with
   |true=>obtain⟨vs,h3,h4⟩:=hx;exact⟨vs,h3,tC h hA h2 h4⟩
   |false=>exact tC h hA h2 (show Oks E st.owns w xs [_] from hx)
 | cell t ty=>
   obtain⟨k,xs,h1,h2,h3⟩:=hf
   obtain⟨p,h4,h5⟩:=pR h h1
   obtain⟨_,vs,h6,h7⟩:=h.box k xs p h2 h4
   simp only[fE,g_,Af]at hp
   obtain⟨rfl,hp⟩:=hp
   split at hp
   ·next i d hi hd=>
    simp only[g_,beq_iff_eq]at hp
    have hlen:vs.length=i.size:=by rw[← h7.len,BJ h3,hp.1]
    refine⟨.agg vs.toArray, ?_,vs,rfl,tC h hA h3 h7⟩
    simp only[kE]
    rw[h5]
    have:=run_loadVar_row (P:=P) w p.1 p.2 ty vs.toArray (0,0) d h6 hd (by have:=hp.2;cases d<;>simp_all [pz]) (by rw[hi];simp[hlen])
    simp[asAddr,this]
   ·cases hp
def Tz(os:List Own):List Nat→List Own→Prop
 | [],[]=>True
 |k::pk,o'::os'=>(∃o,os[k]? =some o∧o'=⟨o.l,o.e,o.s,0,⟨true,true⟩⟩∧kN o.l)∧Tz os pk os'
 |_,_=>False
theorem Ar{os:List Own}:∀{pk:List Nat} {os':List Own},Tz os pk os'→vT os pk os'
 | [],[],_=>trivial
 | k::pk,o'::os',h=>by
   obtain⟨⟨o,h1,rfl,h3⟩,h4⟩:=h
   exact⟨⟨o,h1,rfl,m_ h3⟩,Ar h4⟩
 | [],_::_,h=>h.elim
 |_::_,[],h=>h.elim
theorem J9{os:List Own}:∀{pk:List Nat} {os':List Own},Tz os pk os'→∀(j k:Nat) (o':Own),pk[j]? =some k→os'[j]? =some o'→∃o,os[k]? =some o∧o'=⟨o.l,o.e,o.s,0,⟨true,true⟩⟩∧kN o.l
 | [],[],_,j,k,o',h1,_=>by simp at h1
 | k::pk,o'::os',h,0,k',o2,h1,h2=>by
   simp at h1 h2
   subst h1 h2
   exact h.1
 |k::pk,o'::os',h,j+1,k',o2,h1,h2=>J9 h.2 j k' o2 (by simpa using h1) (by simpa using h2)
 | [],_::_,h,_,_,_,_,_=>h.elim
 |_::_,[],h,_,_,_,_,_=>h.elim
theorem YW{w:World}{base base' e s:Nat}{v:Value}{n:Nat}{cs:List Value}(h:bK w base e s v n cs)(hb:∀x,v.ownBlock=some x→base'≤x):bK w base' e s v n cs:=by
 refine⟨h.1, ?_⟩
 rcases h.2 with h2|⟨g,z,cap,cur,rfl,hb',r⟩
 ·exact r_ h2
 ·exact m_ ⟨g,z,cap,cur,rfl,hb g rfl,r⟩
theorem Px{L:List (Value×List Nat)}(hn:(L.flatMap fun q=>q.1.ownBlock.toList).Nodup):∀{pk:List Nat},pk.Nodup→(∀k∈pk,k<L.length)→((pk.map fun k=>L.getD k (undef,[])).flatMap fun q=>q.1.ownBlock.toList).Nodup:=fun hnd hlt=>zq hn hnd hlt
theorem DN(h:Rel B X G w0 st E a w)(hO:∀(k:Nat) (p:Value×List Nat) (x:Nat),E.om[k]? =some p→p.1.ownBlock=some x→H≤x)(ho:Tz st.owns pk os')(hnd:pk.Nodup):vP H w (qF E pk) os':=by
 obtain⟨l1,l2⟩:=rC (Ar ho)
 have hlt:∀k∈pk,k<E.om.length:=fun k hk=>by
  obtain⟨j,hj⟩:=z_.1 hk
  have hj':j<os'.length:=by rw[← l1];exact(b_.1 hj).1
  obtain⟨o2,q1,_⟩:=l2 j k _ hj (a_ hj')
  rw[h.olen]
  exact(b_.1 q1).1
 have hn:=h.nodup
 unfold Env.M at hn
 rw[l_]at hn
 have hget:∀(j:Nat) (o':Own) (p:Value×List Nat),os'[j]? =some o'→(qF E pk)[j]? =some p→∃k o,pk[j]? =some k∧st.owns[k]? =some o∧E.om[k]? =some p∧o'=⟨o.l,o.e,o.s,0,⟨true,true⟩⟩∧kN o.l:=by
  intro j o' p h1 h2
  have hj:j<pk.length:=by rw[l1];exact(b_.1 h1).1
  obtain⟨o,q1,q2,q3⟩:=J9 ho j pk[j] o' (a_ hj) h1
  refine⟨pk[j],o,a_ hj,q1, ?_,q2,q3⟩
  rw[Aq (a_ hj),c_,a_ (hlt _ (a_m hj))]at h2
  simp only[k_]at h2
  rw[a_ (hlt _ (a_m hj))]
  exact h2
 have hnil:∀(j:Nat) (o':Own) (p:Value×List Nat),os'[j]? =some o'→(qF E pk)[j]? =some p→p.2= []:=by
  intro j o' p h1 h2
  obtain⟨k,o,_,g2,g3,rfl,g5⟩:=hget j o' p h1 h2
  obtain⟨cs,_,h6,_⟩:=h.own k o p g2 g3
  exact g5 _ _ _ h6
 refine⟨by unfold qF;rw[C_];exact l1,fun j o' p h1 h2=> ?_,Px hn.2.1 hnd hlt,⟨fun j o' p h1 h2 _=>by rw[hnil j o' p h1 h2];exact I_,fun i j o1 o2 p1 p2 _ h1 _ h2 _ _ _ b hb=>by rw[hnil i o1 p1 h1 h2]at hb;simp at hb⟩,fun j o' p h1 h2 _ b hb=>by rw[hnil j o' p h1 h2]at hb;simp at hb⟩
 have hn2:=hnil j o' p h1 h2
 obtain⟨k,o,_,g2,g3,rfl,g5⟩:=hget j o' p h1 h2
 obtain⟨cs,h5,h6,h7,h8⟩:=h.own k o p g2 g3
 exact⟨cs,YW h5 (fun x hx=>hO k p x g3 hx),h6,h7,fun b hb=>by rw[hn2]at hb;simp at hb⟩
end
section
variable{P:Program}{f:Nat}{fn:Func}{code:Code}{ic:IC}{ds:List D}
def rX(P:Program)(r:ResultVar)(post:AV→List Own→List AC→Prop)(st:St):Prop:=
 ∃(g:Bool) (ys:List AC) (os':List Own) (c':List AC) (pk:List Nat),post (.c g ys) os' c'∧ys.all AC.tX=true∧st.boxes[0]? =some c'∧c'.all AC.cur=true∧pk.Nodup∧Tz st.owns pk os'∧fE P r g ys.length=true∧TB pk r g ys st
theorem fQ{c:List AC}{r:ResultVar}{post:AV→List Own→List AC→Prop}(hf:P.funcs[f]? =some fn:=by kernel_rfl)(hb:fn.body=some code:=by kernel_rfl)(hr:fn.results= #[r]:=by kernel_rfl)(hc:ay P code=some ic)
 (h:dK (0,1) P ic (iV (rX P r post)) (stS fn.ntmps (.bptr 0 0::ds.map D.av) [] [c])):bH P f ds c post:=by
 intro w b ty us vs X hT hX hrow hok hav
 have hbH:b<w.heap.size:=hrow.lt
 have hR0:Rel b X ⟨⟨w.heap.size,[],[(b,ty)],X⟩,[],w⟩ w ⟨[],[],[c]⟩ ⟨w.heap.size,[],[(b,ty)],X⟩ {tmps:= #[],defers:= []} w:=
  { eb :=Nat.le_of_lt hbH,ex:=rfl,sim:=Sim.refl _ _ _,defers:=rfl,size:=rfl,fr:=fun t y hy=>by simp at hy,olen:=rfl,own:=fun k o p g1 g2=>by simp at g1,blen:=rfl,
    box:=fun k xs p g1 g2=>by
     cases k with
     | zero=>
       simp at g1 g2
       subst g1 g2
       exact⟨Nat.le_refl _,us,hrow,hok⟩
     |succ k=>simp at g1
    nodup:=by simp[Env.M],lin:=⟨fun k o p g1=>by simp at g1,fun j k o o' p p' _ g1=>by simp at g1⟩,unf:=fun k o p g1=>by simp at g1,below:=hT,base:=Nat.le_refl _}
 refine calls_of_wp hf hb ?_
 have:=h code hc b X ⟨⟨w.heap.size,[],[(b,ty)],X⟩,[],w⟩ w ⟨Nat.le_refl _,Nat.le_refl _⟩ ⟨w.heap.size,[],[(b,ty)],X⟩ _ w (ru hR0 (avs:= .bptr 0 0::ds.map D.av) (vs:= .pointer (some ⟨b,0,none⟩)::vs) ⟨⟨(b,ty),rfl,rfl⟩,hav⟩ fn.ntmps)
 refine wp_mono this ?_
 rintro e a' w' ⟨st',E',g1,g2⟩
 have fin:rX P r post st'→∃v,(results fn a'.tmps).run P w'= .ok v w'∧TD X b ty post w (.returned v) w':=by
  rintro⟨g,ys,os',c',pk,hpost,hys,hbx,hc',hnd,ho,hp,hfin⟩
  have hS:=g1.sim
  have hbm:E'.bm[0]? =some (b,ty):=hS.box 0 _ rfl
  have hM0:∀x,x∈(⟨w.heap.size,[],[(b,ty)],X⟩:Env).M→x=b:=fun x hx=>by simpa[Env.M]using hx
  have hO:∀(k:Nat) (p:Value×List Nat) (x:Nat),E'.om[k]? =some p→p.1.ownBlock=some x→w.heap.size≤x:=by
   intro k p x h1 h2
   refine Nat.le_of_not_lt fun hlt=> ?_
   have:=hM0 x (hS.old x hlt (jh.2 (Or.inr ⟨k,p,h1,h2⟩)))
   exact BL g1 hbm h1 h2 this.symm
  obtain⟨l1,l2⟩:=rC (Ar ho)
  have hA:OutAt b w.heap.size X [(b,ty)] E' pk st'.owns os':=
   { nw:=fun x hx=>by rw[hS.base]at hx;exact hx
     own:=hO
     bm:=fun q hq=>⟨0,by simp at hq;subst hq;exact hbm⟩
     get:=fun j k hj=>by
      have:j<os'.length:=by rw[← l1];exact(List.getElem?_eq_some_iff.1 hj).1
      exact⟨_,List.getElem?_eq_getElem this⟩
     lt:=fun k hk=>by
      obtain⟨j,hj⟩:=List.mem_iff_getElem?.1 hk
      have hj':j<os'.length:=by rw[← l1];exact(List.getElem?_eq_some_iff.1 hj).1
      obtain⟨o2,q1,_⟩:=l2 j k _ hj (List.getElem?_eq_getElem hj')
      rw[g1.olen]
      exact(List.getElem?_eq_some_iff.1 q1).1}
  obtain⟨v,h3,h4⟩:=xw g1 hA hp hfin
  obtain⟨_,us',h5,h6⟩:=g1.box 0 c' (b,ty) hbx hbm
  have hcc:∀{xs:List AC} {vs:List Value},xs.all AC.cur=true→Oks E' st'.owns w' xs vs→Oks ⟨w.heap.size,qF E' pk,[(b,ty)],X⟩ os' w' xs vs:=by
   intro xs
   induction xs with
   |nil=>intro vs _ hv;cases vs<;>first|trivial|exact hv.elim
   | cons x xs ih=>
     intro vs hx hv
     cases vs with
     |nil=>exact hv.elim
     | cons v vs=>
       simp only[List.all_cons,Bool.and_eq_true]at hx
       refine⟨?_,ih hx.2 hv.2⟩
       cases x with
       |any=>trivial
       |raw u=>exact hv.1
       |sl n l=>exact vN g1 hA (x:= .sl n l) ⟨hx.1,hx.1,rfl⟩ hv.1
       |own _ _=>simp[AC.cur]at hx
       |osub _ _ _ _=>simp[AC.cur]at hx
       |cl _ _=>simp[AC.cur]at hx
  exact⟨v,pY hr _ h3,v,qF E' pk,.c g ys,os',c',us',hpost,hys,hc',rfl,DN g1 hO ho hnd,h4,h5,hcc hc' h6,g1.below.out,fun x hx hne=>hS.blk x hx (fun hm=>hne (hM0 x hm))⟩
 cases e with
 | normal=>
   obtain⟨v,h3,h4⟩:=fin g2
   exact⟨g1.defers,v,h3,h4⟩
 | ret=>
   obtain⟨v,h3,h4⟩:=fin g2
   exact⟨g1.defers,v,h3,h4⟩
 |_=>exact g2.elim
def adE(post:AV→List Own→List AC→Prop)(st:St):Prop:=∃c',post (.tup []) [] c'∧st.boxes[0]? =some c'∧c'.all AC.cur=true
theorem adh{c:List AC}{post:AV→List Own→List AC→Prop}(hf:P.funcs[f]? =some fn:=by kernel_rfl)(hb:fn.body=some code:=by kernel_rfl)(hr:fn.results= #[]:=by kernel_rfl)(hc:ay P code=some ic)
 (h:dK (0,1) P ic (iV (adE post)) (stS fn.ntmps (.bptr 0 0::ds.map D.av) [] [c])):bH P f ds c post:=by
 intro w b ty us vs X hT hX hrow hok hav
 have hbH:b<w.heap.size:=hrow.lt
 have hR0:Rel b X ⟨⟨w.heap.size,[],[(b,ty)],X⟩,[],w⟩ w ⟨[],[],[c]⟩ ⟨w.heap.size,[],[(b,ty)],X⟩ {tmps:= #[],defers:= []} w:=
  { eb :=Nat.le_of_lt hbH,ex:=rfl,sim:=Sim.refl _ _ _,defers:=rfl,size:=rfl,fr:=fun t y hy=>by simp at hy,olen:=rfl,own:=fun k o p g1 g2=>by simp at g1,blen:=rfl,
    box:=fun k xs p g1 g2=>by
     cases k with
     | zero=>
       simp at g1 g2
       subst g1 g2
       exact⟨Nat.le_refl _,us,hrow,hok⟩
     |succ k=>simp at g1
    nodup:=by simp[Env.M],lin:=⟨fun k o p g1=>by simp at g1,fun j k o o' p p' _ g1=>by simp at g1⟩,unf:=fun k o p g1=>by simp at g1,below:=hT,base:=Nat.le_refl _}
 refine calls_of_wp hf hb ?_
 have:=h code hc b X ⟨⟨w.heap.size,[],[(b,ty)],X⟩,[],w⟩ w ⟨Nat.le_refl _,Nat.le_refl _⟩ ⟨w.heap.size,[],[(b,ty)],X⟩ _ w (ru hR0 (avs:= .bptr 0 0::ds.map D.av) (vs:= .pointer (some ⟨b,0,none⟩)::vs) ⟨⟨(b,ty),rfl,rfl⟩,hav⟩ fn.ntmps)
 refine wp_mono this ?_
 rintro e a' w' ⟨st',E',g1,g2⟩
 have fin:adE post st'→∃v,(results fn a'.tmps).run P w'= .ok v w'∧TD X b ty post w (.returned v) w':=by
  rintro⟨c',hpost,hbx,hc'⟩
  have hS:=g1.sim
  have hbm:E'.bm[0]? =some (b,ty):=hS.box 0 _ rfl
  have hM0:∀x,x∈(⟨w.heap.size,[],[(b,ty)],X⟩:Env).M→x=b:=fun x hx=>by simpa[Env.M]using hx
  have hA:OutAt b w.heap.size X [(b,ty)] E' [] st'.owns []:=
   { nw:=fun x hx=>by rw[hS.base]at hx;exact hx
     own:=fun k p x h1 h2=>Nat.le_of_not_lt fun hlt=>BL g1 hbm h1 h2 (hM0 x (hS.old x hlt (jh.2 (Or.inr ⟨k,p,h1,h2⟩)))).symm
     bm:=fun q hq=>⟨0,by simp at hq;subst hq;exact hbm⟩
     get:=fun j k hj=>by simp at hj
     lt:=fun k hk=>by simp at hk}
  obtain⟨_,us',h5,h6⟩:=g1.box 0 c' (b,ty) hbx hbm
  have hcc:∀{xs:List AC} {vs:List Value},xs.all AC.cur=true→Oks E' st'.owns w' xs vs→Oks ⟨w.heap.size,[],[(b,ty)],X⟩ [] w' xs vs:=by
   intro xs
   induction xs with
   |nil=>intro vs _ hv;cases vs<;>first|trivial|exact hv.elim
   | cons x xs ih=>
     intro vs hx hv
     cases vs with
     |nil=>exact hv.elim
     | cons v vs=>
       simp only[List.all_cons,Bool.and_eq_true]at hx
       refine⟨?_,ih hx.2 hv.2⟩
       cases x with
       |any=>trivial
       |raw u=>exact hv.1
       |sl n l=>exact vN g1 hA (x:= .sl n l) ⟨hx.1,hx.1,rfl⟩ hv.1
       |own _ _=>simp[AC.cur]at hx
       |osub _ _ _ _=>simp[AC.cur]at hx
       |cl _ _=>simp[AC.cur]at hx
  exact⟨_,results_none hr _ P w',_,[],.tup [],[],c',us',hpost,rfl,hc',rfl,⟨rfl,fun k o p hk=>by simp at hk,by simp,Lin.nil,Unf.nil⟩,⟨[],rfl,trivial⟩,h5,hcc hc' h6,g1.below.out,fun x hx hne=>hS.blk x hx (fun hm=>hne (hM0 x hm))⟩
 cases e with
 | normal=>
   obtain⟨v,h3,h4⟩:=fin g2
   exact⟨g1.defers,v,h3,h4⟩
 | ret=>
   obtain⟨v,h3,h4⟩:=fin g2
   exact⟨g1.defers,v,h3,h4⟩
 |_=>exact g2.elim
theorem Ko{B:Nat}{G:Org}{w0 w:World}{st:St}{E:Env}{a:Act}{pk:List Nat}{os':List Own}(hR:Rel B [] G w0 st E a w)(hB:∀(k:Nat) (p:Value×List Nat) (x:Nat),E.om[k]? =some p→p.1.ownBlock=some x→B≤x)(ho:vT st.owns pk os'):OutAt B B [] [] E pk st.owns os':=by
 obtain⟨l1,l2⟩:=rC ho
 exact
  { nw:=fun x hx=>Gl hR hx
    own:=hB
    bm:=fun q hq=>by simp at hq
    get:=fun j k hj=>by
     have:j<os'.length:=by rw[← l1];exact(b_.1 hj).1
     exact⟨_,a_ this⟩
    lt:=fun k hk=>by
     obtain⟨j,hj⟩:=z_.1 hk
     have hj':j<os'.length:=by rw[← l1];exact(b_.1 hj).1
     obtain⟨o2,q1,_⟩:=l2 j k _ hj (a_ hj')
     rw[hR.olen]
     exact(b_.1 q1).1}
def Ew(P:Program)(r:ResultVar)(post:AV→List Own→Prop)(st:St):Prop:=
 ∃(g:Bool) (ys:List AC) (os':List Own) (pk:List Nat),post (.c g ys) os'∧ys.all AC.out=true∧pk.Nodup∧vT st.owns pk os'∧fE P r g ys.length=true∧TB pk r g ys st
theorem eG{r:ResultVar}{post:AV→List Own→Prop}(hf:P.funcs[f]? =some fn:=by kernel_rfl)(hb:fn.body=some code:=by kernel_rfl)(hr:fn.results= #[r]:=by kernel_rfl)(hc:ay P code=some ic)
 (h:AWP P ic (iV (Ew P r post)) (st0 fn.ntmps ds)):bJ P f ds post:=by
 refine qP (post:=fun w e w'=>∃r os',post r os'∧r.out=true∧FH r os' w e w') hf hb hc h ?_
 rintro G w w' st E a hR ⟨g,ys,os',pk,hpost,hys,hnd,ho,hp,hfin⟩
 obtain⟨v,h3,h4⟩:=xw hR (Ko hR (fun k p x h1 h2=>(xP hR h1 h2).1) ho) hp hfin
 exact⟨v,pY hr _ h3,.c g ys,os',hpost,hys,v,qF E pk,rfl,J6 hR ho hnd,h4,hR.below.out⟩
def BN(P:Program)(r q:ResultVar)(post:AV→List Own→Prop)(st:St):Prop:=
 ∃(g g':Bool) (ys zs:List AC) (os':List Own) (pk:List Nat),post (.tup [(g,ys),(g',zs)]) os'∧ys.all AC.out=true∧zs.all AC.out=true∧pk.Nodup∧vT st.owns pk os'∧fE P r g ys.length=true∧fE P q g' zs.length=true∧TB pk r g ys st∧TB pk q g' zs st
theorem pG{r q:ResultVar}{post:AV→List Own→Prop}(hf:P.funcs[f]? =some fn:=by kernel_rfl)(hb:fn.body=some code:=by kernel_rfl)(hr:fn.results= #[r,q]:=by kernel_rfl)(hc:ay P code=some ic)
 (h:AWP P ic (iV (BN P r q post)) (st0 fn.ntmps ds)):bJ P f ds post:=by
 refine qP (post:=fun w e w'=>∃r os',post r os'∧r.out=true∧FH r os' w e w') hf hb hc h ?_
 rintro G w w' st E a hR ⟨g,g',ys,zs,os',pk,hpost,hys,hzs,hnd,ho,hp,hq,hfin,hfin2⟩
 have hA:=Ko hR (fun k p x h1 h2=>(xP hR h1 h2).1) ho
 obtain⟨v,h3,h4⟩:=xw hR hA hp hfin
 obtain⟨u,h5,h6⟩:=xw hR hA hq hfin2
 exact⟨_,DJ hr _ h3 h5,_,os',hpost,by simp[AV.out,hys,hzs],_,qF E pk,rfl,J6 hR ho hnd,⟨[v,u],rfl,h4,h6,trivial⟩,hR.below.out⟩
end
section
variable{P:Program}{B:Nat}{Xs:List Nat}{G:Org}{w0:World}{fr:List AV}{os:List Own}{bs:List (List AC)}{E:Env}{a:Act}{w w':World}
theorem Ol{t:Bool}:∀{xs:List AC} {ds:List D} {vs:List Value},jV [] xs=some ds→(t=true→xs.all AC.nw=true)→Oks E os w xs vs→∃fp,Rs w ds fp vs∧∀b∈fp,b<w.heap.size∧b∉E.M∧(t=true→E.nw b)
 | [],ds,[],hd,_,_=>by
   injection hd with hd
   subst hd
   exact⟨[],⟨rfl,rfl⟩,fun b hb=>by simp at hb⟩
 | x::xs,ds,v::vs,hd,hn,hx=>by
   rw[jV]at hd
   split at hd
   ·next d ds' h1 h2=>
    injection hd with hd
    subst hd
    have h1':x.toD=some d:=by cases x<;>simp_all [nT]
    obtain⟨_,_,f1,r1,m1⟩:=toD_ok h1' hx.1
    obtain⟨f2,r2,m2⟩:=Ol h2 (fun e=>by have:=hn e;simp only[n_,g_]at this;exact this.2) hx.2
    refine⟨f1++f2,⟨f1,f2,[v],vs,rfl,rfl,r1,r2⟩,fun b hb=> ?_⟩
    rcases q_.1 hb with hb|hb
    ·exact⟨R.lt r1 b hb,(m1 b hb).1,fun e=>(m1 b hb).2 (by have:=hn e;simp only[n_,g_]at this;exact this.1)⟩
    ·exact m2 b hb
   ·cases hd
 | [],_,_::_,_,_,h=>h.elim
 |_::_,_,[],_,_,h=>h.elim
theorem ahc{t:Bool}{x:AV}{dd:D}{v:Value}(hd:oV [] x dd)(hn:t=true→x.nw=true)(hx:x.ok E os w v):∃F,RdF w F dd v∧∀b∈F,b<w.heap.size∧b∉E.M∧(t=true→E.nw b):=by
 cases x with
 | c g xs=>
   obtain⟨h1,rfl⟩:=hd
   unfold RdF
   cases hg:dd.isAgg with
   | true=>
     rw[hg]at hx
     obtain⟨vs,h2,h3⟩:=hx
     obtain⟨fp,h4,h5⟩:=Ol h1 hn h3
     exact⟨fp,by rw[if_pos rfl];exact⟨fp,vs,h2,nD.2 h4,fun b hb=>hb⟩,h5⟩
   | false=>
     rw[hg]at hx
     obtain⟨fp,h4,h5⟩:=Ol h1 hn (show Oks E os w xs [v] from hx)
     exact⟨fp,by rw[if_neg (by simp)];exact⟨fp,nD.2 h4,fun b hb=>hb⟩,h5⟩
 |any=>exact hd.elim
 |ptr _=>exact hd.elim
 |bptr _ _=>exact hd.elim
 |eptr _ _ _ _=>exact hd.elim
 |tup _=>exact hd.elim
theorem Vx{t:Bool}:∀{xs:List AV} {ds:List D} {vs:List Value},bM [] xs ds→(t=true→xs.all AV.nw=true)→oU E os w xs vs→∃F,Du w F ds vs∧∀b∈F,b<w.heap.size∧b∉E.M∧(t=true→E.nw b)
 | [],[],[],_,_,_=>⟨[],trivial,fun b hb=>by simp at hb⟩
 | x::xs,d::ds,v::vs,hd,hn,hv=>by
   obtain⟨F1,h1,h2⟩:=ahc hd.1 (fun e=>by have:=hn e;simp only[n_,g_]at this;exact this.1) hv.1
   obtain⟨F2,h3,h4⟩:=Vx hd.2 (fun e=>by have:=hn e;simp only[n_,g_]at this;exact this.2) hv.2
   refine⟨F1++F2,⟨h1.mono (fun b hb=>A_ _ hb),h3.mono (fun b hb=>y_ _ hb)⟩,fun b hb=> ?_⟩
   rcases q_.1 hb with hb|hb
   ·exact h2 b hb
   ·exact h4 b hb
 | [],_::_,_,hd,_,_=>hd.elim
 |_::_,[],_,hd,_,_=>hd.elim
 | [],[],_::_,_,_,hv=>hv.elim
 |_::_,_::_,[],_,_,hv=>hv.elim
def AC.oq :AC→Bool
 | .raw _=>true
 | .any=>true
 | .sl n _=>n
 |_=>false
def AV.oq :AV→Bool
 | .any=>true
 | .c _ xs=>xs.all AC.oq
 | .tup ys=>ys.all fun y=>y.2.all AC.oq
 |_=>false
theorem af8{F:List Nat}{t:Bool}{st:St}(h:Rel B Xs G w0 st E a w)(hF:∀b∈F,b∉E.M∧(t=true→E.nw b)){x:AC}{v:Value}(ho:x.oq=true)(hx:x.ok (l9 w.heap.size F) [] w' v):(x.fl t).ok E st.owns w' v:=by
 cases x with
 |any=>trivial
 |raw u=>exact hx
 | sl n l=>
   obtain rfl:n=true:=ho
   obtain⟨fp,h1,h2⟩:=hx
   refine⟨fp,h1,fun b hb=>⟨fun hm=> ?_,fun e=> ?_⟩⟩
   ·rcases Au.1 (h2 b hb).1 with h3|h3
    ·have:=(zY h hm).2
     omega
    ·exact(hF b h3).1 hm
   ·rcases Au.1 (h2 b hb).1 with h3|h3
    ·exact h.wQ (p_ h.base h3)
    ·exact(hF b h3).2 e
 |own k i=>simp[AC.oq]at ho
 |osub k i a b=>simp[AC.oq]at ho
 |cl f caps=>simp[AC.oq]at ho
theorem MZ{F:List Nat}{t:Bool}{st:St}(h:Rel B Xs G w0 st E a w)(hF:∀b∈F,b∉E.M∧(t=true→E.nw b)):∀{xs:List AC} {vs:List Value},xs.all AC.oq=true→Oks (l9 w.heap.size F) [] w' xs vs→Oks E st.owns w' (xs.map (AC.fl t)) vs
 | [],[],_,_=>trivial
 | x::xs,v::vs,ho,hx=>by
   simp only[n_,g_]at ho
   exact⟨af8 h hF ho.1 hx.1,MZ h hF ho.2 hx.2⟩
 | [],_::_,_,hx=>hx.elim
 |_::_,[],_,hx=>hx.elim
theorem aeb{F:List Nat}{t:Bool}{st:St}(h:Rel B Xs G w0 st E a w)(hF:∀b∈F,b∉E.M∧(t=true→E.nw b)){r:AV}{v:Value}(ho:r.oq=true)(hx:r.ok (l9 w.heap.size F) [] w' v):(r.fl t).ok E st.owns w' v:=by
 have key:∀{g:Bool} {xs:List AC} {v:Value},xs.all AC.oq=true→Gok (l9 w.heap.size F) [] w' g xs v→Gok E st.owns w' g (xs.map (AC.fl t)) v:=by
  intro g xs v hx hv
  cases g with
  |true=>obtain⟨vs,h1,h2⟩:=hv;exact⟨vs,h1,MZ h hF hx h2⟩
  |false=>exact MZ h hF hx (show Oks _ _ _ xs [v] from hv)
 cases r with
 |any=>trivial
 |c g xs=>exact key ho hx
 | tup ys=>
   obtain⟨vs,h1,h2⟩:=hx
   refine⟨vs,h1, ?_⟩
   clear h1
   have ho':(ys.all fun y=>y.2.all AC.oq)=true:=ho
   clear ho
   induction ys generalizing vs with
   | nil=>cases vs with
     |nil=>trivial
     |cons v vs=>exact h2.elim
   | cons y ys ih=>cases vs with
     |nil=>exact h2.elim
     | cons v vs=>
       simp only[n_,g_]at ho'
       exact⟨key ho'.1 h2.1,ih vs h2.2 ho'.2⟩
 |ptr _=>cases ho
 |bptr _ _=>cases ho
 |eptr _ _ _ _=>cases ho
theorem jS.toE(t:Bool){f:Nat}{ds:List D}{ys:List AV}{r:AV}(h:jS P f ds r)(hr:r.oq=true)(ha:bM [] ys ds)(hn:t=true→ys.all AV.nw=true):jT P f ys os bs (fun r2 os2 bs2=>r2=r.fl t∧os2=os∧bs2=bs):=by
 intro B Xs G w0 fr E a w vs hR hv
 obtain⟨F,h1,h2⟩:=Vx ha hn hv
 refine(h w F vs (fun b hb=>(h2 b hb).1) h1 hR.below.now).mono ?_
 rintro e w' ⟨v,rfl,hx,hb⟩
 have hA:=hR.here
 have hB:=hA.pI hb (d:=none) (x:= .any) (v:=undef) trivial
 exact⟨v,E,_,_,_,⟨rfl,rfl,rfl⟩,rfl,hB,aeb hR (fun b hb=>⟨(h2 b hb).2.1,(h2 b hb).2.2⟩) hr hx⟩
def BQ(P:Program)(f:Nat)(ds:List D)(c:List AC)(post:AV→List Own→List AC→Prop):Prop:=
 ∀(w:World) (b:Nat) (ty:TypeId) (us vs:List Value) (X:List Nat),BelowT b w w→(∀x∈X,x≠b∧x<w.heap.size)→Row w b ty us→Oks ⟨w.heap.size,[],[(b,ty)],X⟩ [] w c us→
  oU ⟨w.heap.size,[],[(b,ty)],X⟩ [] w (ds.map (D.avN true)) vs→Calls P f (.pointer (some ⟨b,0,none⟩)::vs).toArray w (TD X b ty post w)
theorem agz{H:Nat}{p:Nat×TypeId}{X F:List Nat}{d:D}{v:Value}(hF:∀b∈F,b∈X∧b≠p.1)(h:RdF w F d v):(D.avN true d).ok ⟨H,[],[p],X⟩ [] w v:=by
 have hM:∀b,b∈(⟨H,[],[p],X⟩:Env).M→b=p.1:=fun b hb=>by simpa[Env.M]using hb
 unfold D.avN AV.ok Gok
 unfold RdF at h
 cases hg:d.isAgg with
 | true=>
   rw[hg,if_pos rfl]at h
   obtain⟨fp,cs,h1,h2,h3⟩:=h
   exact⟨cs,h1,sJ h2 (fun b hb=>⟨fun hm=>(hF b (h3 b hb)).2 (hM b hm),fun _=>m_ (hF b (h3 b hb)).1⟩)⟩
 | false=>
   rw[hg,if_neg (by simp)]at h
   obtain⟨fp,h2,h3⟩:=h
   exact sJ h2 (fun b hb=>⟨fun hm=>(hF b (h3 b hb)).2 (hM b hm),fun _=>m_ (hF b (h3 b hb)).1⟩)
theorem Yl{H:Nat}{p:Nat×TypeId}{X F:List Nat}(hF:∀b∈F,b∈X∧b≠p.1):∀{ds:List D} {vs:List Value},Du w F ds vs→oU ⟨H,[],[p],X⟩ [] w (ds.map (D.avN true)) vs
 | [],[],_=>trivial
 |d::ds,v::vs,h=>⟨agz hF h.1,Yl hF h.2⟩
 | [],_::_,h=>h.elim
 |_::_,[],h=>h.elim
theorem BQ.toE(t:Bool){f:Nat}{ds:List D}{ys:List AV}{c c0:List AC}{kc:Nat}{post:AV→List Own→List AC→Prop}(h:BQ P f ds c post)(hk:bs[kc]? =some c0)(hc0:c0.all (AC.cin t)=true)(hc:c0.map (AC.fl true)=c)(ha:bM [] ys ds)(hn:t=true→ys.all AV.nw=true):
 jT P f (.bptr kc 0::ys) os bs (fun r2 os2 bs2=>∃r os' c',post r os' c'∧r2=(r.fl t).shift os.length∧os2=os++os'∧bs2=bs.set kc (c'.map (AC.fl t))):=by
 subst hc
 intro B Xs G w0 fr E a w vs hR hv
 cases vs with
 |nil=>exact hv.elim
 |cons pv vs=>
 obtain⟨⟨p,hp,rfl⟩,hv⟩:=hv
 obtain⟨b,ty⟩:=p
 have hpM:b∈E.M:=jh.2 (r_ ⟨kc,_,hp,rfl⟩)
 obtain⟨hBb,us,hrow,hok⟩:=hR.box kc c0 (b,ty) hk hp
 simp only at hBb hrow
 have hbH:b<w.heap.size:=hrow.lt
 obtain⟨X1,hX1,hcu⟩:=Vk (H:=w.heap.size) (p:=(b,ty)) t hpM hc0 hok
 obtain⟨F,hF1,hF2⟩:=Vx ha hn hv
 obtain⟨X,hXe⟩:∃X,X=X1++F:=⟨_,rfl⟩
 have hX:∀x∈X,x∉E.M∧x<w.heap.size∧(t=true→E.nw x):=fun x hx=>by
  rw[hXe]at hx
  rcases q_.1 hx with hx|hx
  ·exact hX1 x hx
  ·exact⟨(hF2 x hx).2.1,(hF2 x hx).1,(hF2 x hx).2.2⟩
 have hcu':Oks ⟨w.heap.size,[],[(b,ty)],X⟩ [] w (c0.map (AC.fl true)) us:=Oks.PO (fun x hx=>by rw[hXe];exact A_ _ hx) hcu
 have hav:=Yl (H:=w.heap.size) (p:=(b,ty)) (X:=X) (F:=F) (fun x hx=>⟨by rw[hXe];exact y_ _ hx,fun e=>(hF2 x hx).2.1 (e▸hpM)⟩) hF1
 have hT:BelowT b w w:=⟨Below.refl _ _,fun w' hb'=>hR.below.tab w' (hb'.mono hBb)⟩
 refine(h w b ty us vs X hT (fun x hx=>⟨fun e=>(hX x hx).1 (e▸hpM),(hX x hx).2.1⟩) hrow hcu' hav).mono ?_
 rintro e w' ⟨v,om,r,os',c',us',hpost,hr,hc',rfl,ho,hrok,hrow',hcok,hbel,hsame⟩
 
 obtain⟨w1,e1,e2⟩:∃w1:World,w1={w' with heap:=w'.heap.setIfInBounds b (.cells us.toArray ty (0,0))}∧True:=⟨_,rfl,trivial⟩
 have hsz:w1.heap.size=w'.heap.size:=by rw[e1];simp
 have hother:∀x,x≠b→w1.heap[x]? =w'.heap[x]? :=fun x hx=>by rw[e1];simp only;rw[Array.getElem?_setIfInBounds_ne (Ne.symm hx)]
 have hself:w1.heap[b]? =some (.cells us.toArray ty (0,0)):=by
  rw[e1]
  exact Array.getElem?_setIfInBounds_self_of_lt (hrow'.lt)
 have hB1:Below w.heap.size w w1:=by
  refine⟨by rw[e1];exact hbel.os,by rw[e1];exact hbel.tape,by rw[e1];exact hbel.output,by rw[hsz];exact hbel.size,fun x hx=> ?_⟩
  by_cases e:x=b
  ·subst e
   exact hself.trans hrow.symm
  ·rw[hother x e]
   exact hsame x hx e
 have ho1:vP w.heap.size w1 om os':=DL ho (fun x hx=>hother x (by omega)) (a_F hsz.symm)
 have hA:=hR.here
 have hH:∀x∈E.M,x<w.heap.size:=fun x hx=>(zY hR hx).2
 have hn:∀x,w.heap.size≤x→E.nw x:=fun x hx=>hR.wQ (p_ hR.base hx)
 have hol:E.om.length=os.length:=hR.olen
 have hB:=hA.BI (x:= .any) (u:=undef) hB1 ho1 none (fun _ _ _ _=>trivial)
 have hM2:∀x,x∈({E with om:=E.om++om}:Env).M↔x∈E.M∨x∈om.flatMap fun q=>q.1.ownBlock.toList:=fun x=>pJ E om
 have hsz':w'.heap.size=w1.heap.size:=hsz.symm
 have hC:=hB.TP (k:=kc) (p:=(b,ty)) (w':=w') (ys:=c'.map (AC.fl t)) (us:=us') hk hp
  (by have:=xI (os:=os) (w1:=w1) (E':={E with om:=E.om++om}) (t:=t) hpM (fun x hx=>⟨(hX x hx).1,(hX x hx).2.2⟩) hH hn hM2 rfl rfl hol hother (a_F hsz') (Di hc') hcok
      rwa[vH hc']at this) hsz' (by rw[e1];exact⟨rfl,rfl,rfl⟩) (fun x hx=>(hother x hx).symm) hrow' none (x:= .any) (v:=undef) trivial
 refine⟨v,_,_,_,_,⟨r,os',c',hpost,rfl,rfl,rfl⟩,rfl,hC, ?_⟩
 exact Sm (w1:=w') hpM (fun x hx=>⟨(hX x hx).1,(hX x hx).2.2⟩) hH hn hM2 rfl rfl hol (fun _ _=>rfl) (s_ _) hr hrok
theorem adg{f:Nat}{fn:Func}{code:Code}{ic:IC}{ds:List D}{c:List AC}{r:ResultVar}{post:AV→List Own→List AC→Prop}(hf:P.funcs[f]? =some fn:=by kernel_rfl)(hb:fn.body=some code:=by kernel_rfl)(hr:fn.results= #[r]:=by kernel_rfl)(hc:ay P code=some ic)
 (h:dK (0,1) P ic (iV (rX P r post)) (stS fn.ntmps (.bptr 0 0::ds.map (D.avN true)) [] [c])):BQ P f ds c post:=by
 intro w b ty us vs X hT hX hrow hok hav
 have hbH:b<w.heap.size:=hrow.lt
 have hR0:Rel b X ⟨⟨w.heap.size,[],[(b,ty)],X⟩,[],w⟩ w ⟨[],[],[c]⟩ ⟨w.heap.size,[],[(b,ty)],X⟩ {tmps:= #[],defers:= []} w:=
  { eb :=Nat.le_of_lt hbH,ex:=rfl,sim:=Sim.refl _ _ _,defers:=rfl,size:=rfl,fr:=fun t y hy=>by simp at hy,olen:=rfl,own:=fun k o p g1 g2=>by simp at g1,blen:=rfl,
    box:=fun k xs p g1 g2=>by
     cases k with
     | zero=>
       simp at g1 g2
       subst g1 g2
       exact⟨Nat.le_refl _,us,hrow,hok⟩
     |succ k=>simp at g1
    nodup:=by simp[Env.M],lin:=⟨fun k o p g1=>by simp at g1,fun j k o o' p p' _ g1=>by simp at g1⟩,unf:=fun k o p g1=>by simp at g1,below:=hT,base:=Nat.le_refl _}
 refine calls_of_wp hf hb ?_
 have:=h code hc b X ⟨⟨w.heap.size,[],[(b,ty)],X⟩,[],w⟩ w ⟨Nat.le_refl _,Nat.le_refl _⟩ ⟨w.heap.size,[],[(b,ty)],X⟩ _ w (ru hR0 (avs:= .bptr 0 0::ds.map (D.avN true)) (vs:= .pointer (some ⟨b,0,none⟩)::vs) ⟨⟨(b,ty),rfl,rfl⟩,hav⟩ fn.ntmps)
 refine wp_mono this ?_
 rintro e a' w' ⟨st',E',g1,g2⟩
 have fin:rX P r post st'→∃v,(results fn a'.tmps).run P w'= .ok v w'∧TD X b ty post w (.returned v) w':=by
  rintro⟨g,ys,os',c',pk,hpost,hys,hbx,hc',hnd,ho,hp,hfin⟩
  have hS:=g1.sim
  have hbm:E'.bm[0]? =some (b,ty):=hS.box 0 _ rfl
  have hM0:∀x,x∈(⟨w.heap.size,[],[(b,ty)],X⟩:Env).M→x=b:=fun x hx=>by simpa[Env.M]using hx
  have hO:∀(k:Nat) (p:Value×List Nat) (x:Nat),E'.om[k]? =some p→p.1.ownBlock=some x→w.heap.size≤x:=by
   intro k p x h1 h2
   refine Nat.le_of_not_lt fun hlt=> ?_
   have:=hM0 x (hS.old x hlt (jh.2 (Or.inr ⟨k,p,h1,h2⟩)))
   exact BL g1 hbm h1 h2 this.symm
  obtain⟨l1,l2⟩:=rC (Ar ho)
  have hA:OutAt b w.heap.size X [(b,ty)] E' pk st'.owns os':=
   { nw:=fun x hx=>by rw[hS.base]at hx;exact hx
     own:=hO
     bm:=fun q hq=>⟨0,by simp at hq;subst hq;exact hbm⟩
     get:=fun j k hj=>by
      have:j<os'.length:=by rw[← l1];exact(List.getElem?_eq_some_iff.1 hj).1
      exact⟨_,List.getElem?_eq_getElem this⟩
     lt:=fun k hk=>by
      obtain⟨j,hj⟩:=List.mem_iff_getElem?.1 hk
      have hj':j<os'.length:=by rw[← l1];exact(List.getElem?_eq_some_iff.1 hj).1
      obtain⟨o2,q1,_⟩:=l2 j k _ hj (List.getElem?_eq_getElem hj')
      rw[g1.olen]
      exact(List.getElem?_eq_some_iff.1 q1).1}
  obtain⟨v,h3,h4⟩:=xw g1 hA hp hfin
  obtain⟨_,us',h5,h6⟩:=g1.box 0 c' (b,ty) hbx hbm
  have hcc:∀{xs:List AC} {vs:List Value},xs.all AC.cur=true→Oks E' st'.owns w' xs vs→Oks ⟨w.heap.size,qF E' pk,[(b,ty)],X⟩ os' w' xs vs:=by
   intro xs
   induction xs with
   |nil=>intro vs _ hv;cases vs<;>first|trivial|exact hv.elim
   | cons x xs ih=>
     intro vs hx hv
     cases vs with
     |nil=>exact hv.elim
     | cons v vs=>
       simp only[List.all_cons,Bool.and_eq_true]at hx
       refine⟨?_,ih hx.2 hv.2⟩
       cases x with
       |any=>trivial
       |raw u=>exact hv.1
       |sl n l=>exact vN g1 hA (x:= .sl n l) ⟨hx.1,hx.1,rfl⟩ hv.1
       |own _ _=>simp[AC.cur]at hx
       |osub _ _ _ _=>simp[AC.cur]at hx
       |cl _ _=>simp[AC.cur]at hx
  exact⟨v,pY hr _ h3,v,qF E' pk,.c g ys,os',c',us',hpost,hys,hc',rfl,DN g1 hO ho hnd,h4,h5,hcc hc' h6,g1.below.out,fun x hx hne=>hS.blk x hx (fun hm=>hne (hM0 x hm))⟩
 cases e with
 | normal=>
   obtain⟨v,h3,h4⟩:=fin g2
   exact⟨g1.defers,v,h3,h4⟩
 | ret=>
   obtain⟨v,h3,h4⟩:=fin g2
   exact⟨g1.defers,v,h3,h4⟩
 |_=>exact g2.elim
end
theorem au{os:List Own}{xs:List AV}{ds:List D}(h:bM os xs ds:=by first|exact⟨⟨rfl,rfl⟩,trivial⟩|exact trivial|exact⟨⟨rfl,rfl⟩,⟨rfl,rfl⟩,trivial⟩|exact⟨⟨rfl,rfl⟩,⟨rfl,rfl⟩,⟨rfl,rfl⟩,trivial⟩|(simp[St.ev,List.map_cons,List.map_nil,List.getD_cons_zero,List.getD_cons_succ,bM,oV,jV,nT,AC.toD,fC,cO,dM,fB,Value.oneCell',lU,iC,lX,lW,dS,bU,dW,dU,zB,zC,dI,dH,adQ,AV.fl,AC.fl,AV.shift,AC.shift,List.append_nil];first|done|rfl)):bM os xs ds:=h
section
variable{P:Program}{K:St→Prop}{d:Option Nat}{f:Nat}{ys:List AV}{rest:List IOp}{st:St}{ds:List D}
theorem aI{r:AV}(ha:bM st.owns ys ds:=by exact au)(hr:r.res:=by trivial)(hc:aV P f ds r)(h:sw P K rest (st.put d r)):kP P K d f ys rest st:=dw hc hr ha h
theorem ku{m:Bool}{r:AV}(ha:bM (mo m st) ys ds:=by exact au)(hr:r.res:=by trivial)(hc:aV P f ds r)(h:sd P m K rest (st.put d r)):uK P m K d f ys rest st:=bT hc hr ha h
theorem aC(t:Bool){c c0:List AC}{kc:Nat}{post:AV→List Own→List AC→Prop}(ha:bM st.owns ys ds:=by exact au)(hk:st.boxes[kc]? =some c0:=by rfl)(hc0:c0.all (AC.cin t)=true:=by rfl)(hc:c0.map (AC.fl true)=c:=by rfl)(h:bH P f ds c post)
 (hK:∀r os' c',post r os' c'→sw P K rest (St.put ⟨st.fr,st.owns++os',st.boxes.set kc (c'.map (AC.fl t))⟩ d ((r.fl t).shift st.owns.length))):kP P K d f (.bptr kc 0::ys) rest st:=by
 refine Ei (h.toE t hk hc0 hc ha) ?_
 rintro _ _ _ ⟨r,os',c',hp,rfl,rfl,rfl⟩
 exact hK r os' c' hp
theorem ae3(t:Bool){c c0:List AC}{kc:Nat}{post:AV→List Own→List AC→Prop}(ha:bM [] ys ds:=by exact au)(hk:st.boxes[kc]? =some c0:=by rfl)(hc0:c0.all (AC.cin t)=true:=by rfl)(hc:c0.map (AC.fl true)=c:=by rfl)(hn:t=true→ys.all AV.nw=true:=by intro _;rfl)(h:BQ P f ds c post)
 (hK:∀r os' c',post r os' c'→sw P K rest (St.put ⟨st.fr,st.owns++os',st.boxes.set kc (c'.map (AC.fl t))⟩ d ((r.fl t).shift st.owns.length))):kP P K d f (.bptr kc 0::ys) rest st:=by
 refine Ei (h.toE t hk hc0 hc ha hn) ?_
 rintro _ _ _ ⟨r,os',c',hp,rfl,rfl,rfl⟩
 exact hK r os' c' hp
theorem bI{post:AV→List Own→Prop}(ha:bM st.owns ys ds:=by exact au)(h:bJ P f ds post)
 (hK:∀r os',post r os'→sw P K rest (St.put ⟨st.fr,st.owns++os',st.boxes⟩ d (r.shift st.owns.length))):kP P K d f ys rest st:=by
 refine Ei (h.toE ha) ?_
 rintro _ _ _ ⟨r,os',hp,rfl,rfl,rfl⟩
 exact hK r os' hp
theorem tY(t:Bool){r:AV}(ha:bM [] ys ds:=by exact au)(hr:r.oq=true:=by rfl)(hn:t=true→ys.all AV.nw=true:=by intro _;rfl)(h:jS P f ds r)(hK:sw P K rest (st.put d (r.fl t))):kP P K d f ys rest st:=by
 refine Ei (h.toE t hr ha hn) ?_
 rintro _ _ _ ⟨rfl,rfl,rfl⟩
 exact hK
end
section
variable{P:Program}{kc:Nat}{m:Bool}{Ts:List Nat}{K:St→Prop}{d:Option Nat}{f:Nat}{xs:List Opd}{rest:List IOp}{st:St}{ds:List D}
theorem fG{xs:List Opd}(h:sn P kc m Ts K (⟨d,none,.call f xs⟩::rest) st):sn P kc m Ts K (⟨d,none,.call f xs⟩::rest) st:=h
theorem jk{g:Nat}{w:Bool}(h:sn P kc m Ts K (⟨d,some (g,w),.call f xs⟩::rest) st):sn P kc m Ts K (⟨d,some (g,w),.call f xs⟩::rest) st:=h
theorem eH{g:Nat}{w:Bool}(hg:gdA st (some (g,w))=some true)(h:sn P kc m Ts K (⟨d,none,.call f xs⟩::rest) st):sn P kc m Ts K (⟨d,some (g,w),.call f xs⟩::rest) st:=by
 rcases h with⟨h1,h2,h3⟩|⟨h1,h2,h3⟩|⟨post,⟨_,h1⟩,h2⟩
 ·cases h2
 ·exact m_ (r_ ⟨h1,(fun n g x e=>by cases e),oZ hg h3⟩)
 ·exact m_ (m_ ⟨post,⟨hg,h1⟩,h2⟩)
theorem eP{g:Nat}{w:Bool}(hg:gdA st (some (g,w))=some false)(h:sn P kc m Ts K rest (st.put d (.c false [.raw undef]))):sn P kc m Ts K (⟨d,some (g,w),.call f xs⟩::rest) st:=
 m_ (r_ ⟨rfl,(fun n g x e=>by cases e),o7 hg (show sd P m (sn P kc m Ts K rest) [] _ from h)⟩)
theorem Ak{r:AV}(ha:bM (mo m st) (xs.map st.ev) ds:=by exact au)(hr:r.res:=by trivial)(hc:aV P f ds r)(h:sn P kc m Ts K rest (st.put d r)):sn P kc m Ts K (⟨d,none,.call f xs⟩::rest) st:=by
 refine adW ?_
 rw[MN]
 exact bT hc hr ha h
theorem iy(t:Bool){x:Opd}{c c0:List AC}{pst:AV→List Own→List AC→Prop}(ha:bM st.owns (xs.map st.ev) ds:=by exact au)(hx:st.ev x= .bptr kc 0:=by rfl)(hk:st.boxes[kc]? =some c0:=by rfl)(hc0:c0.all (AC.cin t)=true:=by rfl)(hc:c0.map (AC.fl true)=c:=by rfl)(h:bH P f ds c pst)
 (hne:∃r os' c',pst r os' c'∧r.tX=true) (hm:∀r os' c',pst r os' c'→m=false→os'= []:=by first|(rintro _ _ _ ⟨_,h,_⟩ _;exact h)|(intro _ _ _ _ hm;cases hm)) (hr:∀r os' c',pst r os' c'→sn P kc m Ts K rest (St.put ⟨st.fr,st.owns++os',st.boxes.set kc (c'.map (AC.fl t))⟩ d ((r.fl t).shift st.owns.length))):sn P kc m Ts K (⟨d,none,.call f (x::xs)⟩::rest) st:=
 afZ t h hx hk hc0 hc ha hne hm hr
theorem af0(t:Bool){r:AV}(ha:bM [] (xs.map st.ev) ds:=by exact au)(hr:r.oq=true:=by rfl)(hn:t=true→(xs.map st.ev).all AV.nw=true:=by intro _;rfl)(h:jS P f ds r)(hK:sn P kc m Ts K rest (st.put d (r.fl t))):sn P kc m Ts K (⟨d,none,.call f xs⟩::rest) st:=by
 refine Or.inr (Or.inr ⟨fun r' os' oc=>r'=r.fl t∧os'= []∧oc=none,⟨rfl,f,xs,rfl,fun _ _ _ h _=>h.2.1,⟨_,_,_,rfl,rfl,rfl⟩,.gen (pst:=fun r'=>r'=r.fl t) (fun bs'=>h.toE t hr ha hn) (fun r' e=> ?_)⟩, ?_⟩)
 ·subst e
  cases r<;>first|rfl|(cases hr;done)
 ·rintro _ _ _ ⟨rfl,rfl,rfl⟩
  simpa[St.nput,wu]using hK
theorem wz{pst:AV→List Own→Prop}(ha:bM st.owns (xs.map st.ev) ds:=by exact au)(h:bJ P f ds pst)(hne:∃r os',pst r os'∧r.out=true)(hm:∀r os',pst r os'→m=false→os'= []:=by first|(rintro _ _ ⟨_,h⟩ _;exact h)|(intro _ _ _ hm;cases hm))
 (hr:∀r os',pst r os'→sn P kc m Ts K rest (St.put ⟨st.fr,st.owns++os',st.boxes⟩ d (r.shift st.owns.length))):sn P kc m Ts K (⟨d,none,.call f xs⟩::rest) st:=
 adS h ha hne hm hr
end
def AC.rel(k v:Nat)(n:Bool)(l:List D):AC→AC
 | .own j i=>if j=k∧i=v then .sl n l else .own j i
 |x=>x
def AV.rel(k v:Nat)(n:Bool)(l:List D):AV→AV
 | .c g xs=> .c g (xs.map (AC.rel k v n l))
 |x=>x
def St.rel(st:St)(k:Nat)(o:Own):St:=⟨st.fr.map (AV.rel k o.ver o.nw.n o.l),fF st.owns k,st.boxes.map (List.map (AC.rel k o.ver o.nw.n o.l))⟩
section
variable{P:Program}{B:Nat}{Xs:List Nat}{G:Org}{w0:World}{st:St}{E:Env}{a:Act}{w:World}
theorem af2(h:Rel B Xs G w0 st E a w){k:Nat}{o:Own}(ho:st.owns[k]? =some o)(h2:Rel B Xs G w0 ⟨st.fr,fF st.owns k,st.boxes⟩ (E.seal k) a w){x:AC}{v:Value}(hx:x.ok E st.owns w v)(hx2:x.ok (E.seal k) (fF st.owns k) w v):(x.rel k o.ver o.nw.n o.l).ok (E.seal k) (fF st.owns k) w v:=by
 cases x with
 | own j i=>
   simp only[AC.rel]
   split
   ·next e=>
    obtain⟨rfl,rfl⟩:=e
    obtain⟨_,o',p,h3,h4,h5,h6⟩:=hx
    rw[ho]at h3
    injection h3 with h3
    subst h3
    obtain rfl:=h6 rfl
    obtain⟨cs,q1,q2,q3,q4⟩:=h.own j o p ho h4
    have hsm:=(Cj h.nodup (k:=j)).2
    refine⟨_,Sl.nI q1 q2,fun b hb=> ?_⟩
    rcases q_.1 hb with hb|hb
    ·have hb':p.1.ownBlock=some b:=by simpa using hb
     refine⟨fun hm=> ?_,fun _=>h.wQ (bK.lt q1 b hb').1⟩
     rcases jh.1 hm with⟨k',q,g1,g2⟩|⟨k',q,g1,g2⟩
     ·exact BL h g1 h4 hb' g2
     ·by_cases e:k'=j
      ·subst e
       simp only[Env.seal]at g1
       rw[T_ (b_.1 h4).1]at g1
       injection g1 with g1
       subst g1
       cases g2
      ·rw[uP e]at g1
       exact e (Em h g1 h4 g2 hb')
    ·exact⟨fun hm=>(q4 b hb).1 (hsm b hm),fun e=>(q4 b hb).2 e⟩
   ·exact hx2
 |_=>exact hx2
theorem EZ(h:Rel B Xs G w0 st E a w){k:Nat}{o:Own}(ho:st.owns[k]? =some o)(h2:Rel B Xs G w0 ⟨st.fr,fF st.owns k,st.boxes⟩ (E.seal k) a w):∀{xs:List AC} {vs:List Value},Oks E st.owns w xs vs→Oks (E.seal k) (fF st.owns k) w xs vs→Oks (E.seal k) (fF st.owns k) w (xs.map (AC.rel k o.ver o.nw.n o.l)) vs
 | [],[],_,_=>trivial
 |x::xs,v::vs,hx,hy=>⟨af2 h ho h2 hx.1 hy.1,EZ h ho h2 hx.2 hy.2⟩
 | [],_::_,hx,_=>hx.elim
 |_::_,[],hx,_=>hx.elim
theorem Rel.release(h:Rel B Xs G w0 st E a w){k:Nat}{o:Own}(ho:st.owns[k]? =some o):Rel B Xs G w0 (st.rel k o) (E.seal k) a w:=by
 have h2:Rel B Xs G w0 ⟨st.fr,fF st.owns k,st.boxes⟩ (E.seal k) a w:=Rel.seal (fr:=st.fr) (os:=st.owns) (bs:=st.boxes) h ho
 have hav:∀{x:AV} {v:Value},x.ok E st.owns w v→x.ok (E.seal k) (fF st.owns k) w v→(x.rel k o.ver o.nw.n o.l).ok (E.seal k) (fF st.owns k) w v:=by
  intro x v hx hy
  cases x with
  | c g xs=>
    cases g with
    | true=>
      obtain⟨vs,h3,h4⟩:=hx
      obtain⟨us,h5,h6⟩:=hy
      subst h3
      have:us=vs:=by injection h5 with h5;injection h5 with h5;exact h5.symm
      subst this
      exact⟨us,rfl,EZ h ho h2 h4 h6⟩
    |false=>exact EZ h ho h2 (show Oks E st.owns w xs [v] from hx) (show Oks _ _ w xs [v] from hy)
  |_=>exact hy
 exact
  { eb:=h2.eb,ex:=h2.ex,sim:=h2.sim,defers:=h2.defers
    size:=by rw[h2.size];simp[St.rel]
    fr:=fun t x hx=>by
     simp only[St.rel,t_]at hx
     obtain⟨y,hy,rfl⟩:=f_.1 hx
     exact hav (h.fr t y hy) (h2.fr t y hy)
    olen:=h2.olen,own:=h2.own
    blen:=by rw[h2.blen];simp[St.rel]
    box:=fun j xs p hx hp=>by
     simp only[St.rel,t_]at hx
     obtain⟨ys,hy,rfl⟩:=f_.1 hx
     obtain⟨g1,vs,g2,g3⟩:=h2.box j ys p hy hp
     obtain⟨_,us,g4,g5⟩:=h.box j ys p hy hp
     have:us=vs:=by
      have e:=g4.symm.trans g2
      injection e with e
      injection e with e1
      injection e1
     subst this
     exact⟨g1,us,g2,EZ h ho h2 g5 g3⟩
    nodup:=h2.nodup,lin:=h2.lin,unf:=h2.unf,below:=h2.below,base:=h2.base}
theorem Eo{lo:Nat×Nat}{c:IC}{Q:Exit→St→Prop}(k:Nat){o:Own}(ho:st.owns[k]? =some o)(h:dK lo P c Q (st.rel k o)):dK lo P c Q st:=
 fun code hc B Xs G w0 hG E a w hR=>h code hc B Xs G w0 hG (E.seal k) a w (hR.release ho)
end
theorem pkZ :type_of% (aho @rH.eq_1 (aho @rH.eq_2 (aho @wC.eq_1 (aho @wC.eq_2 (aho @fU.eq_1 (aho @fU.eq_2 (aho @fF.eq_1 (aho @St.put.eq_1 (aho @St.put.eq_2 (aho @St.ev.eq_1 (aho @St.ev.eq_2 (aho @qJ.eq_1 (aho @qJ.eq_2 (aho @wE.eq_1 (aho @wE.eq_2 (aho @D.ones.eq_1 (aho @D.ones.eq_2 (aho @D.szs.eq_1 (aho @D.szs.eq_2 (aho @undef.eq_1 (aho @fC (aho @cO (aho @dM (aho @fB (aho @jv (@iR)))))))))))))))))))))))))):=aho @rH.eq_1 (aho @rH.eq_2 (aho @wC.eq_1 (aho @wC.eq_2 (aho @fU.eq_1 (aho @fU.eq_2 (aho @fF.eq_1 (aho @St.put.eq_1 (aho @St.put.eq_2 (aho @St.ev.eq_1 (aho @St.ev.eq_2 (aho @qJ.eq_1 (aho @qJ.eq_2 (aho @wE.eq_1 (aho @wE.eq_2 (aho @D.ones.eq_1 (aho @D.ones.eq_2 (aho @D.szs.eq_1 (aho @D.szs.eq_2 (aho @undef.eq_1 (aho @fC (aho @cO (aho @dM (aho @fB (aho @jv (@iR)))))))))))))))))))))))))
theorem aA{p:Prop}(h:p:=by first|(with_reducible rfl)|(with_reducible refine oG ?_;kernel_rfl)|exact dF _|exact dQ _|exact aU _|exact wo _ _|exact xB _ _ _|omega|(simp;done)|(simp;omega)):p:=h
section
variable{P:Program}{B:Nat}{Xs:List Nat}{G:Org}{w0:World}{st:St}{E:Env}{a:Act}{w:World}
theorem WI{os:List Own}{x:AC}{u:Value}:∀{xs:List AC} {vs:List Value} {j:Nat},Oks E os w xs vs→(∀v,vs[j]? =some v→x.ok E os w v)→Oks E os w (xs.set j x) vs
 | [],[],_,_,_=>trivial
 |y::xs,v::vs,0,h,hx=>⟨hx v rfl,h.2⟩
 |y::xs,v::vs,j+1,h,hx=>⟨h.1,WI (u:=u) h.2 (fun z hz=>hx z (by simpa using hz))⟩
 | [],_::_,_,h,_=>h.elim
 |_::_,[],_,h,_=>h.elim
theorem WJ{os:List Own}{x:AC}:∀{xs:List AC} {vs:List Value} {j:Nat},Oks E os w xs vs→xs[j]? =some x→∀v,vs[j]? =some v→x.ok E os w v
 | [],[],_,_,hx,_,_=>by simp at hx
 | y::xs,v::vs,0,h,hx,z,hz=>by
   simp at hx hz
   subst hx hz
   exact h.1
 |y::xs,v::vs,j+1,h,hx,z,hz=>WJ h.2 (by simpa using hx) z (by simpa using hz)
 | [],_::_,_,h,_,_,_=>h.elim
 |_::_,[],_,h,_,_,_=>h.elim
def St.Jr(st:St)(kb j e s:Nat)(m:Bool):St:=⟨st.fr,st.owns++ [⟨[],e,s,0,⟨true,m⟩⟩],st.boxes.set kb ((st.boxes.getD kb []).set j (.own st.owns.length 0))⟩
theorem Rel.Jr(h:Rel B Xs G w0 st E a w){kb j e s:Nat}{m:Bool}{xs:List AC}(hb:st.boxes[kb]? =some xs)(hx:xs[j]? =some (.raw (.slice none 0 0))):
 Rel B Xs G w0 (st.Jr kb j e s m) {E with om:=E.om++ [(.slice none 0 0,[])]} a w:=by
 have h1:Rel B Xs G w0 ⟨st.fr,st.owns++ [⟨[],e,s,0,⟨true,m⟩⟩],st.boxes⟩ {E with om:=E.om++ [(.slice none 0 0,[])]} a w:=
  Rel.BI (fr:=st.fr) (os:=st.owns) (bs:=st.boxes) (x:= .any) (u:=undef) h (Below.refl _ _)
   ⟨rfl,fun k o p hk hp=>by
     cases k with
     | zero=>
       simp at hk hp
       subst hk hp
       exact⟨[],bK.nil,⟨rfl,rfl⟩,fun d hd=>by simp at hd,fun b hb=>by simp at hb⟩
     |succ k=>simp at hk,by simp[Value.ownBlock],Lin.one (fun _=>I_),Unf.one (fun _ b hb=>by simp at hb)⟩ none (fun _ _ _ _=>trivial)
 have hol:=h.olen
 exact
  { eb:=h1.eb,ex:=h1.ex,sim:=h1.sim,defers:=h1.defers,size:=h1.size,fr:=h1.fr,olen:=h1.olen,own:=h1.own
    blen:=by rw[h1.blen];simp[St.Jr]
    box:=fun k ys p hy hp=>by
     by_cases e1:kb=k
     ·subst e1
      have hlt:kb<st.boxes.length:=(b_.1 hb).1
      simp only[St.Jr]at hy
      rw[T_ hlt]at hy
      injection hy with hy
      subst hy
      have hg:st.boxes.getD kb []=xs:=by rw[c_,hb];rfl
      rw[hg]
      obtain⟨g1,vs,g2,g3⟩:=h1.box kb xs p hb hp
      refine⟨g1,vs,g2,WI (u:=undef) g3 fun v hv=> ?_⟩
      have hv2:v= .slice none 0 0:=WJ g3 hx v hv
      subst hv2
      have e2:(st.owns++ [(⟨[],e,s,0,⟨true,m⟩⟩:Own)])[st.owns.length]? =some ⟨[],e,s,0,⟨true,m⟩⟩:=by rw[B_ (s_ _)];simp
      have e3:(E.om++ [(Value.slice none 0 0,([]:List Nat))])[st.owns.length]? =some (.slice none 0 0,[]):=by rw[B_ (by omega),hol];simp
      exact⟨⟨none,0,0,rfl⟩,⟨[],e,s,0,⟨true,m⟩⟩,(.slice none 0 0,[]),e2,e3,s_ _,fun _=>rfl⟩
     ·simp only[St.Jr]at hy
      rw[List.getElem?_set_ne e1]at hy
      exact h1.box k ys p hy hp
    nodup:=h1.nodup,lin:=h1.lin,unf:=h1.unf,below:=h1.below,base:=h1.base}
theorem I4{lo:Nat×Nat}{c:IC}{Q:Exit→St→Prop}(kb j e s:Nat)(m:Bool){xs:List AC}(hb:st.boxes[kb]? =some xs)(hx:xs[j]? =some (.raw (.slice none 0 0)))(h:dK lo P c Q (st.Jr kb j e s m)):dK lo P c Q st:=
 fun code hc B Xs G w0 hG E a w hR=>h code hc B Xs G w0 hG _ a w (hR.Jr hb hx)
theorem SH{lo:Nat×Nat}{Q:Exit→St→Prop}{X:Type}{c:IC}(F:X→St)(inv:X→Prop)(μ:X→Nat)(x0:X)(pk0:List Nat)(h0:inv x0)(hl0:lo.1=0)(hlo:∀x,lo.2≤(F x).boxes.length)(hle:jR pk0 st (F x0))
 (round:∀x,inv x→dK lo P c (vV F inv μ x Q) (F x)):dK lo P (.loop c) Q st:=fun code hc B Xs G w0 hG E a w hR=>by
 have hG1:G.os.length=0:=Nat.le_zero.1 (hl0▸hG.1)
 have hG2:∀x,G.E.bm.length≤(F x).boxes.length:=fun x=>p_ hG.2 (hlo x)
 cases code with
 | loop cc=>
   simp only[ay]at hc
   obtain⟨c',hcc,he⟩:=f_.1 hc
   simp only[IC.loop.injEq]at he
   subst he
   obtain⟨E',hR'⟩:=hR.Oz hle hG1 (hG2 _)
   refine BU (fun n a w=>∃x E,μ x=n∧inv x∧Rel B Xs G w0 (F x) E a w) (μ x0) ⟨x0,E',rfl,h0,hR'⟩ ?_
   rintro n a w ⟨x,E,rfl,hx,hR⟩
   refine wp_mono (round x hx cc hcc B Xs G w0 hG E a w hR) ?_
   rintro e a' w' ⟨st',E',h1,h2⟩
   cases e with
   | normal=>
     obtain⟨x',pk,h3,h4,h5⟩:=h2
     obtain⟨E'',h6⟩:=h1.Oz h3 hG1 (hG2 _)
     exact⟨μ x',h5,x',E'',rfl,h4,h6⟩
   |_=>exact⟨st',E',h1,h2⟩
 |region id cops b=>exact(oL hc (by simp) (by simp)).elim
 |block id x=>simp[ay]at hc
 |cond c x y=>simp only[ay]at hc;split at hc<;>simp at hc
 |seq x y=>simp only[ay]at hc;split at hc<;>simp at hc
 |ret=>simp[ay]at hc
 |exit id=>simp[ay]at hc
 |skip=>simp[ay]at hc
 |label l=>simp[ay]at hc
 |rangeFunc=>simp[ay]at hc
 |scope=>simp[ay]at hc
 |goto=>simp[ay]at hc
 |refuse=>simp[ay]at hc
theorem Vs{lo:Nat×Nat}{Q:Exit→St→Prop}{X:Type}{c:IC}{fr0:List AV}{os0:List Own}{bs0:List (List AC)}(sp:X→List Sp)(ow:X→List Own)(bx:X→List (List AC)→List (List AC))(inv:X→Prop)(μ:X→Nat)(x0:X)(pk0:List Nat)(h0:inv x0)(hl0:lo.1=0)
 (hlo:∀x,lo.2≤(bx x bs0).length) (hle:jR pk0 ⟨fr0,os0,bs0⟩ (FB fr0 bs0 sp ow bx x0)) (round:∀x,inv x→dK lo P c (vV (FB fr0 bs0 sp ow bx) inv μ x Q) (FB fr0 bs0 sp ow bx x)):dK lo P (.loop c) Q ⟨fr0,os0,bs0⟩:=
 SH (FB fr0 bs0 sp ow bx) inv μ x0 pk0 h0 hl0 hlo hle round
end
theorem szD(xs:Array UInt8):ByteArray.size ⟨xs⟩=xs.size:=rfl
theorem nv{G H:Prop}(k:H)(h:H→G:=by first|(with_reducible first|exact oO|exact jQ|exact lN|exact lQ|exact oP|exact xJ|exact kX|exact nV|exact iJ|exact jK|exact lJ|exact jF|exact kZ|exact jc|exact jE)|((with_reducible refine jJ ?_);rfl)|((with_reducible refine jM ?_);rfl)|((with_reducible refine jP ?_);rfl)):G:=h k
section
variable{lo:Nat×Nat}{P:Program}{K:St→Prop}{Q:Exit→St→Prop}{st:St}{m:Bool}{F H:Prop}{l:List IOp}
theorem ss(f:F)(k:H)(h:F→(sw P K l st)=H:=by intro f;conv=>lhs;simp(disch:=first|decide|omega) only[↓pkS,pkW,pkA,pkZ,List.flatMap_cons,List.flatMap_nil,List.append_nil,mg,lvD,lcD,lvK,lcK,jZ,ex,kav,gdA,opI,gX,wF,kS,AV.toD,AC.toD,AV.nw,AC.nw,AC.one,Value.oneCell',if_true,if_false,Bool.false_eq_true,lG,D.one,D.sz,Nat.reduceAdd,Nat.reduceSub,Nat.reduceLeDiff,Nat.reduceEqDiff,reduceIte,pkN,adQ,Int.reduceLT,Int.reduceLE,AV.fl,AC.fl,AV.shift,AC.shift,szD,List.size_toArray,ByteArray.size_append,CJ,eqV,eqC,f]):sw P K l st:=(h f).mpr k
theorem sx(f:F)(k:H)(h:F→(sd P m K l st)=H:=by intro f;conv=>lhs;simp(disch:=first|decide|omega) only[↓pkR,pkD,pkA,pkZ,List.flatMap_cons,List.flatMap_nil,List.append_nil,mg,lvD,lcD,lvK,lcK,jZ,ex,kav,gdA,opI,gX,wF,kS,AV.toD,AC.toD,AV.nw,AC.nw,AC.one,Value.oneCell',if_true,if_false,Bool.false_eq_true,lG,D.one,D.sz,Nat.reduceAdd,Nat.reduceSub,Nat.reduceLeDiff,Nat.reduceEqDiff,reduceIte,pkN,adQ,Int.reduceLT,Int.reduceLE,AV.fl,AC.fl,AV.shift,AC.shift,szD,List.size_toArray,ByteArray.size_append,CJ,eqV,eqC,f]):sd P m K l st:=(h f).mpr k
theorem nN{G:Prop}(k:H)(h:H→G:=by intro k;first|((with_reducible refine adU ?_ k);(intro off;simp only[↓pkR,St.ev,List.getD_cons_zero,List.getD_cons_succ];first|done|(intro hx;cases hx)|(simp;done)))|((with_reducible refine adT ?_ k);rfl)|((with_reducible refine aaw ?_ k);rfl)|(with_reducible exact adV k)):G:=h k
theorem rD{G:Prop}(k:H)(h:H→G:=by intro k;first|(with_reducible exact iM k)|((with_reducible refine mP false ?_ k);rfl)|((with_reducible refine mP true ?_ k);rfl)|((with_reducible refine LK false ?_ k);rfl)|((with_reducible refine LK true ?_ k);rfl)):G:=h k
theorem sS{G:Prop}(f:F)(k:H)(h:F→G=H:=by intro f;conv=>lhs;simp only[undef,stS,st0,stN,D.av,D.avN,dS,bU,dW,dU,fA,dL,dI,dH,adQ,List.map_cons,List.map_nil,List.replicate,List.cons_append,List.nil_append,List.length_cons,List.length_nil,Nat.reduceAdd,Nat.reduceSub,f]):G:=(h f).mpr k
theorem cS{c:Opd}{x y:IC}{b:Bool}{p q:Prop}(hb:st.ev c= .c false [.raw (.bool b)])(h1:b=true→p→dK lo P x Q st)(h2:b=false→q→dK lo P y Q st)(hp:(b=true)=p:=by conv=>lhs;(try simp only[pkC]))(hq:(b=false)=q:=by conv=>lhs;(try simp only[pkC])):dK lo P (.cond c x y) Q st:=
 jO hb (fun h=>h1 h (hp.mp h)) (fun h=>h2 h (hq.mp h))
section
variable{d:Option Nat}{g:Nat}{w b:Bool}{i:I}{rest:List IOp}
theorem gi(k:sw P K (⟨d,some (g,w),i⟩::rest) st):sw P K (⟨d,some (g,w),i⟩::rest) st:=k
theorem gxi(k:sd P m K (⟨d,some (g,w),i⟩::rest) st):sd P m K (⟨d,some (g,w),i⟩::rest) st:=k
theorem gF(k:H)(h:(sw P K rest (st.put d (.c false [.raw undef])))=H:=by conv=>lhs;(try simp only[St.put,undef,pkA,Nat.reduceAdd,Nat.reduceSub,Nat.reduceLeDiff,Nat.reduceEqDiff])):sw P K rest (st.put d (.c false [.raw undef])):=h.mpr k
theorem gS{p q:Prop}(hg:st.fr.getD g .any= .c false [.raw (.bool b)])(h1:b=w→p→sw P K (⟨d,none,i⟩::rest) st)(h2:b= !w→q→sw P K rest (st.put d (.c false [.raw undef])))(hp:(b=w)=p:=by conv=>lhs;(try simp only[pkC]))(hq:(b= !w)=q:=by conv=>lhs;(try simp only[pkC])):
 sw P K (⟨d,some (g,w),i⟩::rest) st:=Yy hg (fun h=>h1 h (hp.mp h)) (fun h=>h2 h (hq.mp h))
theorem gxF(k:H)(h:(sd P m K rest (st.put d (.c false [.raw undef])))=H:=by conv=>lhs;(try simp only[St.put,undef,pkA,Nat.reduceAdd,Nat.reduceSub,Nat.reduceLeDiff,Nat.reduceEqDiff])):sd P m K rest (st.put d (.c false [.raw undef])):=h.mpr k
theorem gnF{kc:Nat}{Ts:List Nat}(k:H)(h:(sn P kc m Ts K rest (st.put d (.c false [.raw undef])))=H:=by conv=>lhs;(try simp only[St.put,undef,pkA,Nat.reduceAdd,Nat.reduceSub,Nat.reduceLeDiff,Nat.reduceEqDiff])):sn P kc m Ts K rest (st.put d (.c false [.raw undef])):=h.mpr k
theorem gxS{p q:Prop}(hg:st.fr.getD g .any= .c false [.raw (.bool b)])(h1:b=w→p→sd P m K (⟨d,none,i⟩::rest) st)(h2:b= !w→q→sd P m K rest (st.put d (.c false [.raw undef])))(hp:(b=w)=p:=by conv=>lhs;(try simp only[pkC]))(hq:(b= !w)=q:=by conv=>lhs;(try simp only[pkC])):
 sd P m K (⟨d,some (g,w),i⟩::rest) st:=YI hg (fun h=>h1 h (hp.mp h)) (fun h=>h2 h (hq.mp h))
end
end
theorem gq_{G H:Prop}(k:H)(h:H→G:=by intro k;first|((with_reducible refine gi ?_);first|exact fH rfl k|(refine fJ rfl ?_;refine gF ?_;exact k))|((with_reducible refine gxi ?_);first|exact oZ rfl k|(refine o7 rfl ?_;refine gxF ?_;exact k))):G:=h k
theorem cq_{lo:Nat×Nat}{P:Program}{c:Opd}{x y:IC}{Q:Exit→St→Prop}{st:St}(k:dK lo P (.cond c x y) Q st):dK lo P (.cond c x y) Q st:=k
theorem c2_{G A B:Prop}(a:A)(b:B)(h:A→B→G:=by intro a b;first|(with_reducible exact gS rfl a b)|(with_reducible exact gxS rfl a b)|((with_reducible refine cq_ ?_);(fail_if_success refine nv ?_);with_reducible exact cS rfl a b)):G:=h a b
theorem ca_{G A B:Prop}(a:A)(b:B)(h:A→B→G:=by intro a b;with_reducible exact fM a b):G:=h a b
theorem hq_{G H:Prop}(k:H)(h:H→G:=by intro k;with_reducible exact hK _ k):G:=h k
theorem rg_{G H:Prop}(k:H)(h:H→G:=by intro k;first|(with_reducible exact iM k)|((with_reducible refine mP false ?_ k);rfl)|((with_reducible refine mP true ?_ k);rfl)):G:=h k
def zz_(d:Nat)(i:I):IOp:=⟨some d,none,i⟩
def zy_(d t:Nat)(i:I):IOp:=⟨some d,some (t,true),i⟩
def zx_(d t:Nat)(i:I):IOp:=⟨some d,some (t,false),i⟩
def zw_(d a:Nat):IOp:=⟨some d,none,.mov (.t a)⟩
def zv_(d t a:Nat):IOp:=⟨some d,some (t,true),.mov (.t a)⟩
def zu_(d t a:Nat):IOp:=⟨some d,some (t,false),.mov (.t a)⟩
def zt_(d k a:Nat):IOp:=⟨some d,none,.fad k (.t a)⟩
def zs_(d k a:Nat):IOp:=⟨some d,none,.load k false (.t a)⟩
def zr_(d k a:Nat):IOp:=⟨some d,none,.load k true (.t a)⟩
def zq_(d f a:Nat):IOp:=⟨some d,none,.call f [.t a]⟩
def zp_(d f a b:Nat):IOp:=⟨some d,none,.call f [.t a,.t b]⟩
def zo_(d f a b c:Nat):IOp:=⟨some d,none,.call f [.t a,.t b,.t c]⟩
def zn_(d f a:Nat)(z:Int):IOp:=⟨some d,none,.call f [.t a,.k (.int .i64 z)]⟩
def zm_(d:Nat)(o:BinOp)(a:Nat)(z:Int):IOp:=⟨some d,none,.bin o (.t a) (.k (.int .i64 z))⟩
def zl_(d:Nat)(o:BinOp)(a b:Nat):IOp:=⟨some d,none,.bin o (.t a) (.t b)⟩
def zk_(d:Nat)(z:Int):IOp:=⟨some d,none,.mov (.k (.int .i64 z))⟩
def zj_(d:Nat)(v:Bool):IOp:=⟨some d,none,.mov (.k (.bool v))⟩
def zi_(d a:Nat):IOp:=⟨some d,none,.nck (.t a)⟩
def zh_(d a b:Nat)(v:Bool):IOp:=⟨some d,none,.pick (.t a) (.t b) (.k (.bool v))⟩
def zg_(d a:Nat)(v:Bool)(b:Nat):IOp:=⟨some d,none,.pick (.t a) (.k (.bool v)) (.t b)⟩
def zf_(d:Nat)(v:Bool)(a:Nat):IOp:=⟨some d,none,.len v (.t a)⟩
def ze_(d k a b:Nat):IOp:=⟨some d,none,.iad k (.t a) (.t b)⟩
def zd_(l:List IOp)(x:IC):IC:= .seq (.reg false l) x
def zc_(n:Nat)(v:Bool)(y:IC):IC:= .seq (.reg false [⟨some n,none,.mov (.k (.bool v))⟩]) y
theorem zb_{G H:Prop}(k:H)(h:G=H:=by conv=>lhs;dsimp only[zz_,zy_,zx_,zw_,zv_,zu_,zt_,zs_,zr_,zq_,zp_,zo_,zn_,zm_,zl_,zk_,zj_,zi_,zh_,zg_,zf_,ze_,zd_,zc_]):G:=h.mpr k
theorem za_{a b:Int}(h:a≠b):(a==b)=false:=beq_false_of_ne h
end Go.Proofs.YtfjmoicellpnhaaGreat
