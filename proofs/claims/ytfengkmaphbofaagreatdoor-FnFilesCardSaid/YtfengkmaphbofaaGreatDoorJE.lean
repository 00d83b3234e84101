/-
  Texts joined: IrE IrF IrT Ty IrG IrL IrS IrW IrR IrN IrU IrV IrX IrY.
-/
import Derived.Test.YtfengkmaphbofaaGreatDoorJD
import Derived.Test.YtfengkmaphbofaaGreatDoorJA
set_option linter.unusedSimpArgs false
set_option linter.unusedVariables false
namespace Go.Proofs.YtfengkmaphbofaaGreatDoor
open Go.RowKit
open List renaming getElem?_eq_getElem→a_,getElem?_eq_some_iff→b_,getD_eq_getElem?_getD→c_,getElem?_take→d_,mem_of_getElem? →f_,mem_map→g_,getElem?_append_left→i_,mem_flatMap→j_,nodup_append→l_,all_cons→n_,mem_append→p_,length_cons→q_,getElem?_map→u_,all_eq_true→v_,take_sublist→x_,mem_append_right→y_,mem_iff_getElem? →z_,mem_append_left→A_,length_map→B_,replicate→D_,flatMap_cons→F_,cons_append→G_,nodup_nil→H_,map_cons→J_,getElem?_append_right→L_,length_take→M_,getElem?_replicate→N_,getElem?_cons_zero→O_,getElem?_cons_succ→P_,nil_append→Q_,getElem?_set_self→S_,getElem?_toArray→T_,getElem?_append→V_,map_congr_left→W_,getD_cons_zero→X_,getD_cons_succ→Y_,take_succ_cons→Z_,drop_succ_cons→a_a,map_nil→a_b,set_cons_zero→a_c,set_cons_succ→a_d,size_toArray→a_h,getElem_inj→a_k,getElem_mem→a_m,nodup_cons→a_n,length_nil→a_p,take_zero→a_s,drop_zero→a_t,take_nil→a_u,drop_nil→a_v,flatMap→a_z,all_nil→a_C
open Bool renaming and_eq_true→e_,not_false→I_,not_true→K_,not_eq_eq_eq_not→U_,false_eq_true→a_e,not_eq_false'→a_g,not_eq_true'→a_j,and_true→a_w,true_and→a_x,and_self→a_y
open Option renaming map_eq_some_iff→h_,getD_some→k_,map_some→R_,getD_none→a_l,map_none→a_q
open Value renaming oneCell'→m_
open Or renaming inr→o_,inl→t_
open Nat renaming le_trans→r_,le_refl→s_,zero_le→w_,lt_of_lt_of_le→C_,zero_add→a_A,add_zero→a_B,le_of_eq→a_D
open Option.some renaming injEq→E_
inductive IC where
 |reg (dr:Bool) (ops:List IOp)
 |regN (b s:Bool) (Ts:List Nat) (ops:List IOp)
 |seq (x y:IC)
 |cond (c:Opd) (x y:IC)
 |block (id:Nat) (x:IC)
 |loop (x:IC)
 |exit (id:Nat)
 |ret
 |skip
def V8(is:List IOp):List Nat:=(is.filterMap fun o=>pI o.i).filter fun t=>is.all fun o=>match o.d with|some u=>u !=t|none=>true
def Yt(is:List IOp):Bool:=is.any fun o=>match o.i with
 | .store _ (.t x) _=>is.any fun q=>q.d==some x && (match q.i with
   | .iad .. =>true
   | .fad _ (.t y)=>is.any fun r=>r.d==some y && (match r.i with| .iad .. =>true|_=>false)
   |_=>false)
 |_=>false
def XQ(is:List IOp):Bool:=(is.any fun o=>match o.i with| .brow false .. =>true|_=>false) && (is.any fun o=>match o.i with| .app .. =>true|_=>false)
def Uj(ops:List Oper)(Ts:List Nat)(is:List IOp):IC:= .regN (vW ops is) (XQ is && rQ (1000001::Ts) ops is) Ts is
def Vu(ops:List Oper)(is:List IOp):Option IC:=
 if(vW ops is && !(is.any fun o=>o.i.isC)) && !Yt is then(if XQ is && rQ [] ops is then some (Uj ops [] is)else some (.reg true is))
 else if rQ [] ops is then some (Uj ops [] is)
 else if rQ (V8 is) ops is then some (Uj ops (V8 is) is)
 else if vW ops is then some (.reg true is)
 else if rQ (1000000::V8 is) ops is then some (Uj ops (1000000::V8 is) is)else none
theorem qy{ops:List Oper}{is:List IOp}{c:IC}(h:Vu ops is=some c):(c= .reg true is∧vW ops is=true)∨∃Ts s,c= .regN (vW ops is) s Ts is∧rQ Ts ops is=true∧(s=true→rQ (1000001::Ts) ops is=true):=by
 have hn:∀Ts,rQ Ts ops is=true→∃Ts' s,Uj ops Ts is= .regN (vW ops is) s Ts' is∧rQ Ts' ops is=true∧(s=true→rQ (1000001::Ts') ops is=true):=fun Ts h=>
  ⟨Ts,_,rfl,h,fun h1=>by rw[e_]at h1;exact h1.2⟩
 unfold Vu at h;split at h
 ·next h1=>
  simp only[e_]at h1;split at h
  ·next h2=>injection h with h;rw[e_]at h2;exact o_ (h▸hn _ h2.2)
  ·injection h with h;exact t_ ⟨h.symm,h1.1.1⟩
 ·split at h
  ·next h1=>injection h with h;exact o_ (h▸hn _ h1)
  ·split at h
   ·next h1=>injection h with h;exact o_ (h▸hn _ h1)
   ·split at h
    ·next h1=>injection h with h;exact t_ ⟨h.symm,h1⟩
    ·split at h
     ·next h1=>injection h with h;exact o_ (h▸hn _ h1)
     ·cases h
def bg(P:Program):Code→Option IC
 | .region id ops false=>(lY P ops ops.toList).map (IC.reg false)
 | .region id ops true=>(match lY P ops ops.toList with|some is=>if P.follows .mixedOrders then Vu ops.toList is else none|none=>none)
 | .seq x y=>(match bg P x,bg P y with|some x,some y=>some (.seq x y)|_,_=>none)
 | .cond c x y=>(match bg P x,bg P y with|some x,some y=>some (.cond (opd c) x y)|_,_=>none)
 | .block id x=>(bg P x).map (IC.block id)
 | .loop x=>(bg P x).map IC.loop
 | .exit id=>some (.exit id)
 | .ret=>some .ret
 | .skip=>some .skip
 | .label _=>some .skip
 |_=>none
theorem oM{P:Program}{id:Nat}{ops:Array Oper}{b:Bool}{c:IC}(h:bg P (.region id ops b)=some c)(hc:∀d l,c≠ .reg d l)(hn:∀b s T l,c≠ .regN b s T l):False:=by
 cases b with
 | false=>
   simp only[bg]at h;obtain⟨l,_,he⟩:=h_.1 h;exact hc _ _ he.symm
 | true=>
   simp only[bg]at h;split at h
   ·split at h
    ·rcases qy h with⟨h,_⟩|⟨Ts,s,h,_⟩
     ·exact hc _ _ h
     ·exact hn _ _ _ _ h
    ·cases h
   ·cases h
def iK(lo:Nat×Nat)(P:Program)(c:IC)(Q:Exit→St→Prop)(st:St):Prop:=
 ∀(code:Code),bg P code=some c→∀(B:Nat) (Xs:List Nat) (G:Org) (w0:World),(G.os.length≤lo.1∧G.E.bm.length≤lo.2)→∀(E:Env) (a:Act) (w:World),Rel B Xs G w0 st E a w→code.wp P (fun e a' w'=>∃st' E',Rel B Xs G w0 st' E' a' w'∧Q e st') a w
abbrev AWP(P:Program)(c:IC)(Q:Exit→St→Prop)(st:St):Prop:=iK (0,0) P c Q st
def I8(lo:Nat×Nat)(P:Program)(y:IC)(Q:Exit→St→Prop):Exit→St→Prop
 | .normal,st=>iK lo P y Q st
 |e,st=>Q e st
def zH(id:Nat)(Q:Exit→St→Prop):Exit→St→Prop
 | .exit id',st=>if id'=id then Q .normal st else Q (.exit id') st
 |e,st=>Q e st
section
variable{lo:Nat×Nat}{P:Program}{Q:Exit→St→Prop}{st:St}
theorem cO(h:Q .normal st):iK lo P .skip Q st:=fun code hc B Xs G w0 hG E a w hR=>by
 cases code with
 |skip=>exact wp_skip ⟨st,E,hR,h⟩
 |label l=>exact wp_label ⟨st,E,hR,h⟩
 |region id ops b=>exact(oM hc (by simp) (by simp)).elim
 |seq x y=>simp only[bg]at hc;split at hc<;>simp at hc
 |cond c x y=>simp only[bg]at hc;split at hc<;>simp at hc
 |block id x=>simp[bg]at hc
 |loop x=>simp[bg]at hc
 |exit id=>simp[bg]at hc
 |ret=>simp[bg]at hc
 |rangeFunc=>simp[bg]at hc
 |scope=>simp[bg]at hc
 |goto=>simp[bg]at hc
 |refuse=>simp[bg]at hc
theorem cZ{id:Nat}(h:Q (.exit id) st):iK lo P (.exit id) Q st:=fun code hc B Xs G w0 hG E a w hR=>by
 cases code with
 |exit id=>simp[bg]at hc;subst hc;exact wp_exit ⟨st,E,hR,h⟩
 |skip=>simp[bg]at hc
 |label l=>simp[bg]at hc
 |region id ops b=>exact(oM hc (by simp) (by simp)).elim
 |seq x y=>simp only[bg]at hc;split at hc<;>simp at hc
 |cond c x y=>simp only[bg]at hc;split at hc<;>simp at hc
 |block id x=>simp[bg]at hc
 |loop x=>simp[bg]at hc
 |ret=>simp[bg]at hc
 |rangeFunc=>simp[bg]at hc
 |scope=>simp[bg]at hc
 |goto=>simp[bg]at hc
 |refuse=>simp[bg]at hc
theorem dH(h:Q .ret st):iK lo P .ret Q st:=fun code hc B Xs G w0 hG E a w hR=>by
 cases code with
 |ret=>exact wp_ret ⟨st,E,hR,h⟩
 |exit id=>simp[bg]at hc
 |skip=>simp[bg]at hc
 |label l=>simp[bg]at hc
 |region id ops b=>exact(oM hc (by simp) (by simp)).elim
 |seq x y=>simp only[bg]at hc;split at hc<;>simp at hc
 |cond c x y=>simp only[bg]at hc;split at hc<;>simp at hc
 |block id x=>simp[bg]at hc
 |loop x=>simp[bg]at hc
 |rangeFunc=>simp[bg]at hc
 |scope=>simp[bg]at hc
 |goto=>simp[bg]at hc
 |refuse=>simp[bg]at hc
theorem dG{x y:IC}(h:iK lo P x (I8 lo P y Q) st):iK lo P (.seq x y) Q st:=fun code hc B Xs G w0 hG E a w hR=>by
 cases code with
 | seq cx cy=>
   simp only[bg]at hc;split at hc
   ·next x' y' hx hy=>
    simp only[E_,IC.seq.injEq]at hc;obtain⟨rfl,rfl⟩:=hc;refine wp_seq (wp_mono (h cx hx B Xs G w0 hG E a w hR) ?_);rintro e a' w' ⟨st',E',h1,h2⟩;cases e with
    |normal=>exact h2 cy hy B Xs G w0 hG E' a' w' h1
    |_=>exact⟨st',E',h1,h2⟩
   ·cases hc
 |ret=>simp[bg]at hc
 |exit id=>simp[bg]at hc
 |skip=>simp[bg]at hc
 |label l=>simp[bg]at hc
 |region id ops b=>exact(oM hc (by simp) (by simp)).elim
 |cond c x y=>simp only[bg]at hc;split at hc<;>simp at hc
 |block id x=>simp[bg]at hc
 |loop x=>simp[bg]at hc
 |rangeFunc=>simp[bg]at hc
 |scope=>simp[bg]at hc
 |goto=>simp[bg]at hc
 |refuse=>simp[bg]at hc
theorem EG{c:Opd}{x y:IC}{b:Bool}(hb:st.ev c= .c false [.raw (.bool b)])(h1:b=true→iK lo P x Q st)(h2:b=false→iK lo P y Q st):iK lo P (.cond c x y) Q st:=fun code hc B Xs G w0 hG E a w hR=>by
 cases code with
 | cond o cx cy=>
   simp only[bg]at hc;split at hc
   ·next x' y' hx hy=>
    simp only[E_,IC.cond.injEq]at hc;obtain⟨rfl,rfl,rfl⟩:=hc;have he:=gy hR hb;cases b with
    |true=>exact wp_cond_true he (h1 rfl cx hx B Xs G w0 hG E a w hR)
    |false=>exact wp_cond_false he (h2 rfl cy hy B Xs G w0 hG E a w hR)
   ·cases hc
 |seq x y=>simp only[bg]at hc;split at hc<;>simp at hc
 |ret=>simp[bg]at hc
 |exit id=>simp[bg]at hc
 |skip=>simp[bg]at hc
 |label l=>simp[bg]at hc
 |region id ops b=>exact(oM hc (by simp) (by simp)).elim
 |block id x=>simp[bg]at hc
 |loop x=>simp[bg]at hc
 |rangeFunc=>simp[bg]at hc
 |scope=>simp[bg]at hc
 |goto=>simp[bg]at hc
 |refuse=>simp[bg]at hc
theorem bK{id:Nat}{x:IC}(h:iK lo P x (zH id Q) st):iK lo P (.block id x) Q st:=fun code hc B Xs G w0 hG E a w hR=>by
 cases code with
 | block id' cx=>
   simp only[bg]at hc;obtain⟨x',hx,he⟩:=h_.1 hc;simp only[IC.block.injEq]at he;obtain⟨rfl,rfl⟩:=he;refine wp_block (wp_mono (h cx hx B Xs G w0 hG E a w hR) ?_);rintro e a' w' ⟨st',E',h1,h2⟩;cases e with
   | exit j=>
     simp only[Exit.inBlock,zH]at h2⊢;split
     ·next e=>rw[if_pos e]at h2;exact⟨st',E',h1,h2⟩
     ·next e=>rw[if_neg e]at h2;exact⟨st',E',h1,h2⟩
   |_=>exact⟨st',E',h1,h2⟩
 |cond c x y=>simp only[bg]at hc;split at hc<;>simp at hc
 |seq x y=>simp only[bg]at hc;split at hc<;>simp at hc
 |ret=>simp[bg]at hc
 |exit id=>simp[bg]at hc
 |skip=>simp[bg]at hc
 |label l=>simp[bg]at hc
 |region id ops b=>exact(oM hc (by simp) (by simp)).elim
 |loop x=>simp[bg]at hc
 |rangeFunc=>simp[bg]at hc
 |scope=>simp[bg]at hc
 |goto=>simp[bg]at hc
 |refuse=>simp[bg]at hc
theorem jU{ops:List IOp}(h:∀K:St→Prop,(∀st',Q .normal st'→K st')→sw P K ops st):iK lo P (.reg false ops) Q st:=fun code hc B Xs G w0 hG E a w hR=>by
 cases code with
 | region id cops b=>
   cases b with
   | true=>
     simp only[bg]at hc;split at hc
     ·split at hc
      ·rcases qy hc with⟨hc,_⟩|⟨Ts,s,hc,_⟩<;>simp at hc
      ·cases hc
     ·cases hc
   | false=>
     simp only[bg]at hc;obtain⟨l,hl,he⟩:=h_.1 hc;simp only[IC.reg.injEq]at he;obtain⟨_,rfl⟩:=he;exact wp_region_list (yJ (K:=Q .normal) (fun st' E' a' w' h1 h2=>⟨st',E',h1,h2⟩) _ _ st E a w hl hR (h _ fun _ h=>h))
 |block id x=>simp[bg]at hc
 |cond c x y=>simp only[bg]at hc;split at hc<;>simp at hc
 |seq x y=>simp only[bg]at hc;split at hc<;>simp at hc
 |ret=>simp[bg]at hc
 |exit id=>simp[bg]at hc
 |skip=>simp[bg]at hc
 |label l=>simp[bg]at hc
 |loop x=>simp[bg]at hc
 |rangeFunc=>simp[bg]at hc
 |scope=>simp[bg]at hc
 |goto=>simp[bg]at hc
 |refuse=>simp[bg]at hc
theorem yw{ops:List IOp}(m:Bool)(hm:m=ops.any fun o=>o.i.cls==3)(h:∀K:St→Prop,(∀st',Q .normal st'→K st')→sd P m K ops st):iK lo P (.reg true ops) Q st:=fun code hc B Xs G w0 hG E a w hR=>by
 cases code with
 | region id cops b=>
   cases b with
   | false=>
     simp only[bg]at hc;obtain⟨l,hl,he⟩:=h_.1 hc;simp at he
   | true=>
     simp only[bg]at hc;split at hc
     ·next l hl=>
      split at hc
      ·next hd=>
       rcases qy hc with⟨hc,hb⟩|⟨Ts,s,hc,_⟩
       ·simp only[IC.reg.injEq]at hc;obtain⟨_,rfl⟩:=hc;exact XK (K:=Q .normal) hd hl hb hm (fun st' E' a' w' h1 h2=>⟨st',E',h1,h2⟩) (h _ fun _ h=>h) hR
       ·cases hc
      ·cases hc
     ·cases hc
 |block id x=>simp[bg]at hc
 |cond c x y=>simp only[bg]at hc;split at hc<;>simp at hc
 |seq x y=>simp only[bg]at hc;split at hc<;>simp at hc
 |ret=>simp[bg]at hc
 |exit id=>simp[bg]at hc
 |skip=>simp[bg]at hc
 |label l=>simp[bg]at hc
 |loop x=>simp[bg]at hc
 |rangeFunc=>simp[bg]at hc
 |scope=>simp[bg]at hc
 |goto=>simp[bg]at hc
 |refuse=>simp[bg]at hc
theorem fZ{ops:List IOp}{Ts:List Nat}{s:Bool}(m:Bool)(hm:m=ops.any fun o=>o.i.cls==3)(h:∀K:St→Prop,(∀st',Q .normal st'→K st')→sd P m K ops st):iK lo P (.regN true s Ts ops) Q st:=fun code hc B Xs G w0 hG E a w hR=>by
 cases code with
 | region id cops b=>
   cases b with
   | false=>
     simp only[bg]at hc;obtain⟨l,hl,he⟩:=h_.1 hc;simp at he
   | true=>
     simp only[bg]at hc;split at hc
     ·next l hl=>
      split at hc
      ·next hd=>
       rcases qy hc with⟨hc,hb⟩|⟨Ts,s,hc,_⟩
       ·cases hc
       ·simp only[IC.regN.injEq]at hc;obtain⟨hb,_,_,rfl⟩:=hc;exact XK (K:=Q .normal) hd hl hb.symm hm (fun st' E' a' w' h1 h2=>⟨st',E',h1,h2⟩) (h _ fun _ h=>h) hR
      ·cases hc
     ·cases hc
 |block id x=>simp[bg]at hc
 |cond c x y=>simp only[bg]at hc;split at hc<;>simp at hc
 |seq x y=>simp only[bg]at hc;split at hc<;>simp at hc
 |ret=>simp[bg]at hc
 |exit id=>simp[bg]at hc
 |skip=>simp[bg]at hc
 |label l=>simp[bg]at hc
 |loop x=>simp[bg]at hc
 |rangeFunc=>simp[bg]at hc
 |scope=>simp[bg]at hc
 |goto=>simp[bg]at hc
 |refuse=>simp[bg]at hc
theorem fD{ops:List IOp}{Ts:List Nat}{b s:Bool}(kc:Nat)(m:Bool)(hD:kU Ts st)(h:∀K:St→Prop,(∀st',Q .normal st'→K st')→sn P kc m Ts K ops st)(hS:RS Ts=true→∀y∈Ts,∀k off,st.ev (.t y)= .bptr k off→k=kc:=by first|(intro h;exact absurd h (by decide))|(simp[RS,St.ev,List.getD_cons_zero,List.getD_cons_succ];done))(hsm:Cm Ts=true→m=true:=by first|(intro h;exact absurd h (by decide))|(intro _;rfl)):iK lo P (.regN b s Ts ops) Q st:=fun code hc B Xs G w0 hG E a w hR=>by
 cases code with
 | region id cops b=>
   cases b with
   | false=>
     simp only[bg]at hc;obtain⟨l,hl,he⟩:=Option.map_eq_some_iff.1 hc;simp at he
   | true=>
     simp only[bg]at hc;split at hc
     ·next l hl=>
      split at hc
      ·next hd=>
       rcases qy hc with⟨hc,hb⟩|⟨Ts,s,hc,hb,hs⟩
       ·cases hc
       ·simp only[IC.regN.injEq]at hc;obtain⟨_,_,rfl,rfl⟩:=hc;exact YI (K:=Q .normal) (kc:=kc) (m:=m) hd hl hb hsm ⟨hD,hS⟩ (fun st' E' a' w' h1 h2=>⟨st',E',h1,h2⟩) (h _ fun _ h=>h) hR
      ·cases hc
     ·cases hc
 |block id x=>simp[bg]at hc
 |cond c x y=>simp only[bg]at hc;split at hc<;>simp at hc
 |seq x y=>simp only[bg]at hc;split at hc<;>simp at hc
 |ret=>simp[bg]at hc
 |exit id=>simp[bg]at hc
 |skip=>simp[bg]at hc
 |label l=>simp[bg]at hc
 |loop x=>simp[bg]at hc
 |rangeFunc=>simp[bg]at hc
 |scope=>simp[bg]at hc
 |goto=>simp[bg]at hc
 |refuse=>simp[bg]at hc
theorem iR{st:St}:kU [] st:=fun x hx=>by simp at hx
def AC.fits(n m:Nat):AC→Bool
 | .own k _=>decide (k<n)
 | .osub k _ _ _=>decide (k<n)
 | .cl _ caps=>caps.all fun k=>decide (k<m)
 |_=>true
def AV.fits(n m:Nat):AV→Bool
 | .c _ xs=>xs.all (AC.fits n m)
 | .ptr xs=>xs.all (AC.fits n m)
 | .bptr k _=>decide (k<m)
 | .eptr k _ _ _=>decide (k<n)
 | .tup ys=>ys.all fun y=>y.2.all (AC.fits n m)
 | .any=>true
def iM(n m:Nat):List AV→List AV→Prop
 | [],[]=>True
 |x::xs,y::ys=>(y= .any∨(x=y∧y.fits n m=true))∧iM n m xs ys
 |_,_=>False
def VR(st st':St):Prop:=iM st'.owns.length st'.boxes.length st.fr st'.fr∧(∃r,st.owns=st'.owns++r)∧(∃r,st.boxes=st'.boxes++r)∧∀xs∈st'.boxes,xs.all (AC.fits st'.owns.length st'.boxes.length)=true
def gq :List Own→List Own→Prop
 |_,[]=>True
 |o::os,o'::os'=>(o.l=o'.l∧o.e=o'.e∧o.s=o'.s∧o.ver=o'.ver∧o.nw=o'.nw)∧gq os os'
 | [],_::_=>False
def gJ :List (List AC)→List (List AC)→Prop
 |_,[]=>True
 |x::xs,y::ys=>x=y∧gJ xs ys
 | [],_::_=>False
def gI(st st':St):Prop:=iM st'.owns.length st'.boxes.length st.fr st'.fr∧gq st.owns st'.owns∧gJ st.boxes st'.boxes∧(st'.boxes.all fun xs=>xs.all (AC.fits st'.owns.length st'.boxes.length))=true
theorem wB :∀{os os':List Own},gq os os'→∃r,os=os'++r
 |os,[],_=>⟨os,rfl⟩
 | o::os,o'::os',h=>by
   obtain⟨r,hr⟩:=wB h.2;obtain⟨⟨h1,h2,h3,h4,h5⟩,_⟩:=h;refine⟨r, ?_⟩;rw[G_,← hr];congr 1;cases o;cases o';simp_all
 | [],_::_,h=>h.elim
theorem wR :∀{xs ys:List (List AC)},gJ xs ys→∃r,xs=ys++r
 |xs,[],_=>⟨xs,rfl⟩
 | x::xs,y::ys,h=>by
   obtain⟨r,hr⟩:=wR h.2;exact⟨r,by rw[G_,← hr,h.1]⟩
 | [],_::_,h=>h.elim
theorem Ho{st st':St}(h:gI st st'):VR st st':=by
 obtain⟨h1,h2,h3,h4⟩:=h;exact⟨h1,wB h2,wR h3,fun xs hx=>v_.1 h4 xs hx⟩
section
variable{E:Env}{os os':List Own}{w:World}{n m:Nat}
def Env.cut(E:Env)(n m:Nat):Env:={E with om:=E.om.take n,bm:=E.bm.take m}
theorem PY{b:Nat}(h:b∈(E.cut n m).M):b∈E.M:=by
 rcases jy.1 h with⟨k,p,h1,h2⟩|⟨k,p,h1,h2⟩
 ·refine jy.2 (t_ ⟨k,p, ?_,h2⟩);simp only[Env.cut]at h1;rw[d_]at h1;split at h1
  ·exact h1
  ·cases h1
 ·refine jy.2 (o_ ⟨k,p, ?_,h2⟩);simp only[Env.cut]at h1;rw[d_]at h1;split at h1
  ·exact h1
  ·cases h1
theorem AC.ok.cut{r:List Own}{x:AC}{v:Value}(h:x.ok E (os++r) w v)(hn:os.length=n)(hf:x.fits n m=true):x.ok (E.cut n m) os w v:=by
 cases x with
 |any=>trivial
 |raw u=>exact h
 | cl f caps=>
   obtain⟨ps,h1,h2⟩:=h;refine⟨ps, ?_,h2⟩;rw[← h1];refine W_ fun k hk=> ?_
   have:k<m:=by simpa using v_.1 hf k hk
   simp only[Env.cut];rw[d_,if_pos this]
 | sl b l=>
   obtain⟨fp,h1,h2⟩:=h;exact⟨fp,h1,fun b hb=>⟨fun hm=>(h2 b hb).1 (PY hm),(h2 b hb).2⟩⟩
 | own k i=>
   obtain⟨hv,o,p,h1,h2,h3,h4⟩:=h;have hk:k<n:=by simpa[AC.fits]using hf
   refine⟨hv,o,p, ?_, ?_,h3,h4⟩
   ·rwa[i_ (by omega)]at h1
   ·simp only[Env.cut];rw[d_,if_pos hk];exact h2
 | osub k i pa pb=>
   obtain⟨hv,o,p,h1,h2,h3,h4⟩:=h;have hk:k<n:=by simpa[AC.fits]using hf
   refine⟨hv,o,p, ?_, ?_,h3,h4⟩
   ·rwa[i_ (by omega)]at h1
   ·simp only[Env.cut];rw[d_,if_pos hk];exact h2
theorem Oks.cut{r:List Own}(hn:os.length=n):∀{xs:List AC} {vs:List Value},Oks E (os++r) w xs vs→xs.all (AC.fits n m)=true→Oks (E.cut n m) os w xs vs
 | [],[],_,_=>trivial
 | x::xs,v::vs,h,hf=>by
   simp only[n_,e_]at hf;exact⟨h.1.cut hn hf.1,Oks.cut hn h.2 hf.2⟩
 | [],_::_,h,_=>h.elim
 |_::_,[],h,_=>h.elim
theorem Gok.cut{r:List Own}(hn:os.length=n){g:Bool}{xs:List AC}{v:Value}(h:Gok E (os++r) w g xs v)(hf:xs.all (AC.fits n m)=true):Gok (E.cut n m) os w g xs v:=by
 cases g with
 |true=>obtain⟨vs,h1,h2⟩:=h;exact⟨vs,h1,h2.cut hn hf⟩
 |false=>exact Oks.cut hn (show Oks _ _ _ xs [v] from h) hf
theorem qW.cut{r:List Own}(hn:os.length=n):∀{ys:List (Bool×List AC)} {vs:List Value},qW E (os++r) w ys vs→(ys.all fun y=>y.2.all (AC.fits n m))=true→qW (E.cut n m) os w ys vs
 | [],[],_,_=>trivial
 | x::xs,v::vs,h,hf=>by
   simp only[n_,e_]at hf;exact⟨h.1.cut hn hf.1,qW.cut hn h.2 hf.2⟩
 | [],_::_,h,_=>h.elim
 |_::_,[],h,_=>h.elim
theorem AV.ok.cut{r:List Own}(hn:os.length=n){x:AV}{v:Value}(h:x.ok E (os++r) w v)(hf:x.fits n m=true):x.ok (E.cut n m) os w v:=by
 cases x with
 |any=>trivial
 |c g xs=>exact Gok.cut hn h hf
 | ptr xs=>
   obtain⟨b,o,vs,h1,h2,h3,h4,h5⟩:=h;exact⟨b,o,vs,h1,h2,fun hm=>h3 (PY hm),h4,h5.cut hn hf⟩
 | bptr k off=>
   obtain⟨p,h1,h2⟩:=h;refine⟨p, ?_,h2⟩;simp only[Env.cut];rw[d_,if_pos (by simpa[AV.fits]using hf)];exact h1
 | eptr k i j off=>
   obtain⟨o,p,h1,h2,h3,h4⟩:=h;have hk:k<n:=by simpa[AV.fits]using hf
   refine⟨o,p, ?_, ?_,h3,h4⟩
   ·rwa[i_ (by omega)]at h1
   ·simp only[Env.cut];rw[d_,if_pos hk];exact h2
 | tup ys=>
   obtain⟨vs,h1,h2⟩:=h;exact⟨vs,h1,h2.cut hn hf⟩
end
theorem Ld{n m:Nat}:∀{xs ys:List AV},iM n m xs ys→xs.length=ys.length∧∀(t:Nat) (y:AV),ys[t]? =some y→y= .any∨(xs[t]? =some y∧y.fits n m=true)
 | [],[],_=>⟨rfl,fun t y h=>by simp at h⟩
 | x ::xs,y::ys,h=>by
   obtain⟨h1,h2⟩:=Ld h.2;refine⟨by simp[h1],fun t z hz=> ?_⟩;cases t with
   | zero=>
     simp at hz;subst hz;rcases h.1 with h'|⟨h',h''⟩
     ·exact t_ h'
     ·exact o_ ⟨by simp[h'],h''⟩
   |succ t=>simpa using h2 t z (by simpa using hz)
 | [],_::_,h=>h.elim
 |_::_,[],h=>h.elim
theorem Rel.weak{B:Nat}{Xs:List Nat}{G:Org}{w0:World}{st st':St}{E:Env}{a:Act}{w:World}(h:Rel B Xs G w0 st E a w)(hle:VR st st')(hG1:G.os.length≤st'.owns.length)(hG2:G.E.bm.length≤st'.boxes.length):∃E',Rel B Xs G w0 st' E' a w:=by
 obtain⟨h1,⟨r1,h2⟩,⟨r2,h3⟩,h4⟩:=hle;obtain⟨hl,hf⟩:=Ld h1;obtain⟨fr,os,bs⟩:=st;obtain⟨fr',os',bs'⟩:=st';simp only at h2 h3 h1 hl hf h4;subst h2 h3;have hol:=h.olen;have hbl:=h.blen;simp only[List.length_append]at hol hbl;refine⟨E.cut os'.length bs'.length, ?_⟩;exact
  { eb:=h.eb
    ex:=h.ex
    sim := { base:=h.sim.base,size:=h.sim.size,blk:=h.sim.blk,old:=fun b hb hm=>h.sim.old b hb (PY hm),
             own:=fun k o p g1 g2=>by
              obtain⟨o',p',q1,q2,q3⟩:=h.sim.own k o p g1 g2;have hk:k<os'.length:=C_ (b_.1 g1).1 hG1;refine⟨o',p', ?_, ?_,q3⟩
              ·simp only at q1⊢;rwa[i_ hk]at q1
              ·simp only[Env.cut];rw[d_,if_pos hk];exact q2
             box:=fun k p g=>by
              have hk:k<bs'.length:=C_ (b_.1 g).1 hG2;simp only[Env.cut];rw[d_,if_pos hk];exact h.sim.box k p g}
    defers:=h.defers
    size:=by rw[h.size];exact hl
    fr:=fun t y hy=>by
     rcases hf t y hy with rfl|⟨h5,h6⟩
     ·trivial
     ·exact(h.fr t y h5).cut rfl h6
    olen:=by simp only[Env.cut,M_];omega
    own:=fun k o p g1 g2=>by
     have hk:k<os'.length:=(b_.1 g1).1;simp only[Env.cut]at g2;rw[d_,if_pos hk]at g2;obtain⟨cs,h5,h6,h7,h8⟩:=h.own k o p (by simp only;rw[i_ hk];exact g1) g2;exact⟨cs,h5,h6,h7,fun b hb=>⟨fun hm=>(h8 b hb).1 (PY hm),(h8 b hb).2⟩⟩
    blen:=by simp only[Env.cut,M_];omega
    box:=fun k xs p g1 g2=>by
     have hk:k<bs'.length:=(b_.1 g1).1;simp only[Env.cut]at g2;rw[d_,if_pos hk]at g2;obtain⟨h5,vs,h6,h7⟩:=h.box k xs p (by simp only;rw[i_ hk];exact g1) g2;exact⟨h5,vs,h6,h7.cut rfl (h4 xs (f_ g1))⟩
    nodup:=by
     have:=h.nodup;unfold Env.M at this⊢;rw[l_]at this⊢;refine⟨this.1.sublist (by simp only[Env.cut];exact(x_ _ _).map _),this.2.1.sublist (by
      simp only[Env.cut];have e:=congrArg (a_z (fun p:Value×List Nat=>p.1.ownBlock.toList)) (List.take_append_drop os'.length E.om);rw[List.flatMap_append]at e;rw[← e];exact List.sublist_append_left _ _),fun x hx y hy=> ?_⟩
     refine this.2.2 x ?_ y ?_
     ·exact((x_ bs'.length E.bm).map _).subset hx
     ·obtain⟨p,hp,hpy⟩:=j_.1 hy;exact j_.2 ⟨p,List.mem_of_mem_take hp,hpy⟩
    lin:=by
     refine h.lin.map (fun k=>k) (fun j k e _ _=>e) fun k o p g1 g2 g3=>o_ ⟨o, ?_, ?_,g3⟩
     ·simp only;rw[i_ (b_.1 g1).1];exact g1
     ·simp only[Env.cut]at g2;rwa[d_,if_pos (b_.1 g1).1]at g2
    unf:=by
     refine h.unf.map (fun k=>k) fun k o p g1 g2 g3=>o_ ⟨o, ?_, ?_,g3⟩
     ·simp only;rw[i_ (b_.1 g1).1];exact g1
     ·simp only[Env.cut]at g2;rwa[d_,if_pos (b_.1 g1).1]at g2
    below:=h.below
    base:=h.base}
theorem FP{P:Program}{Q:Exit→Act→World→Prop}{a:Act}{w:World}{c:Code}(I:Nat→Act→World→Prop)(n:Nat)(h₀:I n a w)
 (round:∀n a w,I n a w→c.wp P (Exit.then (fun a' w'=>∃m,m<n∧I m a' w') Q) a w):(Code.loop c).wp P Q a w:=by
 intro b k cs;have key:∀n a w,I n a w→∃e a' w',Q e a' w'∧Arrives P (lone (b.at a (.code c:: .inLoop c::k)) cs w) b k cs e a' w':=by
  intro n
  induction n using Nat.strongRecOn with
  | _ n ih=>
    intro a w hI;obtain⟨e,a₁,w₁,hq,harr⟩:=round n a w hI b (.inLoop c::k) cs;cases e with
    | normal=>
      obtain⟨m,hlt,hI₁⟩:=hq;obtain⟨e₂,a₂,w₂,hq₂,harr₂⟩:=ih m hlt a₁ w₁ hI₁;exact⟨e₂,a₂,w₂,hq₂,.of_steps (Steps.trans harr (.one step_inLoop)) harr₂⟩
    |exit id=>exact⟨_,a₁,w₁,hq,.pass (x:= .inLoop c) rfl (fun _ _=> .inl (by simp)) harr⟩
    |goto l=>exact⟨_,a₁,w₁,hq,.pass (x:= .inLoop c) rfl (fun _ _=> .inl (by simp)) harr⟩
    |ret=>exact⟨_,a₁,w₁,hq,.pass (x:= .inLoop c) rfl (fun _ _=> .inl (by simp)) harr⟩
    |panic ch=>exact⟨_,a₁,w₁,hq,.pass (x:= .inLoop c) rfl (fun _ _=> .inl (by simp)) harr⟩
    |outgrown=>exact⟨_,a₁,w₁,hq,.pass (x:= .inLoop c) rfl (fun _ _=> .inl (by simp)) harr⟩
 obtain⟨e,a',w',hq,harr⟩:=key n a w h₀;exact⟨e,a',w',hq,.of_steps (.one step_loop) harr⟩
def wY{X:Type}(F:X→St)(inv:X→Prop)(μ:X→Nat)(x:X)(Q:Exit→St→Prop):Exit→St→Prop
 | .normal,st=>∃x',VR st (F x')∧inv x'∧μ x'<μ x
 |e,st=>Q e st
theorem GK{X:Type}{c:IC}(F:X→St)(inv:X→Prop)(μ:X→Nat)(x0:X)(h0:inv x0)(hlo:∀x,lo.1≤(F x).owns.length∧lo.2≤(F x).boxes.length)(hle:VR st (F x0))(round:∀x,inv x→iK lo P c (wY F inv μ x Q) (F x)):iK lo P (.loop c) Q st:=fun code hc B Xs G w0 hG E a w hR=>by
 cases code with
 | loop cc=>
   simp only[bg]at hc;obtain⟨c',hcc,he⟩:=h_.1 hc;simp only[IC.loop.injEq]at he;subst he;obtain⟨E',hR'⟩:=hR.weak hle (r_ hG.1 (hlo _).1) (r_ hG.2 (hlo _).2);refine FP (fun n a w=>∃x E,μ x=n∧inv x∧Rel B Xs G w0 (F x) E a w) (μ x0) ⟨x0,E',rfl,h0,hR'⟩ ?_;rintro n a w ⟨x,E,rfl,hx,hR⟩;refine wp_mono (round x hx cc hcc B Xs G w0 hG E a w hR) ?_;rintro e a' w' ⟨st',E',h1,h2⟩;cases e with
   | normal=>
     obtain⟨x',h3,h4,h5⟩:=h2;obtain⟨E'',h6⟩:=h1.weak h3 (r_ hG.1 (hlo _).1) (r_ hG.2 (hlo _).2);exact⟨μ x',h5,x',E'',rfl,h4,h6⟩
   |_=>exact⟨st',E',h1,h2⟩
 |region id cops b=>exact(oM hc (by simp) (by simp)).elim
 |block id x=>simp[bg]at hc
 |cond c x y=>simp only[bg]at hc;split at hc<;>simp at hc
 |seq x y=>simp only[bg]at hc;split at hc<;>simp at hc
 |ret=>simp[bg]at hc
 |exit id=>simp[bg]at hc
 |skip=>simp[bg]at hc
 |label l=>simp[bg]at hc
 |rangeFunc=>simp[bg]at hc
 |scope=>simp[bg]at hc
 |goto=>simp[bg]at hc
 |refuse=>simp[bg]at hc
theorem VF{X:Type}{c:IC}(F:X→St)(inv:X→Prop)(μ:X→Nat)(x0:X)(h0:inv x0)(hle:VR st (F x0))(round:∀x,inv x→AWP P c (wY F inv μ x Q) (F x)):AWP P (.loop c) Q st:=
 GK F inv μ x0 h0 (fun _=>⟨w_ _,w_ _⟩) hle round
end
def stN(b:Bool)(n:Nat)(ds:List D):St:=⟨ds.map (D.avN b)++D_ (n - ds.length) (.c false [.raw undef]),[],[]⟩
def st0(n:Nat)(ds:List D):St:=⟨ds.map D.av++D_ (n - ds.length) (.c false [.raw undef]),[],[]⟩
theorem Y8{w:World}{F:List Nat}{d:D}{v:Value}{H:Nat}{b:Bool}(h:RdF w F d v):(D.avN b d).ok ⟨H,[],[],if b then F else []⟩ [] w v:=by
 unfold RdF at h;show Gok _ _ _ d.isAgg (d.acs b) v;unfold Gok;have hn:∀x∈F,b=true→(⟨H,[],[],if b then F else []⟩:Env).nw x:=fun x hx e=>by subst e;exact o_ hx
 cases hg:d.isAgg with
 | true=>
   rw[hg,if_pos rfl]at h;obtain⟨fp,cs,h1,h2,h3⟩:=h;rw[if_pos rfl];exact⟨cs,h1,qI h2 (fun x hx=>⟨by simp[Env.M],hn x (h3 x hx)⟩)⟩
 | false=>
   rw[hg,if_neg (by simp)]at h;obtain⟨fp,h2,h3⟩:=h;rw[if_neg (by simp)];exact qI h2 (fun x hx=>⟨by simp[Env.M],hn x (h3 x hx)⟩)
theorem CJ{w:World}{F:List Nat}:∀{ds:List D} {vs:List Value},zD w F ds vs→ds.length=vs.length∧∀(t:Nat) (d:D),ds[t]? =some d→∃v,vs[t]? =some v∧RdF w F d v
 | [],[],_=>⟨rfl,fun t d h=>by simp at h⟩
 | d::ds,v::vs,h=>by
   obtain⟨h1,h2⟩:=CJ h.2;refine⟨by simp[h1],fun t x hx=> ?_⟩;cases t with
   |zero=>simp at hx;subst hx;exact⟨v,rfl,h.1⟩
   |succ t=>simpa using h2 t x (by simpa using hx)
 | [],_::_,h=>h.elim
 |_::_,[],h=>h.elim
theorem Yd{w:World}{d:D}{v:Value}(h:Rd w d v):∃F,RdF w F d v:=by
 unfold Rd at h;unfold RdF;split at h
 ·obtain⟨fp,cs,h1,h2⟩:=h;exact⟨fp,by rw[if_pos ‹_›];exact⟨fp,cs,h1,h2,fun b hb=>hb⟩⟩
 ·obtain⟨fp,h2⟩:=h;exact⟨fp,by rw[if_neg ‹_›];exact⟨fp,h2,fun b hb=>hb⟩⟩
theorem Jt{w:World}:∀{ds:List D} {vs:List Value},Rds w ds vs→∃F,zD w F ds vs
 | [],[],_=>⟨[],trivial⟩
 | d::ds,v::vs,h=>by
   obtain⟨F1,h1⟩:=Yd h.1;obtain⟨F2,h2⟩:=Jt h.2;exact⟨F1++F2,h1.mono (fun b hb=>A_ _ hb),h2.mono (fun b hb=>y_ _ hb)⟩
 | [],_::_,h=>h.elim
 |_::_,[],h=>h.elim
theorem Qv{w:World}{F:List Nat}{ds:List D}{vs:List Value}(b:Bool)(h:zD w F ds vs)(ht:oZ w)(n:Nat):Rel w.heap.size (if b then F else []) ⟨⟨w.heap.size,[],[],if b then F else []⟩,[],w⟩ w (stN b n ds) ⟨w.heap.size,[],[],if b then F else []⟩ {tmps:=vs.toArray++Array.replicate (n - vs.toArray.size) undef,defers:= []} w where
 eb:=s_ _
 ex:=rfl
 sim:=Sim.refl _ _ _
 defers:=rfl
 size:=by
  obtain⟨hl,_⟩:=CJ h;simp[stN,hl]
 fr :=by
  obtain⟨hl,hg⟩:=CJ h;intro t x hx;simp only[stN]at hx;rw[V_]at hx;simp only[Array.getD_eq_getD_getElem?];split at hx
  ·next ht=>
   rw[u_]at hx;obtain⟨d,hd,rfl⟩:=h_.1 hx;obtain⟨v,hv,hr⟩:=hg t d hd;rw[Array.getElem?_append_left (by simp at ht⊢;omega)];simp only[T_,hv,k_];exact Y8 hr
  ·next ht=>
   rw[N_]at hx;split at hx
   ·next hlt=>
    injection hx with hx
    subst hx;simp only[B_]at ht hlt;rw[Array.getElem?_append_right (by simp;omega),Array.getElem?_replicate];simp only[a_h,← hl];rw[if_pos hlt];exact⟨rfl,trivial⟩
   ·cases hx
 olen:=rfl
 own:=fun k o p h1 h2=>by simp[stN]at h1
 blen:=rfl
 box:=fun k xs p h1 h2=>by simp[stN]at h1
 nodup:=by simp[Env.M]
 lin:=Lin.nil
 unf:=Unf.nil
 below:=BelowT.start ht
 base:=s_ _
def qX(Fin:St→Prop):Exit→St→Prop
 | .normal,st=>Fin st
 | .ret,st=>Fin st
 |_,_=>False
theorem Ew{P:Program}{f:Nat}{fn:Func}{code:Code}{ic:IC}{ds:List D}{Fin:St→Prop}{post:List Nat→World→Ending→World→Prop}(b:Bool)(hf:P.funcs[f]? =some fn)(hb:fn.body=some code)(hc:bg P code=some ic)
 (h:AWP P ic (qX Fin) (stN b fn.ntmps ds))
 (hfin:∀(F:List Nat) (G:Org) (w w':World) (st:St) (E:Env) (a:Act),Rel w.heap.size (if b then F else []) G w st E a w'→Fin st→∃v,(results fn a.tmps).run P w'= .ok v w'∧post F w (.returned v) w'):
 ∀(w:World) (F:List Nat) (vs:List Value),zD w F ds vs→oZ w→Calls P f vs.toArray w (post F w):=by
 intro w F vs hr ht;refine calls_of_wp hf hb ?_;have:=h code hc w.heap.size _ _ w ⟨s_ _,s_ _⟩ _ _ w (Qv b hr ht fn.ntmps);refine wp_mono this ?_;rintro e a' w' ⟨st',E',h1,h2⟩;cases e with
 | normal=>
   obtain⟨v,h3,h4⟩:=hfin F _ w w' st' E' a' h1 h2;exact⟨h1.defers,v,h3,h4⟩
 | ret=>
   obtain⟨v,h3,h4⟩:=hfin F _ w w' st' E' a' h1 h2;exact⟨h1.defers,v,h3,h4⟩
 |_=>exact h2.elim
theorem rV{P:Program}{f:Nat}{fn:Func}{code:Code}{ic:IC}{ds:List D}{Fin:St→Prop}{post:World→Ending→World→Prop}(hf:P.funcs[f]? =some fn)(hb:fn.body=some code)(hc:bg P code=some ic)
 (h:AWP P ic (qX Fin) (st0 fn.ntmps ds))
 (hfin:∀(G:Org) (w w':World) (st:St) (E:Env) (a:Act),Rel w.heap.size [] G w st E a w'→Fin st→∃v,(results fn a.tmps).run P w'= .ok v w'∧post w (.returned v) w'):
 ∀(w:World) (vs:List Value),Rds w ds vs→oZ w→Calls P f vs.toArray w (post w):=by
 intro w vs hr ht;obtain⟨F,hF⟩:=Jt hr;exact Ew (post:=fun _=>post) false hf hb hc h (fun F G w w' st E a hR=>hfin G w w' st E a hR) w F vs hF ht
def lV(l:List D):Prop:=∀(w:World) (f:List Nat) (cs:List Value),Rs w l f cs→f= []
def gX(os:List Own):AC→AC→Prop
 |_,.any=>True
 | .raw v,.raw u=>v=u
 | .sl n l,.sl _ l'=>n=true∧l=l'
 | .own k i,.sl _ l=>∃o,os[k]? =some o∧o.ver=i∧o.l=l∧(o.nw.n=true∨lV l)
 | .raw v,.sl _ l=>v= .slice none 0 0∧l= []
 |_,_=>False
def jm(os:List Own):List AC→List AC→Prop
 | [],[]=>True
 |x::xs,y::ys=>gX os x y∧jm os xs ys
 |_,_=>False
section
variable{B:Nat}{Xs:List Nat}{G:Org}{w0:World}{st:St}{E E':Env}{a:Act}{w:World}
def zF(B:Nat)(Xs:List Nat)(E':Env):Prop:=∀b,(B≤b∨b∈Xs)→b∉E'.M∧E'.nw b
theorem Bq(B:Nat):zF B [] (oU B):=fun b hb=>by
 have:B≤b:=by simpa using hb
 exact⟨rH.2 this,t_ this⟩
theorem WG(B:Nat)(F:List Nat):zF B F (lK B F):=fun b hb=>⟨xE.2 hb,hb⟩
theorem yS(h:Rel B Xs G w0 st E a w){b:Nat}(hb:E.nw b):B≤b∨b∈Xs:=by
 unfold Env.nw at hb;rw[h.ex]at hb;exact hb.imp_left (r_ h.eb)
theorem Rx(h:Rel B Xs G w0 st E a w)(hE:zF B Xs E'){x y:AC}{v:Value}(hf:gX st.owns x y)(hx:x.ok E st.owns w v):y.ok E' [] w v:=by
 cases y with
 |any=>trivial
 | raw u=>cases x with
   |raw v'=>obtain rfl:=hf;exact hx
   |_=>exact hf.elim
 | sl n l=>cases x with
   | sl n' l'=>
     obtain⟨rfl,rfl⟩:=hf;obtain⟨fp,h1,h2⟩:=hx;refine⟨fp,h1,fun b hb=> ?_⟩;have hB:=hE b (yS h ((h2 b hb).2 rfl));exact⟨hB.1,fun _=>hB.2⟩
   | own k i=>
     obtain⟨o,h1,h2,rfl,h3⟩:=hf;obtain⟨_,o',p,g1,g2,g3,g4⟩:=hx;rw[h1]at g1;injection g1 with g1
     subst g1;obtain rfl:=g4 h2;obtain⟨cs,h5,h6,h7,h8⟩:=h.own k o p h1 g2;refine⟨_,Sl.mO h5 h6,fun b hb=> ?_⟩;have hB:E.nw b:=by
      rcases p_.1 hb with hb|hb
      ·exact h.uy (eX.lt h5 b (by simpa using hb)).1
      ·rcases h3 with h3|h3
       ·exact(h8 b hb).2 h3
       ·rw[h3 _ _ _ h6]at hb;simp at hb
     have hB:=hE b (yS h hB);exact⟨hB.1,fun _=>hB.2⟩
   | raw v'=>
     obtain⟨rfl,rfl⟩:=hf;obtain rfl:=hx;refine⟨[], ?_,fun b hb=>by simp at hb⟩;unfold Sl;rw[R];exact⟨none,0,rfl,s_ _,w_ _,t_ ⟨rfl,rfl⟩⟩
   |any=>exact hf.elim
   |osub _ _ _ _=>exact hf.elim
   |cl _ _=>exact hf.elim
 |own k i=>cases x<;>exact hf.elim
 |osub k i pa pb=>cases x<;>exact hf.elim
 |cl f caps=>cases x<;>exact hf.elim
theorem tu(h:Rel B Xs G w0 st E a w)(hE:zF B Xs E'):∀{xs ys:List AC} {vs:List Value},jm st.owns xs ys→Oks E st.owns w xs vs→Oks E' [] w ys vs
 | [],[],[],_,_=>trivial
 |x::xs,y::ys,v::vs,hf,hx=>⟨Rx h hE hf.1 hx.1,tu h hE hf.2 hx.2⟩
 | [],[],_::_,_,hx=>hx.elim
 |_::_,_::_,[],_,hx=>hx.elim
 | [],_::_,_,hf,_=>hf.elim
 |_::_,[],_,hf,_=>hf.elim
theorem La(h:Rel B Xs G w0 st E a w)(hE:zF B Xs E'){g:Bool}{xs ys:List AC}{v:Value}(hf:jm st.owns xs ys)(hx:Gok E st.owns w g xs v):Gok E' [] w g ys v:=by
 cases g with
 |true=>obtain⟨vs,h1,h2⟩:=hx;exact⟨vs,h1,tu h hE hf h2⟩
 |false=>exact tu h hE hf (show Oks _ _ _ xs [v] from hx)
end
theorem Aq{os:List Own}:∀{xs ys:List AC},jm os xs ys→xs.length=ys.length
 | [],[],_=>rfl
 |_::xs,_::ys,h=>by rw[q_,q_,Aq h.2]
 | [],_::_,h=>h.elim
 |_::_,[],h=>h.elim
def Zb(t:Nat)(g:Bool)(ys:List AC)(st:St):Prop:=∃xs,st.fr.getD t .any= .c g xs∧jm st.owns xs ys
def Zc(t:Nat)(ys:List AC)(st:St):Prop:=∃k xs,st.fr.getD t .any= .bptr k 0∧st.boxes[k]? =some xs∧jm st.owns xs ys
def XI(r:ResultVar)(g:Bool)(ys:List AC)(st:St):Prop:=match r with
 | .tmp t=>Zb t g ys st
 | .cell t _=>Zc t ys st
def tY(P:Program)(ty:TypeId)(n:Nat):Bool:=match P.info? ty,P.underlying ty with
 |some i,some d=>i.size==n && nG d
 |_,_=>false
def iZ(P:Program)(r:ResultVar)(g:Bool)(n:Nat):Bool:=match r with
 | .tmp _=>true
 | .cell _ ty=>g && tY P ty n
def jI(r:ResultVar)(tmps:Array Value):Sem Value:=match r with
 | .tmp t=>pure (tmps.getD t undef)
 | .cell a t=>do loadVar t (← asAddr (tmps.getD a undef))
section
variable{P:Program}{f:Nat}{fn:Func}{code:Code}{ic:IC}{ds:List D}
theorem sG{B:Nat}{Xs:List Nat}{G:Org}{w0:World}{st:St}{E:Env}{a:Act}{w:World}(h:Rel B Xs G w0 st E a w){t:Nat}{x:AV}(hx:st.fr.getD t .any=x):x.ok E st.owns w (a.tmps.getD t undef):=by
 have:=gV h (.tmp t);simp only[opd,St.ev,Act.eval]at this;rwa[hx]at this
theorem BF{B:Nat}{Xs:List Nat}{G:Org}{w0:World}{st:St}{E E':Env}{a:Act}{w:World}(h:Rel B Xs G w0 st E a w)(hE:zF B Xs E'){r:ResultVar}{g:Bool}{ys:List AC}(hp:iZ P r g ys.length=true)(hf:XI r g ys st):
 ∃v,(jI r a.tmps).run P w= .ok v w∧Gok E' [] w g ys v:=by
 cases r with
 | tmp t=>
   obtain⟨xs,h1,h2⟩:=hf;exact⟨_,rfl,La h hE h2 (sG h h1)⟩
 | cell t ty=>
   obtain⟨k,xs,h1,h2,h3⟩:=hf;simp only[iZ,e_,tY]at hp;obtain⟨rfl,hp⟩:=hp;split at hp
   ·next i d hi hd=>
    simp only[e_,beq_iff_eq]at hp;obtain⟨p,g1,g2⟩:=sG h h1;obtain⟨_,vs,h4,h5⟩:=h.box k xs p h2 g1;have hlen:vs.length=i.size:=by rw[← h5.len,Aq h3,hp.1]
    refine⟨.agg vs.toArray, ?_,vs,rfl,tu h hE h3 h5⟩;simp only[jI];rw[g2];have:=run_loadVar_row (P:=P) w p.1 p.2 ty vs.toArray (0,0) d h4 hd (by have:=hp.2;cases d<;>simp_all [nG]) (by rw[hi];simp[hlen]);simp[asAddr,this]
   ·cases hp
theorem oG{r:ResultVar}(hr:fn.results= #[r])(tmps:Array Value){w:World}{v:Value}(h:(jI r tmps).run P w= .ok v w):(results fn tmps).run P w= .ok v w:=by
 cases r with
 |tmp t=>simp[jI]at h;simp[results,hr,h]
 |cell t ty=>simp[jI]at h;simp[results,hr,h]
theorem zN{r q:ResultVar}(hr:fn.results= #[r,q])(tmps:Array Value){w:World}{v u:Value}(h:(jI r tmps).run P w= .ok v w)(h2:(jI q tmps).run P w= .ok u w):(results fn tmps).run P w= .ok (.tuple #[v,u]) w:=by
 have e:(results fn tmps).run P w=(jI r tmps >>=fun v=>jI q tmps >>=fun u=>pure (.tuple #[v,u]):Sem Value).run P w:=by
  have a1:∀(x:Result Addr) (f:Addr→World→Result Value) (g:Value→World→Result Value),(x.andThen f).andThen g=x.andThen fun a w=>(f a w).andThen g:=by
   intro x f g;cases x<;>rfl
  cases r<;>cases q<;>simp[results,hr,jI,a1]
 rw[e];simp[h,h2]
theorem gW{t:Nat}{g:Bool}{ys:List AC}(hf:P.funcs[f]? =some fn:=by kernel_rfl)(hb:fn.body=some code:=by kernel_rfl)(hr:fn.results= #[.tmp t]:=by kernel_rfl)(hc:bg P code=some ic)
 (h:AWP P ic (qX (Zb t g ys)) (st0 fn.ntmps ds)):dK P f ds (.c g ys):=by
 refine rV (post:=fun w e w'=>yH (.c g ys) w e w') hf hb hc h ?_;rintro G w w' st E a hR ⟨xs,h1,h2⟩;refine⟨_,results_tmp hr a.tmps P w',_,rfl,La hR (Bq _) h2 (sG hR h1),hR.below.out⟩
theorem Eu{t:Nat}{ty:TypeId}{ys:List AC}(hf:P.funcs[f]? =some fn:=by kernel_rfl)(hb:fn.body=some code:=by kernel_rfl)(hr:fn.results= #[.cell t ty]:=by kernel_rfl)(hp:tY P ty ys.length=true:=by kernel_rfl)(hc:bg P code=some ic)
 (h:AWP P ic (qX (Zc t ys)) (st0 fn.ntmps ds)):dK P f ds (.c true ys):=by
 refine rV (post:=fun w e w'=>yH (.c true ys) w e w') hf hb hc h ?_;rintro G w w' st E a hR hF;obtain⟨v,h1,h2⟩:=BF (P:=P) (r:= .cell t ty) (g:=true) hR (Bq _) (by simp[iZ,hp]) hF;exact⟨v,oG hr _ h1,v,rfl,h2,hR.below.out⟩
theorem nY{r q:ResultVar}{g g':Bool}{ys zs:List AC}(hf:P.funcs[f]? =some fn:=by kernel_rfl)(hb:fn.body=some code:=by kernel_rfl)(hr:fn.results= #[r,q]:=by kernel_rfl)(hp:(iZ P r g ys.length && iZ P q g' zs.length)=true:=by kernel_rfl)(hc:bg P code=some ic)
 (h:AWP P ic (qX (fun st=>XI r g ys st∧XI q g' zs st)) (st0 fn.ntmps ds)):dK P f ds (.tup [(g,ys),(g',zs)]):=by
 refine rV (post:=fun w e w'=>yH (.tup [(g,ys),(g',zs)]) w e w') hf hb hc h ?_;rintro G w w' st E a hR ⟨h1,h2⟩;simp only[Bool.and_eq_true]at hp;obtain⟨v,h3,h4⟩:=BF hR (Bq _) hp.1 h1;obtain⟨u,h5,h6⟩:=BF hR (Bq _) hp.2 h2;exact⟨_,zN hr _ h3 h5,_,rfl,⟨[v,u],rfl,h4,h6,trivial⟩,hR.below.out⟩
theorem Ey{r:ResultVar}{g:Bool}{ys:List AC}(hf:P.funcs[f]? =some fn:=by kernel_rfl)(hb:fn.body=some code:=by kernel_rfl)(hr:fn.results= #[r]:=by kernel_rfl)(hp:iZ P r g ys.length=true:=by kernel_rfl)(hc:bg P code=some ic)
 (h:AWP P ic (qX (XI r g ys)) (stN true fn.ntmps ds)):kJ P f ds (.c g ys):=by
 intro w F vs hF hr';refine Ew (post:=fun F w e w'=>GZ (.c g ys) F w e w') true hf hb hc h ?_ w F vs hr';rintro F G w w' st E a hR h1;obtain⟨v,h3,h4⟩:=BF hR (WG _ F) hp h1;exact⟨_,oG hr _ h3,_,rfl,h4,hR.below.out⟩
def Qe(os:List Own)(pk:List Nat):AC→AC→Prop
 |_,.any=>True
 | .raw v,.raw u=>v=u
 | .sl n l,.sl m l'=>n=true∧m=true∧l=l'
 | .own k i,.sl m l=>m=true∧k∉pk∧∃o,os[k]? =some o∧o.ver=i∧o.l=l∧(o.nw.n=true∨lV l)
 | .own k i,.own j z=>pk[j]? =some k∧z=0∧∃o,os[k]? =some o∧o.ver=i
 |_,_=>False
def uZ(os:List Own)(pk:List Nat):List AC→List AC→Prop
 | [],[]=>True
 |x::xs,y::ys=>Qe os pk x y∧uZ os pk xs ys
 |_,_=>False
def Ar(o o':Own):Prop:=match o'.nw.lin with
 |false=>o.nw.n=true∨lV o.l
 |true=>(o.nw.n=true∧o.nw.lin=true)∨lV o.l
def o9(os:List Own):List Nat→List Own→Prop
 | [],[]=>True
 |k::pk,o'::os'=>(∃o,os[k]? =some o∧o'=⟨o.l,o.e,o.s,0,⟨true,o'.nw.lin⟩⟩∧Ar o o')∧o9 os pk os'
 |_,_=>False
def VU(pk:List Nat)(r:ResultVar)(g:Bool)(ys:List AC)(st:St):Prop:=match r with
 | .tmp t=>∃xs,st.fr.getD t .any= .c g xs∧uZ st.owns pk xs ys
 | .cell t _=>∃k xs,st.fr.getD t .any= .bptr k 0∧st.boxes[k]? =some xs∧uZ st.owns pk xs ys
theorem yB{os:List Own}{pk:List Nat}:∀{xs ys:List AC},uZ os pk xs ys→xs.length=ys.length
 | [],[],_=>rfl
 |_::xs,_::ys,h=>by rw[q_,q_,yB h.2]
 | [],_::_,h=>h.elim
 |_::_,[],h=>h.elim
theorem Ar.weak{o o':Own}(h:Ar o o'):o.nw.n=true∨lV o.l:=by
 unfold Ar at h;split at h
 ·exact h
 ·exact h.imp And.left id
theorem Ar.lin{o o':Own}(h:Ar o o')(e:o'.nw.lin=true):o.nw.lin=true∨lV o.l:=by
 unfold Ar at h;rw[e]at h;exact h.imp And.right id
theorem oJ{os:List Own}:∀{pk:List Nat} {os':List Own},o9 os pk os'→pk.length=os'.length∧∀(j k:Nat) (o':Own),pk[j]? =some k→os'[j]? =some o'→∃o,os[k]? =some o∧o'=⟨o.l,o.e,o.s,0,⟨true,o'.nw.lin⟩⟩∧Ar o o'
 | [],[],_=>⟨rfl,fun j k o' h=>by simp at h⟩
 | k::pk,o'::os',h=>by
   obtain⟨h1,h2⟩:=oJ h.2;refine⟨by simp[h1],fun j k' o'' g1 g2=> ?_⟩;cases j with
   |zero=>simp at g1 g2;subst g1 g2;exact h.1
   |succ j=>exact h2 j k' o'' (by simpa using g1) (by simpa using g2)
 | [],_::_,h=>h.elim
 |_::_,[],h=>h.elim
section
variable{B:Nat}{G:Org}{w0:World}{st:St}{E:Env}{a:Act}{w:World}{pk:List Nat}{os':List Own}
def nC(E:Env)(pk:List Nat):List (Value×List Nat):=pk.map fun k=>E.om.getD k (undef,[])
theorem uj{j k:Nat}(h:pk[j]? =some k):(nC E pk)[j]? =some (E.om.getD k (undef,[])):=by simp[nC,h]
theorem CO(h:Rel B [] G w0 st E a w)(ho:o9 st.owns pk os'){b:Nat}(hb:b∈(nC E pk).flatMap fun q=>q.1.ownBlock.toList):∃k∈pk,∃p,E.om[k]? =some p∧p.1.ownBlock=some b:=by
 obtain⟨q,hq,hqb⟩:=j_.1 hb;obtain⟨k,hk,rfl⟩:=g_.1 hq;obtain⟨j,hj⟩:=z_.1 hk;obtain⟨h1,h2⟩:=oJ ho;have hj':j<os'.length:=by rw[← h1];exact(b_.1 hj).1
 obtain⟨o,g1,_⟩:=h2 j k _ hj (a_ hj');have hke:k<E.om.length:=by rw[h.olen];exact(b_.1 g1).1
 exact⟨k,hk,E.om[k],a_ hke,by rw[c_,a_ hke]at hqb;simpa using hqb⟩
theorem EF(h:Rel B [] G w0 st E a w){i j:Nat}{p q:Value×List Nat}{b:Nat}(hi:E.om[i]? =some p)(hj:E.om[j]? =some q)(hp:p.1.ownBlock=some b)(hq:q.1.ownBlock=some b):i=j:=by
 have hn:=h.nodup;unfold Env.M at hn;rw[l_]at hn;have : ∀(L:List (Value×List Nat)) (i j:Nat) (p q:Value×List Nat),(L.flatMap (fun p=>p.1.ownBlock.toList)).Nodup→L[i]? =some p→L[j]? =some q→p.1.ownBlock=some b→q.1.ownBlock=some b→i=j:=by
  intro L
  induction L with
  |nil=>intro i j p q _ hi;simp at hi
  | cons z L ih=>
    intro i j p q hn hi hj hpb hqb;rw[F_,l_]at hn;cases i with
    | zero=>
      cases j with
      |zero=>rfl
      | succ j=>
        simp at hi hj;subst hi;exact absurd rfl (hn.2.2 b (by simp[hpb]) b (j_.2 ⟨q,f_ hj,by simp[hqb]⟩))
    | succ i=>
      cases j with
      | zero=>
        simp at hi hj;subst hj;exact absurd rfl (hn.2.2 b (by simp[hqb]) b (j_.2 ⟨p,f_ hi,by simp[hpb]⟩))
      | succ j=>
        simp at hi hj;rw[ih i j p q hn.2.1 hi hj hpb hqb]
 exact this E.om i j p q hn.2.1 hi hj hp hq
theorem FY(h:Rel B [] G w0 st E a w)(ho:o9 st.owns pk os')(hnd:pk.Nodup):tC B w (nC E pk) os':=by
 obtain⟨h1,h2⟩:=oJ ho;refine⟨by simp[nC,h1],fun j o' p g1 g2=> ?_, ?_⟩
 ·have hj:j<pk.length:=by rw[h1];exact(b_.1 g1).1
  have hk:=a_ hj;obtain⟨o,g3,g4e,g4o⟩:=h2 j _ o' hk g1;have g4:=g4o.weak;rw[g4e];have hke:pk[j]<E.om.length:=by rw[h.olen];exact(b_.1 g3).1
  rw[uj hk,c_,a_ hke]at g2;simp only[k_,E_]at g2;subst g2;obtain⟨cs,h5,h6,h7,h8⟩:=h.own _ o _ g3 (a_ hke);refine⟨cs,uo h5 h.eb,h6,h7,fun b hb=>⟨?_,fun hm=> ?_⟩⟩
  ·rcases g4 with g4|g4
   ·simpa using yS h ((h8 b hb).2 g4)
   ·rw[g4 _ _ _ h6]at hb;simp at hb
  ·obtain⟨k,_,p,g5,g6⟩:=CO h ho hm;exact(h8 b hb).1 (jy.2 (o_ ⟨k,p,g5,g6⟩))
 ·have hpk:∀(j:Nat) (o':Own) (p:Value×List Nat),os'[j]? =some o'→(nC E pk)[j]? =some p→o'.nw.lin=true→p.2= []∨∃o,st.owns[pk.getD j 0]? =some o∧E.om[pk.getD j 0]? =some p∧o.nw.lin=true:=by
   intro j o' p g1 g2 g3;have hj:j<pk.length:=by rw[h1];exact(b_.1 g1).1
   have hk:=a_ hj;obtain⟨o,q1,q2,q3⟩:=h2 j _ o' hk g1;have hke:pk[j]<E.om.length:=by rw[h.olen];exact(b_.1 q1).1
   rw[uj hk,c_,a_ hke]at g2;simp only[k_,E_]at g2;subst g2;rcases q3.lin g3 with e|e
   ·refine o_ ⟨o, ?_, ?_,e⟩
    ·rw[c_,hk];exact q1
    ·rw[c_,hk];exact a_ hke
   ·obtain⟨cs,_,h6,_⟩:=h.own _ o _ q1 (a_ hke);exact t_ (e _ _ _ h6)
  refine⟨?_, ?_, ?_⟩
  rotate_left
  ·refine h.lin.map (fun j=>pk.getD j 0) (fun i j hij hi hj e=>hij ?_) hpk;have hi':i<pk.length:=by omega
   have hj':j<pk.length:=by omega
   simp only[c_,a_ hi',a_ hj',k_]at e;exact(a_k hnd).1 e
  ·exact h.unf.map (fun j=>pk.getD j 0) hpk
  have :∀(pk:List Nat) (os':List Own),o9 st.owns pk os'→pk.Nodup→((nC E pk).flatMap fun q=>q.1.ownBlock.toList).Nodup:=by
   intro pk
   induction pk with
   |nil=>intro os' _ _;exact H_
   | cons k pk ih=>
     intro os' ho hnd
     match os',ho with
     | o'::os',ho=>
       rw[a_n]at hnd;obtain⟨o,g1,_⟩:=ho.1;have hke:k<E.om.length:=by rw[h.olen];exact(b_.1 g1).1
       show(a_z _ (E.om.getD k (undef,[])::nC E pk)).Nodup;rw[F_,l_];refine⟨by cases(E.om.getD k (undef,[])).1.ownBlock<;>simp,ih os' ho.2 hnd.2,fun x hx y hy e=> ?_⟩;subst e;obtain⟨k',hk',p,g5,g6⟩:=CO h ho.2 hy;rw[c_,a_ hke]at hx;exact hnd.1 (EF h (a_ hke) g5 (by simpa using hx) g6▸hk')
  exact this pk os' ho hnd
theorem NW(h:Rel B [] G w0 st E a w)(ho:o9 st.owns pk os'){x y:AC}{v:Value}(hf:Qe st.owns pk x y)(hx:x.ok E st.owns w v):y.ok ⟨B,nC E pk,[],[]⟩ os' w v:=by
 have hnew:∀b,(B≤b)→(∀k∈pk,∀p,E.om[k]? =some p→p.1.ownBlock≠some b)→b∉(⟨B,nC E pk,[],[]⟩:Env).M∧(true=true→(⟨B,nC E pk,[],[]⟩:Env).nw b):=fun b hB hk=>⟨fun hm=>by
  simp only[Env.M,a_b,Q_]at hm;obtain⟨k,hk1,p,g1,g2⟩:=CO h ho hm;exact hk k hk1 p g1 g2,fun _=>t_ hB⟩
 cases y with
 |any=>trivial
 | raw u=>cases x with
   |raw v'=>obtain rfl:=hf;exact hx
   |_=>exact hf.elim
 | sl n l=>cases x with
   | sl n' l'=>
     obtain⟨rfl,rfl,rfl⟩:=hf;obtain⟨fp,h1,h2⟩:=hx;exact⟨fp,h1,fun b hb=>hnew b (by simpa using yS h ((h2 b hb).2 rfl)) (fun k _ p g1 g2=>(h2 b hb).1 (jy.2 (o_ ⟨k,p,g1,g2⟩)))⟩
   | own k i=>
     obtain⟨rfl,hk,o,h1,h2,rfl,h3⟩:=hf;obtain⟨_,o',p,g1,g2,g3,g4⟩:=hx;rw[h1]at g1;injection g1 with g1
     subst g1;obtain rfl:=g4 h2;obtain⟨cs,h5,h6,h7,h8⟩:=h.own k o p h1 g2;refine⟨_,Sl.mO h5 h6,fun b hb=> ?_⟩;rcases p_.1 hb with hb|hb
     ·have hb':p.1.ownBlock=some b:=by simpa using hb
      exact hnew b (r_ h.eb (eX.lt h5 b hb').1) (fun k' hk' p' g5 g6=>hk (EF h g2 g5 hb' g6▸hk'))
     ·refine hnew b ?_ (fun k' _ p' g5 g6=>(h8 b hb).1 (jy.2 (o_ ⟨k',p',g5,g6⟩)));rcases h3 with h3|h3
      ·simpa using yS h ((h8 b hb).2 h3)
      ·rw[h3 _ _ _ h6]at hb;simp at hb
   |raw v'=>exact hf.elim
   |any=>exact hf.elim
   |osub _ _ _ _=>exact hf.elim
   |cl _ _=>exact hf.elim
 |osub _ _ _ _=>cases x<;>exact hf.elim
 | own j z=>cases x with
   | own k i=>
     obtain⟨hj,rfl,o,h1,h2⟩:=hf;obtain⟨hv,o',p,g1,g2,g3,g4⟩:=hx;rw[h1]at g1;injection g1 with g1
     subst g1;obtain⟨l1,l2⟩:=oJ ho;have hj':j<os'.length:=by rw[← l1];exact(b_.1 hj).1
     obtain⟨o2,q1,q2,_⟩:=l2 j k _ hj (a_ hj');refine⟨hv,os'[j],p,a_ hj', ?_,w_ _,fun _=>g4 h2⟩;rw[uj hj,c_,g2];rfl
   |_=>exact hf.elim
 |cl f caps=>cases x<;>exact hf.elim
theorem qP(h:Rel B [] G w0 st E a w)(ho:o9 st.owns pk os'):∀{xs ys:List AC} {vs:List Value},uZ st.owns pk xs ys→Oks E st.owns w xs vs→Oks ⟨B,nC E pk,[],[]⟩ os' w ys vs
 | [],[],[],_,_=>trivial
 |x::xs,y::ys,v::vs,hf,hx=>⟨NW h ho hf.1 hx.1,qP h ho hf.2 hx.2⟩
 | [],[],_::_,_,hx=>hx.elim
 |_::_,_::_,[],_,hx=>hx.elim
 | [],_::_,_,hf,_=>hf.elim
 |_::_,[],_,hf,_=>hf.elim
theorem Lp{P:Program}(h:Rel B [] G w0 st E a w)(ho:o9 st.owns pk os'){r:ResultVar}{g:Bool}{ys:List AC}(hp:iZ P r g ys.length=true)(hf:VU pk r g ys st):
 ∃v,(jI r a.tmps).run P w= .ok v w∧Gok ⟨B,nC E pk,[],[]⟩ os' w g ys v:=by
 cases r with
 | tmp t=>
   obtain⟨xs,h1,h2⟩:=hf;refine⟨_,rfl, ?_⟩;have hx:=sG h h1;cases g with
   |true=>obtain⟨vs,h3,h4⟩:=hx;exact⟨vs,h3,qP h ho h2 h4⟩
   |false=>exact qP h ho h2 (show Oks _ _ _ xs [_] from hx)
 | cell t ty=>
   obtain⟨k,xs,h1,h2,h3⟩:=hf;simp only[iZ,e_,tY]at hp;obtain⟨rfl,hp⟩:=hp;split at hp
   ·next i d hi hd=>
    simp only[e_,beq_iff_eq]at hp;obtain⟨p,g1,g2⟩:=sG h h1;obtain⟨_,vs,h4,h5⟩:=h.box k xs p h2 g1;have hlen:vs.length=i.size:=by rw[← h5.len,yB h3,hp.1]
    refine⟨.agg vs.toArray, ?_,vs,rfl,qP h ho h3 h5⟩;simp only[jI];rw[g2];have:=run_loadVar_row (P:=P) w p.1 p.2 ty vs.toArray (0,0) d h4 hd (by have:=hp.2;cases d<;>simp_all [nG]) (by rw[hi];simp[hlen]);simp[asAddr,this]
   ·cases hp
end
theorem LU{r q:ResultVar}{g g':Bool}{ys zs:List AC}{os':List Own}(hf:P.funcs[f]? =some fn:=by kernel_rfl)(hb:fn.body=some code:=by kernel_rfl)(hr:fn.results= #[r,q]:=by kernel_rfl)(hp:(iZ P r g ys.length && iZ P q g' zs.length)=true:=by kernel_rfl)(hc:bg P code=some ic)
 (h:AWP P ic (qX (fun st=>∃pk:List Nat,pk.Nodup∧o9 st.owns pk os'∧VU pk r g ys st∧VU pk q g' zs st)) (st0 fn.ntmps ds)):tH P f ds (.tup [(g,ys),(g',zs)]) os':=by
 refine rV (post:=fun w e w'=>BP (.tup [(g,ys),(g',zs)]) os' w e w') hf hb hc h ?_;rintro G w w' st E a hR ⟨pk,hnd,ho,h1,h2⟩;simp only[Bool.and_eq_true]at hp;obtain⟨v,h3,h4⟩:=Lp hR ho hp.1 h1;obtain⟨u,h5,h6⟩:=Lp hR ho hp.2 h2;exact⟨_,zN hr _ h3 h5,_,nC E pk,rfl,FY hR ho hnd,⟨[v,u],rfl,h4,h6,trivial⟩,hR.below.out⟩
end
section
variable{lo:Nat×Nat}{P:Program}{y:IC}{Q:Exit→St→Prop}{st:St}{i j:Nat}{c:Opd}
theorem eU(h:iK lo P y Q st):I8 lo P y Q .normal st:=h
theorem bW(h:Q (.exit i) st):I8 lo P y Q (.exit i) st:=h
theorem dF(h:Q .ret st):I8 lo P y Q .ret st:=h
theorem aZ(h:Q .normal st):zH i Q .normal st:=h
theorem cu(h:Q .ret st):zH i Q .ret st:=h
theorem bG(h:Q .normal st):zH i Q (.exit i) st:=by
 show ite _ _ _;rw[if_pos rfl];exact h
theorem bF(hij:(j==i)=false)(h:Q (.exit j) st):zH i Q (.exit j) st:=by
 show ite _ _ _;rw[if_neg (by simpa using hij)];exact h
theorem bD{X:Type}{F:X→St}{inv:X→Prop}{μ:X→Nat}{x:X}(h:Q (.exit i) st):wY F inv μ x Q (.exit i) st:=h
theorem bZ{X:Type}{F:X→St}{inv:X→Prop}{μ:X→Nat}{x:X}(h:Q .ret st):wY F inv μ x Q .ret st:=h
theorem dS{Fin:St→Prop}(h:Fin st):qX Fin .ret st:=h
theorem bH{x:IC}(hb:st.ev c= .c false [.raw (.bool true)])(h:iK lo P x Q st):iK lo P (.cond c x y) Q st:=EG hb (fun _=>h) (fun e=>by cases e)
theorem bJ{x:IC}(hb:st.ev c= .c false [.raw (.bool false)])(h:iK lo P y Q st):iK lo P (.cond c x y) Q st:=EG hb (fun e=>by cases e) (fun _=>h)
end
theorem TG{x0:Opd}:I.plain (.mov x0)=true:=by simp only[I.plain]
theorem OG{x0:Opd}{x1:Opd}{x2:Opd}:I.plain (.pick x0 x1 x2)=true:=by simp only[I.plain]
theorem TS{x0:BinOp}{x1:Opd}{x2:Opd}:I.plain (.bin x0 x1 x2)=true:=by simp only[I.plain]
theorem TT{x0:Bool}{x1:Opd}{x2:Opd}:I.plain (.beq x0 x1 x2)=true:=by simp only[I.plain]
theorem TD{x0:Opd}:I.plain (.not x0)=true:=by simp only[I.plain]
theorem OH{x0:Nat}{x1:Bool}{x2:Opd}:I.plain (.load x0 x1 x2)=true:=by simp only[I.plain]
theorem TL{x0:Nat}{x1:Opd}:I.plain (.fad x0 x1)=true:=by simp only[I.plain]
theorem TF{x0:Opd}:I.plain (.nck x0)=true:=by simp only[I.plain]
theorem JA{x0:List Value}:I.plain (.alloc x0)=true:=by simp only[I.plain]
theorem TQ{x0:Opd}:I.plain (.box x0)=true:=by simp only[I.plain]
theorem Jz{x0:Nat}{x1:Opd}{x2:Opd}:I.plain (.store x0 x1 x2)=true:=by simp only[I.plain]
theorem OJ{x0:Bool}{x1:Nat}{x2:Nat}{x3:Nat}{x4:Bool}{x5:List Opd}:I.plain (.brow x0 x1 x2 x3 x4 x5)=true:=by simp only[I.plain]
theorem TR{x0:List Value}{x1:List (Nat×Nat×Opd)}:I.plain (.bld x0 x1)=true:=by simp only[I.plain]
theorem TK{x0:Nat}{x1:Nat}{x2:Bool}{x3:Opd}:I.plain (.fld x0 x1 x2 x3)=true:=by simp only[I.plain]
theorem OE{x0:Opd}{x1:Opd}:I.plain (.sidx x0 x1)=true:=by simp only[I.plain]
theorem TB{x0:Opd}{x1:Option Opd}{x2:Option Opd}:I.plain (.ssl x0 x1 x2)=true:=by simp only[I.plain]
theorem TM{x0:Nat}{x1:Opd}:I.plain (.ext x0 x1)=true:=by simp only[I.plain]
theorem TJ{x0:Bool}{x1:Opd}:I.plain (.len x0 x1)=true:=by simp only[I.plain]
theorem SS{x0:Opd}:I.plainW (.mov x0)=true:=by simp only[I.plainW]
theorem Ov{x0:Opd}{x1:Opd}{x2:Opd}:I.plainW (.pick x0 x1 x2)=true:=by simp only[I.plainW]
theorem Tn{x0:BinOp}{x1:Opd}{x2:Opd}:I.plainW (.bin x0 x1 x2)=true:=by simp only[I.plainW]
theorem Tq{x0:Bool}{x1:Opd}{x2:Opd}:I.plainW (.beq x0 x1 x2)=true:=by simp only[I.plainW]
theorem SN{x0:Opd}:I.plainW (.not x0)=true:=by simp only[I.plainW]
theorem Ox{x0:Nat}{x1:Bool}{x2:Opd}:I.plainW (.load x0 x1 x2)=true:=by simp only[I.plainW]
theorem S9{x0:Nat}{x1:Opd}:I.plainW (.fad x0 x1)=true:=by simp only[I.plainW]
theorem SQ{x0:Opd}:I.plainW (.nck x0)=true:=by simp only[I.plainW]
theorem Ju{x0:List Value}:I.plainW (.alloc x0)=true:=by simp only[I.plainW]
theorem Ti{x0:Opd}:I.plainW (.box x0)=true:=by simp only[I.plainW]
theorem Tj{x0:List Value}{x1:List (Nat×Nat×Opd)}:I.plainW (.bld x0 x1)=true:=by simp only[I.plainW]
theorem SY{x0:Nat}{x1:Nat}{x2:Bool}{x3:Opd}:I.plainW (.fld x0 x1 x2 x3)=true:=by simp only[I.plainW]
theorem Ou{x0:Opd}{x1:Opd}:I.plainW (.sidx x0 x1)=true:=by simp only[I.plainW]
theorem SL{x0:Opd}{x1:Option Opd}{x2:Option Opd}:I.plainW (.ssl x0 x1 x2)=true:=by simp only[I.plainW]
theorem Tc{x0:Nat}{x1:Opd}:I.plainW (.ext x0 x1)=true:=by simp only[I.plainW]
theorem SX{x0:Bool}{x1:Opd}:I.plainW (.len x0 x1)=true:=by simp only[I.plainW]
theorem TI{f:Nat}{xs:List Opd}:I.plain (.mkf f xs)=true:=by simp only[I.plain]
theorem OI{b:Bool}{x:Opd}:I.plain (.fnil b x)=true:=by simp only[I.plain]
theorem OD{b:Bool}{x:Opd}:I.plain (.snil b x)=true:=by simp only[I.plain]
theorem OL{b:Bool}{k:List Value}{x y:Opd}:I.plain (.beqS b k x y)=true:=by simp only[I.plain]
theorem Oz{b:Bool}{k:List Value}{x y:Opd}:I.plainW (.beqS b k x y)=true:=by simp only[I.plainW]
theorem PU{b:Bool}{k:List Value}{x y:Opd}:eff (.beqS b k x y)=false:=by simp[eff,I.cls]
theorem TP{k:IntKind}{x:Opd}:I.plain (.cvi k x)=true:=by simp only[I.plain]
theorem TN{x:Opd}:I.plain (.cvs x)=true:=by simp only[I.plain]
theorem OM{e:Nat}{x y:Opd}:I.plain (.apps e x y)=true:=by simp only[I.plain]
theorem Tf{k:IntKind}{x:Opd}:I.plainW (.cvi k x)=true:=by simp only[I.plainW]
theorem Td{x:Opd}:I.plainW (.cvs x)=true:=by simp only[I.plainW]
theorem OA{e:Nat}{x y:Opd}:I.plainW (.apps e x y)=true:=by simp only[I.plainW]
theorem Va{k:IntKind}{x:Opd}:eff (.cvi k x)=false:=by simp[eff,I.cls]
theorem U9{x:Opd}:eff (.cvs x)=false:=by simp[eff,I.cls]
theorem PV{e:Nat}{x y:Opd}:eff (.apps e x y)=true:=by simp[eff,I.cls]
theorem XT{e:Nat}{z:Value}{x:Opd}:I.plain (.mk e z x)=true:=by simp only[I.plain]
theorem SV{f:Nat}{xs:List Opd}:I.plainW (.mkf f xs)=true:=by simp only[I.plainW]
theorem Oy{b:Bool}{x:Opd}:I.plainW (.fnil b x)=true:=by simp only[I.plainW]
theorem Ot{b:Bool}{x:Opd}:I.plainW (.snil b x)=true:=by simp only[I.plainW]
theorem XR{e:Nat}{z:Value}{x:Opd}:I.plainW (.mk e z x)=true:=by simp only[I.plainW]
theorem U4{f:Nat}{xs:List Opd}:eff (.mkf f xs)=false:=by simp[eff,I.cls]
theorem PN{b:Bool}{x:Opd}:eff (.fnil b x)=false:=by simp[eff,I.cls]
theorem PG{b:Bool}{x:Opd}:eff (.snil b x)=false:=by simp[eff,I.cls]
theorem XZ{e:Nat}{z:Value}{x:Opd}:eff (.mk e z x)=true:=by simp[eff,I.cls]
theorem U3{x0:Opd}:eff (.mov x0)=false:=by simp[eff,I.cls]
theorem PK{x0:Opd}{x1:Opd}{x2:Opd}:eff (.pick x0 x1 x2)=false:=by simp[eff,I.cls]
theorem Ve{x0:BinOp}{x1:Opd}{x2:Opd}:eff (.bin x0 x1 x2)=false:=by simp[eff,I.cls]
theorem Vf{x0:Bool}{x1:Opd}{x2:Opd}:eff (.beq x0 x1 x2)=false:=by simp[eff,I.cls]
theorem U1{x0:Opd}:eff (.not x0)=false:=by simp[eff,I.cls]
theorem PL{x0:Nat}{x1:Bool}{x2:Opd}:eff (.load x0 x1 x2)=false:=by simp[eff,I.cls]
theorem U7{x0:Nat}{x1:Opd}:eff (.fad x0 x1)=false:=by simp[eff,I.cls]
theorem U2{x0:Opd}:eff (.nck x0)=false:=by simp[eff,I.cls]
theorem LD{x0:List Value}:eff (.alloc x0)=true:=by simp[eff,I.cls]
theorem Vb{x0:Opd}:eff (.box x0)=true:=by simp[eff,I.cls]
theorem LC{x0:Nat}{x1:Opd}{x2:Opd}:eff (.store x0 x1 x2)=true:=by simp[eff,I.cls]
theorem Vd{x0:List Value}{x1:List (Nat×Nat×Opd)}:eff (.bld x0 x1)=false:=by simp[eff,I.cls]
theorem U6{x0:Nat}{x1:Nat}{x2:Bool}{x3:Opd}:eff (.fld x0 x1 x2 x3)=false:=by simp[eff,I.cls]
theorem PI{x0:Opd}{x1:Opd}:eff (.sidx x0 x1)=false:=by simp[eff,I.cls]
theorem U0{x0:Opd}{x1:Option Opd}{x2:Option Opd}:eff (.ssl x0 x1 x2)=false:=by simp[eff,I.cls]
theorem U8{x0:Nat}{x1:Opd}:eff (.ext x0 x1)=false:=by simp[eff,I.cls]
theorem U5{x0:Bool}{x1:Opd}:eff (.len x0 x1)=false:=by simp[eff,I.cls]
theorem PO{e s n:Nat}{g:Bool}{xs:List Opd}:eff (.brow false e s n g xs)=false:=by simp[eff,I.cls]
theorem PS{e s n:Nat}{g:Bool}{xs:List Opd}:eff (.brow true e s n g xs)=true:=by simp[eff,I.cls]
theorem dQ{st:St}:mo true st= []:=by simp[mo]
theorem dR{st:St}:mo false st=st.owns:=by simp[mo]
inductive Sp where
 |k
 |d
 |v (x:AV)
def fP :List Sp→List AV→List AV
 | .k::ss,x::xs=>x::fP ss xs
 | .d::ss,_::xs=> .any::fP ss xs
 | .v y::ss,_::xs=>y::fP ss xs
 | [],_::xs=> .any::fP [] xs
 |_,[]=> []
def FB{X:Type}(fr0:List AV)(bs0:List (List AC))(sp:X→List Sp)(ow:X→List Own)(bx:X→List (List AC)→List (List AC))(x:X):St:=⟨fP (sp x) fr0,ow x,bx x bs0⟩
theorem iU{P:Program}{Q:Exit→St→Prop}{X:Type}{c:IC}{fr0:List AV}{os0:List Own}{bs0:List (List AC)}(sp:X→List Sp)(ow:X→List Own)(bx:X→List (List AC)→List (List AC))(inv:X→Prop)(μ:X→Nat)(x0:X)(h0:inv x0)
 (hle:gI ⟨fr0,os0,bs0⟩ (FB fr0 bs0 sp ow bx x0)) (round:∀x,inv x→AWP P c (wY (FB fr0 bs0 sp ow bx) inv μ x Q) (FB fr0 bs0 sp ow bx x)):AWP P (.loop c) Q ⟨fr0,os0,bs0⟩:=
 VF (FB fr0 bs0 sp ow bx) inv μ x0 h0 (Ho hle) round
theorem gY{Q:Exit→St→Prop}{st:St}{X:Type}{F:X→St}{inv:X→Prop}{μ:X→Nat}{x:X}(x':X)(h1:gI st (F x'))(h2:inv x')(h3:μ x'<μ x):wY F inv μ x Q .normal st:=⟨x',Ho h1,h2,h3⟩
theorem aK(b:Bool)(n:Int):(li n).acs b= [.raw (.int .i64 n)]:=rfl
theorem aJ(b:Bool)(s:ByteArray):(ls s).acs b= [.raw (.string s)]:=rfl
theorem iL(b:Bool)(v:Value):(D.leaf v).acs b= [.raw v]:=rfl
theorem aO(b:Bool)(l:List D):(D.sl l).acs b= [.sl b l]:=rfl
theorem aF(l:List Int):El 1 (l.map li):=fun d h=>by obtain⟨x,_,rfl⟩:=g_.1 h;exact⟨rfl,rfl⟩
theorem aC(l:List ByteArray):El 1 (l.map ls):=fun d h=>by obtain⟨x,_,rfl⟩:=g_.1 h;exact⟨rfl,rfl⟩
theorem UY(s:Nat):El s []:=fun d h=>by simp at h
theorem PE{s:Nat}{d:D}{l:List D}:El s (d::l)=((d.one∧d.sz=s)∧El s l):=by
 apply propext;constructor
 ·intro h;exact⟨h d (by simp),fun x hx=>h x (by simp[hx])⟩
 ·rintro⟨h1,h2⟩ x hx;rcases List.mem_cons.1 hx with rfl|hx
  ·exact h1
  ·exact h2 x hx
theorem qc{α:Type}{g:α→D}(hg:∀(x:α) (w:World) (f:List Nat) (cs:List Value),R w (g x) f cs→f= []):∀(l:List α),lV (l.map g)
 | [],w,f,cs,h=>h.1
 | x::l,w,f,cs,h=>by
   rw[J_,Rs]at h;obtain⟨f1,f2,c1,c2,rfl,rfl,h1,h2⟩:=h;rw[hg x w f1 c1 h1,qc hg l w f2 c2 h2];rfl
theorem Pg(l:List D)(k:Nat):idx l (some (k:Int))=l[k]? :=by simp[idx]
theorem gK{α:Type}(f:α→D)(l:List α){k:Nat}(h:k<l.length):idx (l.map f) (some (k:Int))=some (f l[k]):=by
 rw[Pg,u_,a_ h];rfl
theorem iP{n:Nat}(h:n≤9223372036854775806):IntKind.i64.wrap ((n:Int)+1)=((n+1:Nat):Int):=by
 rw[IntWalk.i64_in _ (by omega)];rfl
theorem BO.tos{l:List D}{e s:Nat}{w:World}{en:Ending}{w':World}(h:BO false l e s w en w')(hf:lV l):BN l w en w':=by
 obtain⟨v,cs,f,rfl,h1,h2,h3,h4⟩:=h;have:=hf _ _ _ h2;subst this;exact⟨_,v,rfl,Sl.mO h1 h2,jg.mO h1 jg.nil (fun g hg=>by simp),h4⟩
theorem ET.to{P:Program}{f:Nat}{ds l:List D}{e s:Nat}(h:ET P f ds l e s)(hf:lV l):dK P f ds (.c false [.sl true l]):=by
 intro w vs hr ht;refine(h w vs hr ht).mono ?_;rintro en w' ⟨v,cs,f',rfl,h1,h2,h3,h4⟩;have:=hf _ _ _ h2;subst this;refine⟨v,rfl,⟨⟨_,Sl.mO h1 h2,fun b hb=> ?_⟩,trivial⟩,h4⟩;rw[List.append_nil]at hb;have:=(eX.lt h1 b (by simpa using hb)).1;exact⟨rH.2 this,fun _=>t_ this⟩
theorem GOrigin.aB(x:GOrigin):x.toD.flat= [.leaf (.int .i64 x.cell),.leaf (.int .i64 x.row)]:=by
 simp[GOrigin.bQ,D.flat,D.jk,li,ls]
theorem GOrigin.aG(x:GOrigin)(b:Bool):x.toD.acs b= [.raw (.int .i64 x.cell),.raw (.int .i64 x.row)]:=by
 simp[D.acs,GOrigin.aB,D.ac]
theorem GOrigin.aI(x:GOrigin):x.toD.isAgg=true:=by rw[GOrigin.bQ];rfl
theorem GOrigin.jv(x:GOrigin):x.toD.one:=by
 simp[GOrigin.bQ,D.one,D.ones,li,ls,m_]
theorem GOrigin.el(l:List GOrigin):El 2 (l.map GOrigin.toD):=fun d h=>by obtain⟨x,_,rfl⟩:=g_.1 h;exact⟨x.jv,x.gU⟩
theorem GOrigin.Pv(l:List GOrigin):lV (l.map GOrigin.toD):=qc (fun x w f cs h=>(GOrigin.opened.1 h).1) l
theorem GRow.aB(x:GRow):x.toD.flat= [.sl (x.cells.map li),.sl (x.src.map GOrigin.toD)]:=by
 simp[GRow.bQ,D.flat,D.jk,li,ls]
theorem GRow.aG(x:GRow)(b:Bool):x.toD.acs b= [.sl b (x.cells.map li),.sl b (x.src.map GOrigin.toD)]:=by
 simp[D.acs,GRow.aB,D.ac]
theorem GRow.aI(x:GRow):x.toD.isAgg=true:=by rw[GRow.bQ];rfl
theorem GRow.jv(x:GRow):x.toD.one:=by
 simp[GRow.bQ,D.one,D.ones,li,ls,m_]
theorem GRow.el(l:List GRow):El 2 (l.map GRow.toD):=fun d h=>by obtain⟨x,_,rfl⟩:=g_.1 h;exact⟨x.jv,x.gU⟩
theorem GVal.aB(x:GVal):x.toD.flat= [.leaf (.int .i64 x.kind),.leaf (.int .i64 x.n),.leaf (.int .i64 x.step),.leaf (.string x.text),.sl (x.list.map GVal.toD),.sl (x.cols.map ls),.sl (x.rows.map GRow.toD)]:=by
 simp[GVal.bQ,D.flat,D.jk,li,ls]
theorem GVal.aG(x:GVal)(b:Bool):x.toD.acs b= [.raw (.int .i64 x.kind),.raw (.int .i64 x.n),.raw (.int .i64 x.step),.raw (.string x.text),.sl b (x.list.map GVal.toD),.sl b (x.cols.map ls),.sl b (x.rows.map GRow.toD)]:=by
 simp[D.acs,GVal.aB,D.ac]
theorem GVal.aI(x:GVal):x.toD.isAgg=true:=by rw[GVal.bQ];rfl
theorem GVal.jv(x:GVal):x.toD.one:=by
 simp[GVal.bQ,D.one,D.ones,li,ls,m_]
theorem GVal.el(l:List GVal):El 7 (l.map GVal.toD):=fun d h=>by obtain⟨x,_,rfl⟩:=g_.1 h;exact⟨x.jv,x.gU⟩
theorem GTok.aB(x:GTok):x.toD.flat= [.leaf (.int .i64 x.kind),.leaf (.int .i64 x.n),.leaf (.int .i64 x.pos),.leaf (.string x.text)]:=by
 simp[GTok.bQ,D.flat,D.jk,li,ls]
theorem GTok.aG(x:GTok)(b:Bool):x.toD.acs b= [.raw (.int .i64 x.kind),.raw (.int .i64 x.n),.raw (.int .i64 x.pos),.raw (.string x.text)]:=by
 simp[D.acs,GTok.aB,D.ac]
theorem GTok.aI(x:GTok):x.toD.isAgg=true:=by rw[GTok.bQ];rfl
theorem GTok.jv(x:GTok):x.toD.one:=by
 simp[GTok.bQ,D.one,D.ones,li,ls,m_]
theorem GTok.el(l:List GTok):El 4 (l.map GTok.toD):=fun d h=>by obtain⟨x,_,rfl⟩:=g_.1 h;exact⟨x.jv,x.gU⟩
theorem GTok.Pv(l:List GTok):lV (l.map GTok.toD):=qc (fun x w f cs h=>(GTok.opened.1 h).1) l
theorem GExpr.aB(x:GExpr):x.toD.flat= [.leaf (.int .i64 x.kind),.leaf (.int .i64 x.n),.leaf (.string x.text),.sl (x.args.map GExpr.toD)]:=by
 simp[GExpr.bQ,D.flat,D.jk,li,ls]
theorem GExpr.aG(x:GExpr)(b:Bool):x.toD.acs b= [.raw (.int .i64 x.kind),.raw (.int .i64 x.n),.raw (.string x.text),.sl b (x.args.map GExpr.toD)]:=by
 simp[D.acs,GExpr.aB,D.ac]
theorem GExpr.aI(x:GExpr):x.toD.isAgg=true:=by rw[GExpr.bQ];rfl
theorem GExpr.jv(x:GExpr):x.toD.one:=by
 simp[GExpr.bQ,D.one,D.ones,li,ls,m_]
theorem GExpr.el(l:List GExpr):El 4 (l.map GExpr.toD):=fun d h=>by obtain⟨x,_,rfl⟩:=g_.1 h;exact⟨x.jv,x.gU⟩
theorem GCell.aB(x:GCell):x.toD.flat= [.leaf (.int .i64 x.id),.leaf (.int .i64 x.ver),.leaf (.int .i64 x.kind),.leaf (.string x.name),.leaf (.string x.code),.leaf (.int .i64 x.n)]:=by
 simp[GCell.bQ,D.flat,D.jk,li,ls]
theorem GCell.aG(x:GCell)(b:Bool):x.toD.acs b= [.raw (.int .i64 x.id),.raw (.int .i64 x.ver),.raw (.int .i64 x.kind),.raw (.string x.name),.raw (.string x.code),.raw (.int .i64 x.n)]:=by
 simp[D.acs,GCell.aB,D.ac]
theorem GCell.aI(x:GCell):x.toD.isAgg=true:=by rw[GCell.bQ];rfl
theorem GCell.jv(x:GCell):x.toD.one:=by
 simp[GCell.bQ,D.one,D.ones,li,ls,m_]
theorem GCell.el(l:List GCell):El 6 (l.map GCell.toD):=fun d h=>by obtain⟨x,_,rfl⟩:=g_.1 h;exact⟨x.jv,x.gU⟩
theorem GCell.Pv(l:List GCell):lV (l.map GCell.toD):=qc (fun x w f cs h=>(GCell.opened.1 h).1) l
theorem GNb.aB(x:GNb):x.toD.flat= [.sl (x.cells.map GCell.toD)]:=by
 simp[GNb.bQ,D.flat,D.jk,li,ls]
theorem GNb.aG(x:GNb)(b:Bool):x.toD.acs b= [.sl b (x.cells.map GCell.toD)]:=by
 simp[D.acs,GNb.aB,D.ac]
theorem GNb.aI(x:GNb):x.toD.isAgg=true:=by rw[GNb.bQ];rfl
theorem GNb.jv(x:GNb):x.toD.one:=by
 simp[GNb.bQ,D.one,D.ones,li,ls,m_]
theorem GNb.el(l:List GNb):El 1 (l.map GNb.toD):=fun d h=>by obtain⟨x,_,rfl⟩:=g_.1 h;exact⟨x.jv,x.gU⟩
theorem GPart.aB(x:GPart):x.toD.flat= [.leaf (.int .i64 x.kind),.leaf (.string x.name),.leaf (.int .i64 x.expr.kind),.leaf (.int .i64 x.expr.n),.leaf (.string x.expr.text),.sl (x.expr.args.map GExpr.toD),.leaf (.int .i64 x.value.kind),.leaf (.int .i64 x.value.n),.leaf (.int .i64 x.value.step),.leaf (.string x.value.text),.sl (x.value.list.map GVal.toD),.sl (x.value.cols.map ls),.sl (x.value.rows.map GRow.toD),.leaf (.int .i64 x.pos)]:=by
 simp[GPart.bQ,GExpr.bQ,GVal.bQ,D.flat,D.jk,li,ls]
theorem GPart.aG(x:GPart)(b:Bool):x.toD.acs b= [.raw (.int .i64 x.kind),.raw (.string x.name),.raw (.int .i64 x.expr.kind),.raw (.int .i64 x.expr.n),.raw (.string x.expr.text),.sl b (x.expr.args.map GExpr.toD),.raw (.int .i64 x.value.kind),.raw (.int .i64 x.value.n),.raw (.int .i64 x.value.step),.raw (.string x.value.text),.sl b (x.value.list.map GVal.toD),.sl b (x.value.cols.map ls),.sl b (x.value.rows.map GRow.toD),.raw (.int .i64 x.pos)]:=by
 simp[D.acs,GPart.aB,D.ac]
theorem GPart.aI(x:GPart):x.toD.isAgg=true:=by rw[GPart.bQ];rfl
theorem GPart.jv(x:GPart):x.toD.one:=by
 simp[GPart.bQ,GExpr.bQ,GVal.bQ,D.one,D.ones,li,ls,m_]
theorem GPart.el(l:List GPart):El 14 (l.map GPart.toD):=fun d h=>by obtain⟨x,_,rfl⟩:=g_.1 h;exact⟨x.jv,x.gU⟩
theorem GEdit.aB(x:GEdit):x.toD.flat= [.leaf (.int .i64 x.kind),.leaf (.int .i64 x.pos),.leaf (.int .i64 x.cell.id),.leaf (.int .i64 x.cell.ver),.leaf (.int .i64 x.cell.kind),.leaf (.string x.cell.name),.leaf (.string x.cell.code),.leaf (.int .i64 x.cell.n)]:=by
 simp[GEdit.bQ,GCell.bQ,D.flat,D.jk,li,ls]
theorem GEdit.aG(x:GEdit)(b:Bool):x.toD.acs b= [.raw (.int .i64 x.kind),.raw (.int .i64 x.pos),.raw (.int .i64 x.cell.id),.raw (.int .i64 x.cell.ver),.raw (.int .i64 x.cell.kind),.raw (.string x.cell.name),.raw (.string x.cell.code),.raw (.int .i64 x.cell.n)]:=by
 simp[D.acs,GEdit.aB,D.ac]
theorem GEdit.aI(x:GEdit):x.toD.isAgg=true:=by rw[GEdit.bQ];rfl
theorem GEdit.jv(x:GEdit):x.toD.one:=by
 simp[GEdit.bQ,GCell.bQ,D.one,D.ones,li,ls,m_]
theorem GEdit.el(l:List GEdit):El 8 (l.map GEdit.toD):=fun d h=>by obtain⟨x,_,rfl⟩:=g_.1 h;exact⟨x.jv,x.gU⟩
theorem GEdit.Pv(l:List GEdit):lV (l.map GEdit.toD):=qc (fun x w f cs h=>(GEdit.opened.1 h).1) l
theorem GRead.aB(x:GRead):x.toD.flat= [.leaf (.int .i64 x.kind),.leaf (.int .i64 x.n),.leaf (.int .i64 x.time),.leaf (.string x.text),.leaf (.int .i64 x.result.kind),.leaf (.int .i64 x.result.n),.leaf (.int .i64 x.result.step),.leaf (.string x.result.text),.sl (x.result.list.map GVal.toD),.sl (x.result.cols.map ls),.sl (x.result.rows.map GRow.toD)]:=by
 simp[GRead.bQ,GVal.bQ,D.flat,D.jk,li,ls]
theorem GRead.aG(x:GRead)(b:Bool):x.toD.acs b= [.raw (.int .i64 x.kind),.raw (.int .i64 x.n),.raw (.int .i64 x.time),.raw (.string x.text),.raw (.int .i64 x.result.kind),.raw (.int .i64 x.result.n),.raw (.int .i64 x.result.step),.raw (.string x.result.text),.sl b (x.result.list.map GVal.toD),.sl b (x.result.cols.map ls),.sl b (x.result.rows.map GRow.toD)]:=by
 simp[D.acs,GRead.aB,D.ac]
theorem GRead.aI(x:GRead):x.toD.isAgg=true:=by rw[GRead.bQ];rfl
theorem GRead.jv(x:GRead):x.toD.one:=by
 simp[GRead.bQ,GVal.bQ,D.one,D.ones,li,ls,m_]
theorem GRead.el(l:List GRead):El 11 (l.map GRead.toD):=fun d h=>by obtain⟨x,_,rfl⟩:=g_.1 h;exact⟨x.jv,x.gU⟩
theorem GTape.aB(x:GTape):x.toD.flat= [.leaf (.int .i64 x.cell),.leaf (.int .i64 x.ver),.sl (x.reads.map GRead.toD)]:=by
 simp[GTape.bQ,D.flat,D.jk,li,ls]
theorem GTape.aG(x:GTape)(b:Bool):x.toD.acs b= [.raw (.int .i64 x.cell),.raw (.int .i64 x.ver),.sl b (x.reads.map GRead.toD)]:=by
 simp[D.acs,GTape.aB,D.ac]
theorem GTape.aI(x:GTape):x.toD.isAgg=true:=by rw[GTape.bQ];rfl
theorem GTape.jv(x:GTape):x.toD.one:=by
 simp[GTape.bQ,D.one,D.ones,li,ls,m_]
theorem GTape.el(l:List GTape):El 3 (l.map GTape.toD):=fun d h=>by obtain⟨x,_,rfl⟩:=g_.1 h;exact⟨x.jv,x.gU⟩
theorem GBind.aB(x:GBind):x.toD.flat= [.leaf (.string x.name),.leaf (.int .i64 x.value.kind),.leaf (.int .i64 x.value.n),.leaf (.int .i64 x.value.step),.leaf (.string x.value.text),.sl (x.value.list.map GVal.toD),.sl (x.value.cols.map ls),.sl (x.value.rows.map GRow.toD)]:=by
 simp[GBind.bQ,GVal.bQ,D.flat,D.jk,li,ls]
theorem GBind.aG(x:GBind)(b:Bool):x.toD.acs b= [.raw (.string x.name),.raw (.int .i64 x.value.kind),.raw (.int .i64 x.value.n),.raw (.int .i64 x.value.step),.raw (.string x.value.text),.sl b (x.value.list.map GVal.toD),.sl b (x.value.cols.map ls),.sl b (x.value.rows.map GRow.toD)]:=by
 simp[D.acs,GBind.aB,D.ac]
theorem GBind.aI(x:GBind):x.toD.isAgg=true:=by rw[GBind.bQ];rfl
theorem GBind.jv(x:GBind):x.toD.one:=by
 simp[GBind.bQ,GVal.bQ,D.one,D.ones,li,ls,m_]
theorem GBind.el(l:List GBind):El 8 (l.map GBind.toD):=fun d h=>by obtain⟨x,_,rfl⟩:=g_.1 h;exact⟨x.jv,x.gU⟩
theorem Ql :type_of% (Zm @GOrigin.aB (Zm @GOrigin.aG (Zm @GOrigin.aI (Zm @GRow.aB (Zm @GRow.aG (Zm @GRow.aI (Zm @GVal.aB (Zm @GVal.aG (Zm @GVal.aI (Zm @GTok.aB (Zm @GTok.aG (Zm @GTok.aI (Zm @GExpr.aB (Zm @GExpr.aG (Zm @GExpr.aI (Zm @GCell.aB (Zm @GCell.aG (Zm @GCell.aI (Zm @GNb.aB (Zm @GNb.aG (Zm @GNb.aI (Zm @GPart.aB (Zm @GPart.aG (Zm @GPart.aI (Zm @GEdit.aB (Zm @GEdit.aG (Zm @GEdit.aI (Zm @GRead.aB (Zm @GRead.aG (Zm @GRead.aI (Zm @GTape.aB (Zm @GTape.aG (Zm @GTape.aI (Zm @GBind.aB (Zm @GBind.aG (@GBind.aI)))))))))))))))))))))))))))))))))))):=Zm @GOrigin.aB (Zm @GOrigin.aG (Zm @GOrigin.aI (Zm @GRow.aB (Zm @GRow.aG (Zm @GRow.aI (Zm @GVal.aB (Zm @GVal.aG (Zm @GVal.aI (Zm @GTok.aB (Zm @GTok.aG (Zm @GTok.aI (Zm @GExpr.aB (Zm @GExpr.aG (Zm @GExpr.aI (Zm @GCell.aB (Zm @GCell.aG (Zm @GCell.aI (Zm @GNb.aB (Zm @GNb.aG (Zm @GNb.aI (Zm @GPart.aB (Zm @GPart.aG (Zm @GPart.aI (Zm @GEdit.aB (Zm @GEdit.aG (Zm @GEdit.aI (Zm @GRead.aB (Zm @GRead.aG (Zm @GRead.aI (Zm @GTape.aB (Zm @GTape.aG (Zm @GTape.aI (Zm @GBind.aB (Zm @GBind.aG (@GBind.aI)))))))))))))))))))))))))))))))))))
theorem aW(l:List D):(D.sl l).isAgg=false:=rfl
theorem aN(v:Value):(D.leaf v).isAgg=false:=rfl
theorem aY(n:Int):(li n).isAgg=false:=rfl
theorem aX(s:ByteArray):(ls s).isAgg=false:=rfl
theorem aQ(l:List D):(D.sl l).flat= [.sl l]:=by rw[D.flat]
theorem aH(v:Value):(D.leaf v).flat= [.leaf v]:=by rw[D.flat]
theorem aU(n:Int):(li n).flat= [.leaf (.int .i64 n)]:=aH _
theorem aS(s:ByteArray):(ls s).flat= [.leaf (.string s)]:=aH _
section
variable{P:Program}{f:Nat}{w:World}
theorem MR{d:D}{vs:List Value}(h:Rds w [d] vs):∃v,vs= [v]∧Rd w d v:=by
 match vs,h with
 | [v],h=>exact⟨v,rfl,h.1⟩
theorem YQ{d e:D}{vs:List Value}(h:Rds w [d,e] vs):∃v u,vs= [v,u]∧Rd w d v∧Rd w e u:=by
 match vs,h with
 | [v,u],h=>exact⟨v,u,rfl,h.1,h.2.1⟩
theorem YP{d e g:D}{vs:List Value}(h:Rds w [d,e,g] vs):∃v u z,vs= [v,u,z]∧Rd w d v∧Rd w e u∧Rd w g z:=by
 match vs,h with
 | [v,u,z],h=>exact⟨v,u,z,rfl,h.1,h.2.1,h.2.2.1⟩
theorem ni{u v:Value}(h:Rd w (.leaf u) v):v=u:=by
 obtain⟨fp,h⟩:=h;have h2:fp= []∧[v]= [u]:=h;simpa using h2.2
theorem SI{d:D}{v:Value}(hd:d.isAgg=true)(h:Rd w d v):∃fp cs,v= .agg cs.toArray∧R w d fp cs:=by
 unfold Rd at h;rw[if_pos hd]at h;exact h
theorem SH{l:List D}{fp:List Nat}{v:Value}(h:Sl w l fp v):Rd w (.sl l) v:=⟨fp,h⟩
theorem MS(u:Value):Rd w (.leaf u) u:=⟨[],rfl,rfl⟩
theorem vk{ds:List D}{u:Value}(h:∀w vs,Rds w ds vs→Calls P f vs.toArray w (wW u w)):dK P f ds (.c false [.raw u]):=fun w vs hr _=>(h w vs hr).mono fun e w' ⟨h1,h2⟩=>⟨u,h1,⟨rfl,trivial⟩,h2⟩
theorem V9{ds:List D}{u:Value}(h:∀w vs,Rds w ds vs→Calls P f vs.toArray w (AX u w)):dK P f ds (.c false [.raw u]):=fun w vs hr _=>(h w vs hr).mono fun e w' ⟨h1,h2⟩=>by
 subst h2;exact⟨u,h1,⟨rfl,trivial⟩,Below.refl _ _⟩
theorem RI{ds:List D}{u:Value}(h:∀w vs,Rds w ds vs→oZ w→Calls P f vs.toArray w (wW u w)):dK P f ds (.c false [.raw u]):=fun w vs hr ht=>(h w vs hr ht).mono fun e w' ⟨h1,h2⟩=>⟨u,h1,⟨rfl,trivial⟩,h2⟩
theorem Uc{ds:List D}{u:Value}(h:dK P f ds (.c false [.raw u])){w:World}{vs:List Value}(hr:Rds w ds vs)(ht:oZ w:=by first|exact trivial|assumption):Calls P f vs.toArray w (wW u w):=(h w vs hr ht).mono fun e w' ⟨v,h1,h2,h3⟩=>by
 obtain rfl:=h2.1;exact⟨h1,h3⟩
theorem of_own{ds l:List D}{e s:Nat}(h:ET P f ds l e s)(hf:lV l){w:World}{vs:List Value}(hr:Rds w ds vs)(ht:oZ w:=by first|exact trivial|assumption):Calls P f vs.toArray w (BN l w):=(h w vs hr ht).mono fun en w' h1=>BO.tos h1 hf
def Ry(l:List D)(u:Value)(w:World)(e:Ending)(w':World):Prop:=∃fp v,e= .returned (.tuple #[.agg #[v],u])∧Sl w' l fp v∧jg w' w.heap.size fp∧Below w.heap.size w w'
theorem WI{ds l:List D}{e s:Nat}{u:Value}(h:tH P f ds (.tup [(true,[.own 0 0]),(false,[.raw u])]) [⟨l,e,s,0,true⟩])(hf:lV l){w:World}{vs:List Value}(hr:Rds w ds vs)(ht:oZ w:=by first|exact trivial|assumption):Calls P f vs.toArray w (Ry l u w):=(h w vs hr ht).mono fun en w' ⟨v,om,h1,h2,h3,h4⟩=>by
 obtain⟨us,rfl,h5⟩:=h3
 match us,h5 with
 | [a,b],⟨h6,h7,_⟩=>
   obtain⟨xs,rfl,h8⟩:=h6;obtain rfl:=h7.1
   match xs,h8 with
   | [x],⟨⟨_,o,p,g1,g2,g3,g4⟩,_⟩=>
     simp at g1;subst g1;obtain rfl:=g4 rfl;obtain⟨_,o2,_⟩:=h2;obtain⟨cs,k1,k2,k3,k4⟩:=o2 0 _ p rfl g2;have:=hf _ _ _ k2;rw[this]at k2;exact⟨_,p.1,h1,Sl.mO k1 k2,jg.mO k1 jg.nil (fun g hg=>by simp),h4⟩
theorem tH.to{ds l:List D}{e s:Nat}{u:Value}(h:tH P f ds (.tup [(true,[.own 0 0]),(false,[.raw u])]) [⟨l,e,s,0,true⟩])(hf:lV l):dK P f ds (.tup [(true,[.sl true l]),(false,[.raw u])]):=fun w vs hr ht=>(WI h hf hr ht).mono fun en w' ⟨fp,v,h1,h2,h3,h4⟩=>
 ⟨_,h1,⟨[.agg #[v],u],rfl,⟨[v],rfl,⟨fp,h2,fun b hb=>⟨rH.2 (h3.2 b hb).1,fun _=>t_ (h3.2 b hb).1⟩⟩,trivial⟩,⟨rfl,trivial⟩,trivial⟩,h4⟩
end
section
variable{P:Program}{f:Nat}{w:World}
def GV(w:World)(base:Nat)(fp:List Nat):Prop:=True∧∀b∈fp,base≤b∧True
theorem GV.mono{w:World}{base base':Nat}{fp:List Nat}(h:GV w base fp)(hb:base'≤base):GV w base' fp:=⟨trivial,fun b hm=>⟨r_ hb (h.2 b hm).1,trivial⟩⟩
theorem GV.below{w w':World}{base:Nat}{fp:List Nat}(h:GV w base fp)(hl:∀b∈fp,b<w.heap.size)(hb:Below w.heap.size w w'):GV w' base fp:=⟨trivial,h.2⟩
end
def stS(n:Nat)(avs:List AV)(os:List Own)(bs:List (List AC)):St:=⟨avs++D_ (n - avs.length) (.c false [.raw undef]),os,bs⟩
theorem IU{E:Env}{os:List Own}{w:World}:∀{xs:List AV} {vs:List Value},oP E os w xs vs→xs.length=vs.length∧∀(t:Nat) (x:AV),xs[t]? =some x→∃v,vs[t]? =some v∧x.ok E os w v
 | [],[],_=>⟨rfl,fun t d h=>by simp at h⟩
 | x::xs,v::vs,h=>by
   obtain⟨h1,h2⟩:=IU h.2;refine⟨by simp[h1],fun t y hy=> ?_⟩;cases t with
   |zero=>simp at hy;subst hy;exact⟨v,rfl,h.1⟩
   |succ t=>simpa using h2 t y (by simpa using hy)
 | [],_::_,h=>h.elim
 |_::_,[],h=>h.elim
theorem CG{B:Nat}{Xs:List Nat}{G:Org}{w0:World}{fr:List AV}{os:List Own}{bs:List (List AC)}{E:Env}{a:Act}{w:World}{avs:List AV}{vs:List Value}(h:Rel B Xs G w0 ⟨fr,os,bs⟩ E a w)(hv:oP E os w avs vs)(n:Nat):
 Rel B Xs ⟨E,os,w⟩ w0 (stS n avs os bs) E {tmps:=vs.toArray++Array.replicate (n - vs.toArray.size) undef,defers:= []} w where
 eb:=h.eb
 ex:=h.ex
 sim:=Sim.refl _ _ _
 defers:=rfl
 size:=by
  obtain⟨hl,_⟩:=IU hv;simp[stS,hl]
 fr :=by
  obtain⟨hl,hg⟩:=IU hv;intro t x hx;simp only[stS]at hx;rw[V_]at hx;simp only[Array.getD_eq_getD_getElem?];split at hx
  ·next ht=>
   obtain⟨v,hv,hr⟩:=hg t x hx;rw[Array.getElem?_append_left (by simp at ht⊢;omega)];simp only[T_,hv,k_];exact hr
  ·next ht=>
   rw[N_]at hx;split at hx
   ·next hlt=>
    injection hx with hx
    subst hx;rw[Array.getElem?_append_right (by simp;omega),Array.getElem?_replicate];simp only[a_h,← hl];rw[if_pos hlt];exact⟨rfl,trivial⟩
   ·cases hx
 olen:=h.olen
 own:=h.own
 blen:=h.blen
 box:=h.box
 nodup:=h.nodup
 lin:=h.lin
 unf:=h.unf
 below:=h.below
 base:=h.base
theorem D9{n m:Nat}:∀(fr:List AV),iM n m fr (D_ fr.length .any)
 | []=>trivial
 |x::fr=>⟨t_ rfl,D9 fr⟩
theorem Lc{n m:Nat}{x:AV}(hx:x.fits n m=true):∀(fr:List AV) (t:Nat),fr.getD t .any=x→iM n m fr ((D_ fr.length AV.any).set t x)
 | [],t,_=>trivial
 |y::fr,0,h=>⟨o_ ⟨h,hx⟩,D9 fr⟩
 |y::fr,t+1,h=>⟨t_ rfl,Lc hx fr t (by simpa using h)⟩
def YF(rs:List ResultVar)(r:AV)(os':List Own)(bs':List (List AC))(st:St):Prop:=
 gq st.owns os'∧gJ st.boxes bs'∧(bs'.all fun xs=>xs.all (AC.fits os'.length bs'.length))=true∧
  (match rs with
   | []=>r= .c false [.raw (.tuple #[])]
   | [.tmp t]=>st.fr.getD t .any=r∧r.fits os'.length bs'.length=true
   |_=>False)
theorem Xt{P:Program}{f:Nat}{fn:Func}{code:Code}{ic:IC}{avs:List AV}{os:List Own}{bs:List (List AC)}{post:AV→List Own→List (List AC)→Prop}{rs:List ResultVar}(hf:P.funcs[f]? =some fn:=by kernel_rfl)(hb:fn.body=some code:=by kernel_rfl)(hr:fn.results=rs.toArray:=by kernel_rfl)(hc:bg P code=some ic)
 (h:iK (os.length,bs.length) P ic (qX (fun st=>∃r os' bs',post r os' bs'∧os.length≤os'.length∧bs.length≤bs'.length∧YF rs r os' bs' st)) (stS fn.ntmps avs os bs)):lD P f avs os bs post:=by
 intro B Xs G w0 fr E a w vs hR hv;have hol:=hR.olen;have hbl:=hR.blen;simp only at hol hbl;refine calls_of_wp hf hb ?_;have:=h code hc B Xs ⟨E,os,w⟩ w0 ⟨Nat.le_refl _,by simp only;omega⟩ E _ w (CG hR hv fn.ntmps);refine wp_mono this ?_;rintro e a' w' ⟨st',E',g1,g2⟩;have fin:(∃r os' bs',post r os' bs'∧os.length≤os'.length∧bs.length≤bs'.length∧YF rs r os' bs' st')→∃v,(results fn a'.tmps).run P w'= .ok v w'∧∃v' E' r os' bs',post r os' bs'∧Ending.returned v= .returned v'∧Rel B Xs ⟨E,os,w⟩ w0 ⟨[],os',bs'⟩ E' {tmps:= #[],defers:= []} w'∧r.ok E' os' w' v':=by
  rintro⟨r,os',bs',hp,h1,h2,q1,q2,q3,q4⟩;obtain⟨r1,k1⟩:=wB q1;obtain⟨r2,k2⟩:=wR q2;have drop:∀{fr':List AV} {E'':Env},Rel B Xs ⟨E,os,w⟩ w0 ⟨fr',os',bs'⟩ E'' a' w'→Rel B Xs ⟨E,os,w⟩ w0 ⟨[],os',bs'⟩ E'' {tmps:= #[],defers:= []} w':=fun hh=>
   {eb:=hh.eb,ex:=hh.ex,sim:=hh.sim,defers:=rfl,size:=rfl,fr:=fun t y hy=>by simp at hy,olen:=hh.olen,own:=hh.own,blen:=hh.blen,box:=hh.box,nodup:=hh.nodup,lin:=hh.lin,unf:=hh.unf,below:=hh.below,base:=hh.base}
  match rs,q4 with
  | [],q4=>
    obtain⟨E'',hh⟩:=g1.weak (st':=⟨List.replicate st'.fr.length .any,os',bs'⟩) ⟨D9 _,⟨r1,k1⟩,⟨r2,k2⟩,fun xs hx=>List.all_eq_true.1 q3 xs hx⟩ (by simp only;omega) (by simp only;omega);subst q4;exact⟨_,results_none hr _ P w',_,E'',_,os',bs',hp,rfl,drop hh,rfl,trivial⟩
  | [.tmp t],q4=>
    obtain⟨E'',hh⟩:=g1.weak (st':=⟨(List.replicate st'.fr.length .any).set t r,os',bs'⟩) ⟨Lc q4.2 _ _ q4.1,⟨r1,k1⟩,⟨r2,k2⟩,fun xs hx=>List.all_eq_true.1 q3 xs hx⟩ (by simp only;omega) (by simp only;omega);refine⟨_,results_tmp hr _ P w',_,E'',r,os',bs',hp,rfl,drop hh, ?_⟩;have hlen:t<st'.fr.length∨r= .any:=by
     rcases Nat.lt_or_ge t st'.fr.length with hlt|hge
     ·exact Or.inl hlt
     ·refine Or.inr ?_;rw[← q4.1,List.getD_eq_getElem?_getD,List.getElem?_eq_none hge];rfl
    rcases hlen with hlt|rfl
    ·exact hh.fr t r (by simp only;rw[List.getElem?_set_self (by simpa using hlt)])
    ·trivial
 cases e with
 | normal=>
   obtain⟨v,h3,h4⟩:=fin g2;exact⟨g1.defers,v,h3,h4⟩
 | ret=>
   obtain⟨v,h3,h4⟩:=fin g2;exact⟨g1.defers,v,h3,h4⟩
 |_=>exact g2.elim
section
variable{lo:Nat×Nat}{P:Program}{K:St→Prop}{Q:Exit→St→Prop}{st:St}{m:Bool}
theorem bI{c:Opd}{x y:IC}{b:Bool}(hb:st.ev c= .c false [.raw (.bool b)])(h1:b=true→iK lo P x Q st)(h2:b=false→iK lo P y Q st):iK lo P (.cond c x y) Q st:=EG hb h1 h2
theorem dI{os:List Own}{xs:List AV}{ds:List D}(h:aP os xs ds):aP os xs ds:=h
theorem dD{f:Nat}(h:Ea P f=true):Ea P f=true:=h
theorem je{a b:Prop}(h1:a)(h2:b):a∧b:=⟨h1,h2⟩
theorem jY{d:Option Nat}{f:Nat}{avs:List AV}{rest:List IOp}(h:lF P K d f avs rest st):lF P K d f avs rest st:=h
theorem nO{d:Option Nat}{f:Nat}{avs:List AV}{rest:List IOp}(h:rY P m K d f avs rest st):rY P m K d f avs rest st:=h
theorem eF{l:List IOp}(h:sw P K l st):sw P K l st:=h
theorem pF{l:List IOp}(h:sd P m K l st):sd P m K l st:=h
theorem dN{d:Option Nat}{g:Nat}{w:Bool}{i:I}{rest:List IOp}(hg:gdA st (some (g,w))=some true)(h:sw P K (⟨d,none,i⟩::rest) st):sw P K (⟨d,some (g,w),i⟩::rest) st:=by
 rw[Ji,hg];exact h
theorem dP{d:Option Nat}{g:Nat}{w:Bool}{i:I}{rest:List IOp}(hg:gdA st (some (g,w))=some false)(h:sw P K rest (st.put d (.c false [.raw undef]))):sw P K (⟨d,some (g,w),i⟩::rest) st:=by
 rw[Ji,hg];exact h
theorem yL{d:Option Nat}{g:Nat}{w:Bool}{i:I}{rest:List IOp}(hg:gdA st (some (g,w))=some true)(h:sd P m K (⟨d,none,i⟩::rest) st):sd P m K (⟨d,some (g,w),i⟩::rest) st:=by
 rw[Jp,hg];exact h
theorem yM{d:Option Nat}{g:Nat}{w:Bool}{i:I}{rest:List IOp}(hg:gdA st (some (g,w))=some false)(h:sd P m K rest (st.put d (.c false [.raw undef]))):sd P m K (⟨d,some (g,w),i⟩::rest) st:=by
 rw[Jp,hg];exact h
theorem qK{g:Nat}{w b:Bool}(h:st.fr.getD g .any= .c false [.raw (.bool b)]):gdA st (some (g,w))=some (b==w):=by
 simp only[gdA,h]
theorem eH{d:Option Nat}{g:Nat}{w b:Bool}{i:I}{rest:List IOp}(hg:st.fr.getD g .any= .c false [.raw (.bool b)])(h1:b=w→sw P K (⟨d,none,i⟩::rest) st)(h2:b= !w→sw P K rest (st.put d (.c false [.raw undef]))):
 sw P K (⟨d,some (g,w),i⟩::rest) st:=by
 cases b<;>cases w
 ·exact dN (qK hg) (h1 rfl)
 ·exact dP (qK hg) (h2 rfl)
 ·exact dP (qK hg) (h2 rfl)
 ·exact dN (qK hg) (h1 rfl)
theorem Qr{d:Option Nat}{g:Nat}{w b:Bool}{i:I}{rest:List IOp}(hg:st.fr.getD g .any= .c false [.raw (.bool b)])(h1:b=w→sd P m K (⟨d,none,i⟩::rest) st)(h2:b= !w→sd P m K rest (st.put d (.c false [.raw undef]))):
 sd P m K (⟨d,some (g,w),i⟩::rest) st:=by
 cases b<;>cases w
 ·exact yL (qK hg) (h1 rfl)
 ·exact yM (qK hg) (h2 rfl)
 ·exact yM (qK hg) (h2 rfl)
 ·exact yL (qK hg) (h1 rfl)
end
theorem og{lo:Nat×Nat}{P:Program}{Q:Exit→St→Prop}{X:Type}{c:IC}{fr0:List AV}{os0:List Own}{bs0:List (List AC)}(sp:X→List Sp)(ow:X→List Own)(bx:X→List (List AC)→List (List AC))(inv:X→Prop)(μ:X→Nat)(x0:X)(h0:inv x0)
 (hlo:∀x,lo.1≤(ow x).length∧lo.2≤(bx x bs0).length) (hle:gI ⟨fr0,os0,bs0⟩ (FB fr0 bs0 sp ow bx x0)) (round:∀x,inv x→iK lo P c (wY (FB fr0 bs0 sp ow bx) inv μ x Q) (FB fr0 bs0 sp ow bx x)):iK lo P (.loop c) Q ⟨fr0,os0,bs0⟩:=
 GK (FB fr0 bs0 sp ow bx) inv μ x0 h0 hlo (Ho hle) round
theorem iY{z:Int}(h1: -9223372036854775808≤z)(h2:z≤9223372036854775807):IntKind.i64.wrap z=z:=IntWalk.i64_in _ ⟨h1,h2⟩
theorem XU{α:Type}{a b:Nat}{x y:α}(h:a<b):(if a<b then x else y)=x:=if_pos h
theorem XV{α:Type}{a b:Nat}{x y:α}(h:a≤b):(if a≤b then x else y)=x:=if_pos h
theorem X0{p:Prop}[Decidable p](h:p):decide p=true:=decide_eq_true h
theorem X3{p:Prop}[Decidable p](h:¬p):decide p=false:=decide_eq_false h
theorem X6{a b:Int}(h:a=b):(a==b)=true:=by simp[h]
theorem LY{a b:Int}(h:a≠b):(a==b)=false:=by simp[h]
theorem X4{a b:Int}(h:a≠b):(a !=b)=true:=by simp[h]
theorem X5{a b:Int}(h:a=b):(a !=b)=false:=by simp[h]
theorem Us{l:List D}{k:Nat}(h:k<l.length):idx l (some (k:Int))=some l[k]:=by
 rw[Pg,a_ h]
theorem J4{α:Type}(f:α→D)(l:List α){z:Int}(h0:0≤z)(h:z.toNat<l.length):idx (l.map f) (some z)=some (f l[z.toNat]):=by
 simp only[idx];rw[if_pos h0,u_,a_ h];rfl
theorem xk{k n:Nat}(h:k≤n):lJ none (some (k:Int)) n=some (0,k):=by
 simp[lJ,h]
theorem vC{k n:Nat}(h:k≤n):lJ (some (k:Int)) none n=some (k,n):=by
 simp[lJ,h]
theorem FQ{j k n:Nat}(h:j≤k)(h':k≤n):lJ (some (j:Int)) (some (k:Int)) n=some (j,k):=by
 simp only[lJ,k_];rw[if_pos (by omega)];simp
theorem Jk{n:Nat}(h:1≤n):lJ (some (1:Int)) none n=some (1,n):=by
 have:=vC h;simpa using this
theorem Jl{n:Nat}:lJ none none n=some (0,n):=by
 simp[lJ]
section
variable{α:Type}
end
theorem sJ :∀(os:List Own),gq os os
 | []=>trivial
 |o::os=>⟨⟨rfl,rfl,rfl,rfl,rfl⟩,sJ os⟩
theorem tq :∀(bs:List (List AC)),gJ bs bs
 | []=>trivial
 |b::bs=>⟨rfl,tq bs⟩
theorem MG{n m n' m':Nat}(h:n≤n')(h':m≤m'){x:AC}(hx:x.fits n m=true):x.fits n' m'=true:=by
 cases x with
 |own k i=>simp[AC.fits]at hx⊢;omega
 |osub k i a b=>simp[AC.fits]at hx⊢;omega
 | cl f caps=>
   simp only[AC.fits,v_,decide_eq_true_eq]at hx⊢;exact fun k hk=>C_ (hx k hk) h'
 |_=>rfl
def Qd(n m:Nat)(bx:List (List AC)):Prop:=(bx.all fun xs=>xs.all (AC.fits n m))=true
theorem Qd.mono{n m n' m':Nat}{bx:List (List AC)}(h:Qd n m bx)(h1:n≤n')(h2:m≤m'):Qd n' m' bx:=by
 simp only[Qd,v_]at h⊢;exact fun xs hx x hxx=>MG h1 h2 (h xs hx x hxx)
theorem pkA :type_of% (Zm @J_.{0,0} (Zm @a_b.{0,0} (Zm @G_.{0} (Zm @Q_.{0} (Zm @q_.{0} (Zm @a_p.{0} (Zm @B_.{0,0} (Zm @X_.{0} (Zm @Y_.{0} (Zm @O_.{0} (Zm @P_.{0} (Zm @a_c.{0} (Zm @a_d.{0} (Zm @Z_.{0} (Zm @a_s.{0} (Zm @a_a.{0} (Zm @a_t.{0} (Zm @a_u.{0} (Zm @a_v.{0} (Zm @a_A (Zm @a_B (Zm @a_C.{0} (Zm @n_.{0} (Zm @a_w (Zm @a_x (Zm @a_y (Zm @K_ (Zm @I_ (Zm @beq_self_eq_true.{0} (Zm @if_true.{1} (Zm @if_false.{1} (Zm @ite_true.{1} (Zm @ite_false.{1} (Zm @a_e (Zm @true_and (Zm @and_true (Zm @decide_true (Zm @decide_false (Zm @k_.{0} (Zm @a_l.{0} (Zm @s_ (Zm @w_ (Zm @Int.toNat_natCast (Zm @Int.natCast_nonneg (Zm @BEq.rfl.{0} (Zm @R_.{0,0} (Zm @a_q.{0,0} (Zm @Vy (Zm @Vx (Zm @aK (Zm @aJ (Zm @iL (Zm @aO (Zm @aF (Zm @aC (Zm @UY (@PE))))))))))))))))))))))))))))))))))))))))))))))))))))))))):=Zm @J_.{0,0} (Zm @a_b.{0,0} (Zm @G_.{0} (Zm @Q_.{0} (Zm @q_.{0} (Zm @a_p.{0} (Zm @B_.{0,0} (Zm @X_.{0} (Zm @Y_.{0} (Zm @O_.{0} (Zm @P_.{0} (Zm @a_c.{0} (Zm @a_d.{0} (Zm @Z_.{0} (Zm @a_s.{0} (Zm @a_a.{0} (Zm @a_t.{0} (Zm @a_u.{0} (Zm @a_v.{0} (Zm @a_A (Zm @a_B (Zm @a_C.{0} (Zm @n_.{0} (Zm @a_w (Zm @a_x (Zm @a_y (Zm @K_ (Zm @I_ (Zm @beq_self_eq_true.{0} (Zm @if_true.{1} (Zm @if_false.{1} (Zm @ite_true.{1} (Zm @ite_false.{1} (Zm @a_e (Zm @true_and (Zm @and_true (Zm @decide_true (Zm @decide_false (Zm @k_.{0} (Zm @a_l.{0} (Zm @s_ (Zm @w_ (Zm @Int.toNat_natCast (Zm @Int.natCast_nonneg (Zm @BEq.rfl.{0} (Zm @R_.{0,0} (Zm @a_q.{0,0} (Zm @Vy (Zm @Vx (Zm @aK (Zm @aJ (Zm @iL (Zm @aO (Zm @aF (Zm @aC (Zm @UY (@PE))))))))))))))))))))))))))))))))))))))))))))))))))))))))
theorem pkN :type_of% (Zm @XU (Zm @XV (Zm @X0 (Zm @X3 (Zm @X6 (Zm @LY (Zm @X4 (Zm @X5 (Zm @iP (Zm @iY (Zm @Us (Zm @gK (Zm @J4 (Zm @xk (Zm @vC (Zm @FQ (Zm @Jk (@Jl)))))))))))))))))):=Zm @XU (Zm @XV (Zm @X0 (Zm @X3 (Zm @X6 (Zm @LY (Zm @X4 (Zm @X5 (Zm @iP (Zm @iY (Zm @Us (Zm @gK (Zm @J4 (Zm @xk (Zm @vC (Zm @FQ (Zm @Jk (@Jl)))))))))))))))))
theorem pkC :type_of% (Zm @decide_eq_true_eq (Zm @decide_eq_false_iff_not (Zm @beq_iff_eq.{0} (Zm @bne_iff_ne.{0} (Zm @ne_eq.{1} (Zm @beq_eq_false_iff_ne.{0} (Zm @bne_eq_false_iff_eq.{0} (Zm @a_j (Zm @a_g (Zm @U_ (Zm @K_ (@I_)))))))))))):=Zm @decide_eq_true_eq (Zm @decide_eq_false_iff_not (Zm @beq_iff_eq.{0} (Zm @bne_iff_ne.{0} (Zm @ne_eq.{1} (Zm @beq_eq_false_iff_ne.{0} (Zm @bne_eq_false_iff_eq.{0} (Zm @a_j (Zm @a_g (Zm @U_ (Zm @K_ (@I_)))))))))))
theorem pkW :type_of% (Zm @SS (Zm @Ov (Zm @Tn (Zm @Tq (Zm @SN (Zm @Ox (Zm @S9 (Zm @SQ (Zm @Ju (Zm @Ti (Zm @Tj (Zm @SY (Zm @Ou (Zm @SL (Zm @Tc (Zm @SX (Zm @SV (Zm @Oy (Zm @Ot (Zm @XR (Zm @Tf (Zm @Td (Zm @OA (@Oz)))))))))))))))))))))))):=Zm @SS (Zm @Ov (Zm @Tn (Zm @Tq (Zm @SN (Zm @Ox (Zm @S9 (Zm @SQ (Zm @Ju (Zm @Ti (Zm @Tj (Zm @SY (Zm @Ou (Zm @SL (Zm @Tc (Zm @SX (Zm @SV (Zm @Oy (Zm @Ot (Zm @XR (Zm @Tf (Zm @Td (Zm @OA (@Oz)))))))))))))))))))))))
theorem pkS :type_of% (Zm @RJ (Zm @RP (Zm @RN (Zm @Og (Zm @Jj (Zm @RQ (Zm @Jh (Zm @Oh (@XM))))))))):=Zm @RJ (Zm @RP (Zm @RN (Zm @Og (Zm @Jj (Zm @RQ (Zm @Jh (Zm @Oh (@XM))))))))
theorem pkD :type_of% (Zm @TG (Zm @OG (Zm @TS (Zm @TT (Zm @TD (Zm @OH (Zm @TL (Zm @TF (Zm @JA (Zm @TQ (Zm @Jz (Zm @OJ (Zm @TR (Zm @TK (Zm @OE (Zm @TB (Zm @TM (Zm @TJ (Zm @TI (Zm @OI (Zm @OD (Zm @XT (Zm @TP (Zm @TN (Zm @OM (Zm @OL (Zm @U3 (Zm @PK (Zm @Ve (Zm @Vf (Zm @U1 (Zm @PL (Zm @U7 (Zm @U2 (Zm @LD (Zm @Vb (Zm @LC (Zm @PO (Zm @Vd (Zm @U6 (Zm @PI (Zm @U0 (Zm @U8 (Zm @U5 (Zm @U4 (Zm @PN (Zm @PG (Zm @XZ (Zm @Va (Zm @U9 (Zm @PV (Zm @PU (Zm @PS (Zm @dQ (@dR))))))))))))))))))))))))))))))))))))))))))))))))))))))):=Zm @TG (Zm @OG (Zm @TS (Zm @TT (Zm @TD (Zm @OH (Zm @TL (Zm @TF (Zm @JA (Zm @TQ (Zm @Jz (Zm @OJ (Zm @TR (Zm @TK (Zm @OE (Zm @TB (Zm @TM (Zm @TJ (Zm @TI (Zm @OI (Zm @OD (Zm @XT (Zm @TP (Zm @TN (Zm @OM (Zm @OL (Zm @U3 (Zm @PK (Zm @Ve (Zm @Vf (Zm @U1 (Zm @PL (Zm @U7 (Zm @U2 (Zm @LD (Zm @Vb (Zm @LC (Zm @PO (Zm @Vd (Zm @U6 (Zm @PI (Zm @U0 (Zm @U8 (Zm @U5 (Zm @U4 (Zm @PN (Zm @PG (Zm @XZ (Zm @Va (Zm @U9 (Zm @PV (Zm @PU (Zm @PS (Zm @dQ (@dR))))))))))))))))))))))))))))))))))))))))))))))))))))))
theorem pkR :type_of% (Zm @Sm (Zm @Sv (Zm @Sr (Zm @Hu (Zm @Jq (Zm @SB (Zm @Sz (@SA)))))))):=Zm @Sm (Zm @Sv (Zm @Sr (Zm @Hu (Zm @Jq (Zm @SB (Zm @Sz (@SA)))))))
def AC.ren(pk:List Nat):AC→AC
 | .own k i=> .own (pk.getD k 0) i
 | .osub k i a b=> .osub (pk.getD k 0) i a b
 |x=>x
def AV.ren(pk:List Nat):AV→AV
 | .c g xs=> .c g (xs.map (AC.ren pk))
 | .ptr xs=> .ptr (xs.map (AC.ren pk))
 | .eptr k i j off=> .eptr (pk.getD k 0) i j off
 | .tup ys=> .tup (ys.map fun y=>(y.1,y.2.map (AC.ren pk)))
 |x=>x
def GX(pk:List Nat)(n m:Nat):List AV→List AV→Prop
 | [],[]=>True
 |x::xs,y::ys=>(y= .any∨(x=y.ren pk∧y.fits n m=true))∧GX pk n m xs ys
 |_,_=>False
def I5(os:List Own):List Nat→List Own→Prop
 | [],[]=>True
 |k::pk,o'::os'=>(match os[k]? with|some o=>o.l=o'.l∧o.e=o'.e∧o.s=o'.s∧o.ver=o'.ver∧o.nw=o'.nw|none=>False)∧I5 os pk os'
 |_,_=>False
def zG(pk:List Nat):List (List AC)→List (List AC)→Prop
 |_,[]=>True
 |x::xs,y::ys=>x=y.map (AC.ren pk)∧zG pk xs ys
 | [],_::_=>False
def GR(pk:List Nat)(st st':St):Prop:=pk.Nodup∧GX pk st'.owns.length st'.boxes.length st.fr st'.fr∧I5 st.owns pk st'.owns∧zG pk st.boxes st'.boxes∧(st'.boxes.all fun xs=>xs.all (AC.fits st'.owns.length st'.boxes.length))=true
theorem CU{os:List Own}:∀{pk:List Nat} {os':List Own},I5 os pk os'→pk.length=os'.length∧∀(j:Nat) (o':Own),os'[j]? =some o'→∃k,pk[j]? =some k∧os[k]? =some o'
 | [],[],_=>⟨rfl,fun j o' h=>by simp at h⟩
 | k ::pk,o'::os',h=>by
   obtain⟨h1,h2⟩:=CU h.2;refine⟨by simp[h1],fun j o'' g=> ?_⟩;cases j with
   | zero=>
     simp at g;subst g;have h3:=h.1;split at h3
     ·next o ho=>
      refine⟨k,rfl, ?_⟩;rw[ho];congr 1;cases o;cases o';simp_all
     ·exact h3.elim
   |succ j=>simpa using h2 j o'' (by simpa using g)
 | [],_::_,h=>h.elim
 |_::_,[],h=>h.elim
theorem EC{pk:List Nat}:∀{xs ys:List (List AC)},zG pk xs ys→ys.length≤xs.length∧∀(j:Nat) (y:List AC),ys[j]? =some y→xs[j]? =some (y.map (AC.ren pk))
 |xs,[],_=>⟨w_ _,fun j y h=>by simp at h⟩
 | x::xs,y::ys,h=>by
   obtain⟨h1,h2⟩:=EC h.2;refine⟨by simp;exact h1,fun j z g=> ?_⟩;cases j with
   |zero=>simp at g;subst g;simp[h.1]
   |succ j=>simpa using h2 j z (by simpa using g)
 | [],_::_,h=>h.elim
theorem Gq{pk:List Nat}{n m:Nat}:∀{xs ys:List AV},GX pk n m xs ys→xs.length=ys.length∧∀(t:Nat) (y:AV),ys[t]? =some y→y= .any∨(xs[t]? =some (y.ren pk)∧y.fits n m=true)
 | [],[],_=>⟨rfl,fun t y h=>by simp at h⟩
 | x ::xs,y::ys,h=>by
   obtain⟨h1,h2⟩:=Gq h.2;refine⟨by simp[h1],fun t z hz=> ?_⟩;cases t with
   | zero=>
     simp at hz;subst hz;rcases h.1 with h'|⟨h',h''⟩
     ·exact t_ h'
     ·exact o_ ⟨by simp[h'],h''⟩
   |succ t=>simpa using h2 t z (by simpa using hz)
 | [],_::_,h=>h.elim
 |_::_,[],h=>h.elim
def Env.pick(E:Env)(pk:List Nat)(m:Nat):Env:={E with om:=pk.map fun k=>E.om.getD k (undef,[]),bm:=E.bm.take m}
theorem Lm :∀(L:List (Value×List Nat)) (i j:Nat) (p q:Value×List Nat) (b:Nat),(L.flatMap (fun p=>p.1.ownBlock.toList)).Nodup→L[i]? =some p→L[j]? =some q→p.1.ownBlock=some b→q.1.ownBlock=some b→i=j:=by
 intro L
 induction L with
 |nil=>intro i j p q b _ hi;simp at hi
 | cons z L ih=>
   intro i j p q b hn hi hj hpb hqb;rw[F_,l_]at hn;cases i with
   | zero=>
     cases j with
     |zero=>rfl
     | succ j=>
       simp at hi hj;subst hi;exact absurd rfl (hn.2.2 b (by simp[hpb]) b (j_.2 ⟨q,f_ hj,by simp[hqb]⟩))
   | succ i=>
     cases j with
     | zero=>
       simp at hi hj;subst hj;exact absurd rfl (hn.2.2 b (by simp[hqb]) b (j_.2 ⟨p,f_ hi,by simp[hpb]⟩))
     | succ j=>
       simp at hi hj;rw[ih i j p q b hn.2.1 hi hj hpb hqb]
theorem CP{L:List (Value×List Nat)}{pk:List Nat}(hlt:∀k∈pk,k<L.length){b:Nat}(hb:b∈(pk.map fun k=>L.getD k (undef,[])).flatMap fun p=>p.1.ownBlock.toList):∃k∈pk,∃p,L[k]? =some p∧p.1.ownBlock=some b:=by
 obtain⟨q,hq,hqb⟩:=j_.1 hb;obtain⟨k,hk,rfl⟩:=g_.1 hq;have hkl:=hlt k hk;rw[c_,a_ hkl]at hqb;exact⟨k,hk,L[k],a_ hkl,by simpa using hqb⟩
theorem wz{L:List (Value×List Nat)}(hL:(L.flatMap (fun p=>p.1.ownBlock.toList)).Nodup):∀{pk:List Nat},pk.Nodup→(∀k∈pk,k<L.length)→((pk.map fun k=>L.getD k (undef,[])).flatMap fun p=>p.1.ownBlock.toList).Nodup
 | [],_,_=>H_
 | k::pk,hn,hlt=>by
   rw[a_n]at hn;rw[J_,F_,l_];refine⟨by cases(L.getD k (undef,[])).1.ownBlock<;>simp,wz hL hn.2 (fun j hj=>hlt j (by simp[hj])),fun x hx y hy e=> ?_⟩;subst e;obtain⟨j,hj,p,g1,g2⟩:=CP (fun j hj=>hlt j (by simp[hj])) hy;have hkl:=hlt k (by simp);rw[c_,a_ hkl]at hx;have:=Lm L k j L[k] p x hL (a_ hkl) g1 (by simpa using hx) g2;subst this;exact hn.1 hj
section
variable{B:Nat}{Xs:List Nat}{G:Org}{w0:World}{st st':St}{E:Env}{a:Act}{w:World}{pk:List Nat}{m:Nat}{os os':List Own}
theorem HY(hlt:∀k∈pk,k<E.om.length){b:Nat}(h:b∈(E.pick pk m).M):b∈E.M:=by
 unfold Env.M at h⊢;rcases p_.1 h with h|h
 ·refine A_ _ ?_;exact((x_ m E.bm).map _).subset h
 ·refine y_ _ ?_;obtain⟨k,hk,p,g1,g2⟩:=CP hlt h;exact j_.2 ⟨p,f_ g1,by simp[g2]⟩
theorem vG{j k:Nat}(hk:pk[j]? =some k){p:Value×List Nat}(hp:E.om[k]? =some p):(E.pick pk m).om[j]? =some p:=by
 simp only[Env.pick,u_,hk,R_,c_,hp,k_]
theorem AC.ok.pick(hlt:∀k∈pk,k<E.om.length)(hl:pk.length=os'.length)(ho:∀(j:Nat) (o':Own),os'[j]? =some o'→∃k,pk[j]? =some k∧os[k]? =some o'){x:AC}{v:Value}(h:(x.ren pk).ok E os w v)(hf:x.fits os'.length m=true):x.ok (E.pick pk m) os' w v:=by
 cases x with
 |any=>trivial
 |raw u=>exact h
 | cl f caps=>
   obtain⟨ps,h1,h2⟩:=h;refine⟨ps, ?_,h2⟩;rw[← h1];refine W_ fun k hk=> ?_
   have:k<m:=by simpa using v_.1 hf k hk
   simp only[Env.pick];rw[d_,if_pos this]
 | sl b l=>
   obtain⟨fp,h1,h2⟩:=h;exact⟨fp,h1,fun b hb=>⟨fun hm=>(h2 b hb).1 (HY hlt hm),(h2 b hb).2⟩⟩
 | own k i=>
   obtain⟨hv,o,p,h1,h2,h3,h4⟩:=h;have hk:k<os'.length:=by simpa[AC.fits]using hf
   obtain⟨k0,g1,g2⟩:=ho k _ (a_ hk);have e:pk.getD k 0=k0:=by rw[c_,g1];rfl
   rw[e]at h1 h2;rw[h1]at g2;injection g2 with g2
   exact⟨hv,o,p,by rw[a_ hk,← g2],vG g1 h2,h3,h4⟩
 | osub k i pa pb=>
   obtain⟨hv,o,p,h1,h2,h3,h4⟩:=h;have hk:k<os'.length:=by simpa[AC.fits]using hf
   obtain⟨k0,g1,g2⟩:=ho k _ (a_ hk);have e:pk.getD k 0=k0:=by rw[c_,g1];rfl
   rw[e]at h1 h2;rw[h1]at g2;injection g2 with g2
   exact⟨hv,o,p,by rw[a_ hk,← g2],vG g1 h2,h3,h4⟩
theorem Oks.pick(hlt:∀k∈pk,k<E.om.length)(hl:pk.length=os'.length)(ho:∀(j:Nat) (o':Own),os'[j]? =some o'→∃k,pk[j]? =some k∧os[k]? =some o'):∀{xs:List AC} {vs:List Value},Oks E os w (xs.map (AC.ren pk)) vs→xs.all (AC.fits os'.length m)=true→Oks (E.pick pk m) os' w xs vs
 | [],[],_,_=>trivial
 | x::xs,v::vs,h,hf=>by
   simp only[n_,e_]at hf;exact⟨AC.ok.pick hlt hl ho h.1 hf.1,Oks.pick hlt hl ho h.2 hf.2⟩
 | [],_::_,h,_=>h.elim
 |_::_,[],h,_=>h.elim
theorem Gok.pick(hlt:∀k∈pk,k<E.om.length)(hl:pk.length=os'.length)(ho:∀(j:Nat) (o':Own),os'[j]? =some o'→∃k,pk[j]? =some k∧os[k]? =some o'){g:Bool}{xs:List AC}{v:Value}(h:Gok E os w g (xs.map (AC.ren pk)) v)(hf:xs.all (AC.fits os'.length m)=true):Gok (E.pick pk m) os' w g xs v:=by
 cases g with
 |true=>obtain⟨vs,h1,h2⟩:=h;exact⟨vs,h1,h2.pick hlt hl ho hf⟩
 |false=>exact Oks.pick hlt hl ho (show Oks _ _ _ _ [v] from h) hf
theorem qW.pick(hlt:∀k∈pk,k<E.om.length)(hl:pk.length=os'.length)(ho:∀(j:Nat) (o':Own),os'[j]? =some o'→∃k,pk[j]? =some k∧os[k]? =some o'):∀{ys:List (Bool×List AC)} {vs:List Value},qW E os w (ys.map fun y=>(y.1,y.2.map (AC.ren pk))) vs→(ys.all fun y=>y.2.all (AC.fits os'.length m))=true→qW (E.pick pk m) os' w ys vs
 | [],[],_,_=>trivial
 | y::ys,v::vs,h,hf=>by
   simp only[n_,e_]at hf;exact⟨Gok.pick hlt hl ho h.1 hf.1,qW.pick hlt hl ho h.2 hf.2⟩
 | [],_::_,h,_=>h.elim
 |_::_,[],h,_=>h.elim
theorem AV.ok.pick(hlt:∀k∈pk,k<E.om.length)(hl:pk.length=os'.length)(ho:∀(j:Nat) (o':Own),os'[j]? =some o'→∃k,pk[j]? =some k∧os[k]? =some o'){x:AV}{v:Value}(h:(x.ren pk).ok E os w v)(hf:x.fits os'.length m=true):x.ok (E.pick pk m) os' w v:=by
 cases x with
 |any=>trivial
 |c g xs=>exact Gok.pick hlt hl ho h hf
 | ptr xs=>
   obtain⟨b,o,vs,h1,h2,h3,h4,h5⟩:=h;exact⟨b,o,vs,h1,h2,fun hm=>h3 (HY hlt hm),h4,h5.pick hlt hl ho hf⟩
 | bptr k off=>
   obtain⟨p,h1,h2⟩:=h;refine⟨p, ?_,h2⟩;simp only[Env.pick];rw[d_,if_pos (by simpa[AV.fits]using hf)];exact h1
 | eptr k i j off=>
   obtain⟨o,p,h1,h2,h3,h4⟩:=h;have hk:k<os'.length:=by simpa[AV.fits]using hf
   obtain⟨k0,g1,g2⟩:=ho k _ (a_ hk);have e:pk.getD k 0=k0:=by rw[c_,g1];rfl
   rw[e]at h1 h2;rw[h1]at g2;injection g2 with g2
   exact⟨o,p,by rw[a_ hk,← g2],vG g1 h2,h3,h4⟩
 | tup ys=>
   obtain⟨vs,h1,h2⟩:=h;exact⟨vs,h1,h2.pick hlt hl ho hf⟩
theorem Rel.XL(h:Rel B Xs G w0 st E a w)(hle:GR pk st st')(hG1:G.os.length=0)(hG2:G.E.bm.length≤st'.boxes.length):∃E',Rel B Xs G w0 st' E' a w:=by
 obtain⟨hnd,h1,h2,h3,h4⟩:=hle;obtain⟨hl,hf⟩:=Gq h1;obtain⟨hpl,ho⟩:=CU h2;obtain⟨hbl,hb⟩:=EC h3;have hol:=h.olen;have hbl':=h.blen;have hlt:∀k∈pk,k<E.om.length:=fun k hk=>by
  obtain⟨j,hj⟩:=z_.1 hk;have hjl:j<st'.owns.length:=by rw[← hpl];exact(b_.1 hj).1
  obtain⟨k',g1,g2⟩:=ho j _ (a_ hjl);rw[hj]at g1;injection g1 with g1
  subst g1;rw[hol];exact(b_.1 g2).1
 have hnil:G.os= []:=List.eq_nil_of_length_eq_zero hG1;refine⟨E.pick pk st'.boxes.length, ?_⟩;exact
  { eb :=h.eb
    ex:=h.ex
    sim := { base:=h.sim.base,size:=h.sim.size,blk:=h.sim.blk,old:=fun b hb hm=>h.sim.old b hb (HY hlt hm),
             own:=fun k o p g1 g2=>by rw[hnil]at g1;simp at g1
             box:=fun k p g=>by
              have hk:k<st'.boxes.length:=C_ (b_.1 g).1 hG2;simp only[Env.pick];rw[d_,if_pos hk];exact h.sim.box k p g}
    defers:=h.defers
    size:=by rw[h.size];exact hl
    fr:=fun t y hy=>by
     rcases hf t y hy with rfl|⟨h5,h6⟩
     ·trivial
     ·exact AV.ok.pick hlt hpl ho (h.fr t _ h5) h6
    olen:=by simp only[Env.pick,B_];exact hpl
    own:=fun k o p g1 g2=>by
     obtain⟨k0,q1,q2⟩:=ho k o g1;have hk0:k0<E.om.length:=hlt k0 (f_ q1);have hp:E.om[k0]? =some p:=by
      have:=vG (m:=st'.boxes.length) q1 (a_ hk0);rw[this]at g2;rw[a_ hk0];exact g2
     obtain⟨cs,h5,h6,h7,h8⟩:=h.own k0 o p q2 hp;exact⟨cs,h5,h6,h7,fun b hb=>⟨fun hm=>(h8 b hb).1 (HY hlt hm),(h8 b hb).2⟩⟩
    blen:=by simp only[Env.pick,M_];omega
    box:=fun k xs p g1 g2=>by
     have hk:k<st'.boxes.length:=(b_.1 g1).1;simp only[Env.pick]at g2;rw[d_,if_pos hk]at g2;obtain⟨h5,vs,h6,h7⟩:=h.box k _ p (hb k xs g1) g2;exact⟨h5,vs,h6,h7.pick hlt hpl ho (v_.1 h4 xs (f_ g1))⟩
    nodup:=by
     have:=h.nodup;unfold Env.M at this⊢;rw[l_]at this⊢;refine⟨this.1.sublist (by simp only[Env.pick];exact(x_ _ _).map _),wz this.2.1 hnd hlt,fun x hx y hy=> ?_⟩;refine this.2.2 x ?_ y ?_
     ·exact((x_ st'.boxes.length E.bm).map _).subset hx
     ·obtain⟨k,hk,p,g1,g2⟩:=CP hlt hy;exact j_.2 ⟨p,f_ g1,by simp[g2]⟩
    lin:=by
     have hpl':pk.length=st'.owns.length:=hpl;refine h.lin.map (fun j=>pk.getD j 0) (fun i j hij hi hj e=>hij ?_) fun j o p g1 g2 g3=> ?_
     ·have hi':i<pk.length:=by omega
      have hj':j<pk.length:=by omega
      simp only[c_,a_ hi',a_ hj',k_]at e;exact(a_k hnd).1 e
     ·obtain⟨k0,q1,q2⟩:=ho j o g1;have hk0:k0<E.om.length:=hlt k0 (f_ q1);have hp:E.om[k0]? =some p:=by
       have:=vG (m:=st'.boxes.length) q1 (a_ hk0);rw[this]at g2;rw[a_ hk0];exact g2
      refine o_ ⟨o, ?_, ?_,g3⟩
      ·rw[c_,q1];exact q2
      ·rw[c_,q1];exact hp
    unf:=by
     refine h.unf.map (fun j=>pk.getD j 0) fun j o p g1 g2 g3=> ?_
     obtain⟨k0,q1,q2⟩:=ho j o g1;have hk0:k0<E.om.length:=hlt k0 (f_ q1);have hp:E.om[k0]? =some p:=by
      have:=vG (m:=st'.boxes.length) q1 (a_ hk0);rw[this]at g2;rw[a_ hk0];exact g2
     refine o_ ⟨o, ?_, ?_,g3⟩
     ·rw[c_,q1];exact q2
     ·rw[c_,q1];exact hp
    below:=h.below
    base:=h.base}
end
def yI{X:Type}(F:X→St)(inv:X→Prop)(μ:X→Nat)(x:X)(Q:Exit→St→Prop):Exit→St→Prop
 | .normal,st=>∃x' pk,GR pk st (F x')∧inv x'∧μ x'<μ x
 |e,st=>Q e st
section
variable{P:Program}{Q:Exit→St→Prop}{st:St}{i:Nat}
theorem bn{X:Type}{F:X→St}{inv:X→Prop}{μ:X→Nat}{x:X}(h:Q (.exit i) st):yI F inv μ x Q (.exit i) st:=h
theorem bC{X:Type}{F:X→St}{inv:X→Prop}{μ:X→Nat}{x:X}(h:Q .ret st):yI F inv μ x Q .ret st:=h
theorem SC{X:Type}{F:X→St}{inv:X→Prop}{μ:X→Nat}{x:X}(x':X)(pk:List Nat)(h1:GR pk st (F x'))(h2:inv x')(h3:μ x'<μ x):yI F inv μ x Q .normal st:=⟨x',pk,h1,h2,h3⟩
end
def I7(os:List Own)(pk:List Nat):AC→AC→Prop
 |_,.any=>True
 | .raw v,.raw u=>v=u
 | .raw v,.sl m l=>m=true∧v= .slice none 0 0∧l= []
 | .sl n l,.sl m l'=>n=true∧m=true∧l=l'
 | .own k i,.sl m l=>m=true∧k∉pk∧∃o,os[k]? =some o∧o.ver=i∧o.l=l∧(o.nw.n=true∨lV l)
 | .own k i,.own j z=>pk[j]? =some k∧z=0∧∃o,os[k]? =some o∧o.ver=i
 |_,_=>False
def qC(os:List Own)(pk:List Nat):List AC→List AC→Prop
 | [],[]=>True
 |x::xs,y::ys=>I7 os pk x y∧qC os pk xs ys
 |_,_=>False
def VW(pk:List Nat)(r:ResultVar)(g:Bool)(ys:List AC)(st:St):Prop:=match r with
 | .tmp t=>∃xs,st.fr.getD t .any= .c g xs∧qC st.owns pk xs ys
 | .cell t _=>∃k xs,st.fr.getD t .any= .bptr k 0∧st.boxes[k]? =some xs∧qC st.owns pk xs ys
theorem yC{os:List Own}{pk:List Nat}:∀{xs ys:List AC},qC os pk xs ys→xs.length=ys.length
 | [],[],_=>rfl
 |x::xs,y::ys,h=>by rw[q_,q_,yC h.2]
 | [],_::_,h=>h.elim
 |_::_,[],h=>h.elim
section
variable{B H:Nat}{X:List Nat}{bm0:List (Nat×TypeId)}{G:Org}{w0:World}{st:St}{E:Env}{a:Act}{w:World}{pk:List Nat}{os':List Own}
structure OutAt (B H:Nat) (X:List Nat) (bm0:List (Nat×TypeId)) (E:Env) (pk:List Nat) (os:List Own) (os':List Own):Prop where
 nw:∀x,E.nw x→H≤x∨x∈X
 own:∀(k:Nat) (p:Value×List Nat) (x:Nat),E.om[k]? =some p→p.1.ownBlock=some x→H≤x
 bm:∀q:Nat×TypeId,q∈bm0→∃k':Nat,E.bm[k']? =some q
 get:∀(j k:Nat),pk[j]? =some k→∃o',os'[j]? =some o'
 lt:∀k∈pk,k<E.om.length
theorem OT(hA:OutAt B H X bm0 E pk st.owns os'){x:Nat}(hx:x∈(⟨H,nC E pk,bm0,X⟩:Env).M):x∈E.M∧((∃q∈bm0,q.1=x)∨∃k∈pk,∃p,E.om[k]? =some p∧p.1.ownBlock=some x):=by
 unfold Env.M at hx;simp only at hx;rcases p_.1 hx with hx|hx
 ·obtain⟨q,hq,rfl⟩:=g_.1 hx;obtain⟨k',hk'⟩:=hA.bm q hq;exact⟨jy.2 (t_ ⟨k',q,hk',rfl⟩),t_ ⟨q,hq,rfl⟩⟩
 ·obtain⟨q,hq,hqb⟩:=j_.1 hx;unfold nC at hq;obtain⟨k,hk,rfl⟩:=g_.1 hq;have hlt:=hA.lt k hk;rw[c_,a_ hlt]at hqb;have hb:(E.om[k]).1.ownBlock=some x:=by simpa using hqb
  exact⟨jy.2 (o_ ⟨k,_,a_ hlt,hb⟩),o_ ⟨k,hk,_,a_ hlt,hb⟩⟩
theorem BQ(h:Rel B X G w0 st E a w){k k':Nat}{q:Nat×TypeId}{p:Value×List Nat}{x:Nat}(h1:E.bm[k]? =some q)(h2:E.om[k']? =some p)(h3:p.1.ownBlock=some x):q.1≠x:=by
 intro e;have hn:=h.nodup;unfold Env.M at hn;rw[l_]at hn;exact hn.2.2 q.1 (g_.2 ⟨q,f_ h1,rfl⟩) x (j_.2 ⟨p,f_ h2,by simpa using h3⟩) e
theorem Ak(h:Rel B X G w0 st E a w){i j:Nat}{p q:Value×List Nat}{b:Nat}(hi:E.om[i]? =some p)(hj:E.om[j]? =some q)(hp:p.1.ownBlock=some b)(hq:q.1.ownBlock=some b):i=j:=by
 have hn:=h.nodup;unfold Env.M at hn;rw[l_]at hn;exact Lm _ i j p q b hn.2.1 hi hj hp hq
theorem wV(h:Rel B X G w0 st E a w)(hA:OutAt B H X bm0 E pk st.owns os'){x y:AC}{v:Value}(hf:I7 st.owns pk x y)(hx:x.ok E st.owns w v):y.ok ⟨H,nC E pk,bm0,X⟩ os' w v:=by
 have hmem:∀x,x∉E.M→x∉(⟨H,nC E pk,bm0,X⟩:Env).M:=fun x hx hm=>hx (OT hA hm).1
 cases y with
 |any=>trivial
 | raw u=>cases x with
   |raw v'=>obtain rfl:=hf;exact hx
   |_=>exact hf.elim
 | sl n l=>cases x with
   | sl n' l'=>
     obtain⟨rfl,rfl,rfl⟩:=hf;obtain⟨fp,h1,h2⟩:=hx;exact⟨fp,h1,fun b hb=>⟨hmem b (h2 b hb).1,fun _=>hA.nw b ((h2 b hb).2 rfl)⟩⟩
   | own k i=>
     obtain⟨rfl,hk,o,h1,h2,rfl,h3⟩:=hf;obtain⟨_,o',p,g1,g2,g3,g4⟩:=hx;rw[h1]at g1;injection g1 with g1
     subst g1;obtain rfl:=g4 h2;obtain⟨cs,h5,h6,h7,h8⟩:=h.own k o p h1 g2;refine⟨_,Sl.mO h5 h6,fun b hb=> ?_⟩;rcases p_.1 hb with hb|hb
     ·have hb':p.1.ownBlock=some b:=by simpa using hb
      refine⟨fun hm=> ?_,fun _=>t_ (hA.own k p b g2 hb')⟩;rcases(OT hA hm).2 with⟨q,hq,e⟩|⟨k',hk',p',g5,g6⟩
      ·obtain⟨k',hk'⟩:=hA.bm q hq;exact BQ h hk' g2 hb' e
      ·exact hk (Ak h g2 g5 hb' g6▸hk')
     ·refine⟨hmem b (h8 b hb).1,fun _=> ?_⟩;rcases h3 with h3|h3
      ·exact hA.nw b ((h8 b hb).2 h3)
      ·rw[h3 _ _ _ h6]at hb;simp at hb
   | raw v'=>
     obtain⟨rfl,rfl,rfl⟩:=hf;obtain rfl:=hx;exact⟨[],Sl.mO (l:= []) (fp:= []) (base:=0) (e:=0) (s:=0) (v:= .slice none 0 0) eX.nil ⟨rfl,rfl⟩,fun b hb=>by simp at hb⟩
   |any=>exact hf.elim
   |osub _ _ _ _=>exact hf.elim
   |cl _ _=>exact hf.elim
 |osub _ _ _ _=>cases x<;>exact hf.elim
 | own j z=>cases x with
   | own k i=>
     obtain⟨hj,rfl,o,h1,h2⟩:=hf;obtain⟨hv,o',p,g1,g2,g3,g4⟩:=hx;rw[h1]at g1;injection g1 with g1
     subst g1;obtain⟨o2,q1⟩:=hA.get j k hj;refine⟨hv,o2,p,q1, ?_,w_ _,fun _=>g4 h2⟩;rw[uj hj,c_,g2];rfl
   |_=>exact hf.elim
 |cl f caps=>cases x<;>exact hf.elim
theorem qQ(h:Rel B X G w0 st E a w)(hA:OutAt B H X bm0 E pk st.owns os'):∀{xs ys:List AC} {vs:List Value},qC st.owns pk xs ys→Oks E st.owns w xs vs→Oks ⟨H,nC E pk,bm0,X⟩ os' w ys vs
 | [],[],[],_,_=>trivial
 |x::xs,y::ys,v::vs,hf,hx=>⟨wV h hA hf.1 hx.1,qQ h hA hf.2 hx.2⟩
 | [],[],_::_,_,hx=>hx.elim
 |_::_,_::_,[],_,hx=>hx.elim
 | [],_::_,_,hf,_=>hf.elim
 |_::_,[],_,hf,_=>hf.elim
theorem Ef{P:Program}(h:Rel B X G w0 st E a w)(hA:OutAt B H X bm0 E pk st.owns os'){r:ResultVar}{g:Bool}{ys:List AC}(hp:iZ P r g ys.length=true)(hf:VW pk r g ys st):
 ∃v,(jI r a.tmps).run P w= .ok v w∧Gok ⟨H,nC E pk,bm0,X⟩ os' w g ys v:=by
 cases r with
 | tmp t=>
   obtain⟨xs,h1,h2⟩:=hf;refine⟨_,rfl, ?_⟩;have hx:=sG h h1;cases g with
   |true=>obtain⟨vs,h3,h4⟩:=hx;exact⟨vs,h3,qQ h hA h2 h4⟩
   |false=>exact qQ h hA h2 (show Oks E st.owns w xs [_] from hx)
 | cell t ty=>
   obtain⟨k,xs,h1,h2,h3⟩:=hf;obtain⟨p,h4,h5⟩:=sG h h1;obtain⟨_,vs,h6,h7⟩:=h.box k xs p h2 h4;simp only[iZ,e_,tY]at hp;obtain⟨rfl,hp⟩:=hp;split at hp
   ·next i d hi hd=>
    simp only[e_,beq_iff_eq]at hp;have hlen:vs.length=i.size:=by rw[← h7.len,yC h3,hp.1]
    refine⟨.agg vs.toArray, ?_,vs,rfl,qQ h hA h3 h7⟩;simp only[jI];rw[h5];have:=run_loadVar_row (P:=P) w p.1 p.2 ty vs.toArray (0,0) d h6 hd (by have:=hp.2;cases d<;>simp_all [nG]) (by rw[hi];simp[hlen]);simp[asAddr,this]
   ·cases hp
def MI(os:List Own):List Nat→List Own→Prop
 | [],[]=>True
 |k::pk,o'::os'=>(∃o,os[k]? =some o∧o'=⟨o.l,o.e,o.s,0,⟨true,true⟩⟩∧lV o.l)∧MI os pk os'
 |_,_=>False
theorem xC{os:List Own}:∀{pk:List Nat} {os':List Own},MI os pk os'→o9 os pk os'
 | [],[],_=>trivial
 | k::pk,o'::os',h=>by
   obtain⟨⟨o,h1,rfl,h3⟩,h4⟩:=h;exact⟨⟨o,h1,rfl,o_ h3⟩,xC h4⟩
 | [],_::_,h=>h.elim
 |_::_,[],h=>h.elim
theorem FZ{os:List Own}:∀{pk:List Nat} {os':List Own},MI os pk os'→∀(j k:Nat) (o':Own),pk[j]? =some k→os'[j]? =some o'→∃o,os[k]? =some o∧o'=⟨o.l,o.e,o.s,0,⟨true,true⟩⟩∧lV o.l
 | [],[],_,j,k,o',h1,_=>by simp at h1
 | k::pk,o'::os',h,0,k',o2,h1,h2=>by
   simp at h1 h2;subst h1 h2;exact h.1
 |k::pk,o'::os',h,j+1,k',o2,h1,h2=>FZ h.2 j k' o2 (by simpa using h1) (by simpa using h2)
 | [],_::_,h,_,_,_,_,_=>h.elim
 |_::_,[],h,_,_,_,_,_=>h.elim
theorem Qx{w:World}{base base' e s:Nat}{v:Value}{n:Nat}{cs:List Value}(h:eX w base e s v n cs)(hb:∀x,v.ownBlock=some x→base'≤x):eX w base' e s v n cs:=by
 refine⟨h.1, ?_⟩;rcases h.2 with h2|⟨g,z,cap,cur,rfl,hb',r⟩
 ·exact t_ h2
 ·exact o_ ⟨g,z,cap,cur,rfl,hb g rfl,r⟩
theorem JB{L:List (Value×List Nat)}(hn:(L.flatMap fun q=>q.1.ownBlock.toList).Nodup):∀{pk:List Nat},pk.Nodup→(∀k∈pk,k<L.length)→((pk.map fun k=>L.getD k (undef,[])).flatMap fun q=>q.1.ownBlock.toList).Nodup:=fun hnd hlt=>wz hn hnd hlt
theorem zQ(h:Rel B X G w0 st E a w)(hO:∀(k:Nat) (p:Value×List Nat) (x:Nat),E.om[k]? =some p→p.1.ownBlock=some x→H≤x)(ho:MI st.owns pk os')(hnd:pk.Nodup):tC H w (nC E pk) os':=by
 obtain⟨l1,l2⟩:=oJ (xC ho);have hlt:∀k∈pk,k<E.om.length:=fun k hk=>by
  obtain⟨j,hj⟩:=z_.1 hk;have hj':j<os'.length:=by rw[← l1];exact(b_.1 hj).1
  obtain⟨o2,q1,_⟩:=l2 j k _ hj (a_ hj');rw[h.olen];exact(b_.1 q1).1
 have hn:=h.nodup;unfold Env.M at hn;rw[l_]at hn;have hget:∀(j:Nat) (o':Own) (p:Value×List Nat),os'[j]? =some o'→(nC E pk)[j]? =some p→∃k o,pk[j]? =some k∧st.owns[k]? =some o∧E.om[k]? =some p∧o'=⟨o.l,o.e,o.s,0,⟨true,true⟩⟩∧lV o.l:=by
  intro j o' p h1 h2;have hj:j<pk.length:=by rw[l1];exact(b_.1 h1).1
  obtain⟨o,q1,q2,q3⟩:=FZ ho j pk[j] o' (a_ hj) h1;refine⟨pk[j],o,a_ hj,q1, ?_,q2,q3⟩;rw[uj (a_ hj),c_,a_ (hlt _ (a_m hj))]at h2;simp only[k_]at h2;rw[a_ (hlt _ (a_m hj))];exact h2
 have hnil:∀(j:Nat) (o':Own) (p:Value×List Nat),os'[j]? =some o'→(nC E pk)[j]? =some p→p.2= []:=by
  intro j o' p h1 h2;obtain⟨k,o,_,g2,g3,rfl,g5⟩:=hget j o' p h1 h2;obtain⟨cs,_,h6,_⟩:=h.own k o p g2 g3;exact g5 _ _ _ h6
 refine⟨by unfold nC;rw[B_];exact l1,fun j o' p h1 h2=> ?_,JB hn.2.1 hnd hlt,⟨fun j o' p h1 h2 _=>by rw[hnil j o' p h1 h2];exact H_,fun i j o1 o2 p1 p2 _ h1 _ h2 _ _ _ b hb=>by rw[hnil i o1 p1 h1 h2]at hb;simp at hb⟩,fun j o' p h1 h2 _ b hb=>by rw[hnil j o' p h1 h2]at hb;simp at hb⟩;have hn2:=hnil j o' p h1 h2;obtain⟨k,o,_,g2,g3,rfl,g5⟩:=hget j o' p h1 h2;obtain⟨cs,h5,h6,h7,h8⟩:=h.own k o p g2 g3;exact⟨cs,Qx h5 (fun x hx=>hO k p x g3 hx),h6,h7,fun b hb=>by rw[hn2]at hb;simp at hb⟩
end
section
variable{P:Program}{f:Nat}{fn:Func}{code:Code}{ic:IC}{ds:List D}
def ES(P:Program)(r:ResultVar)(post:AV→List Own→List AC→Prop)(st:St):Prop:=
 ∃(g:Bool) (ys:List AC) (os':List Own) (c':List AC) (pk:List Nat),post (.c g ys) os' c'∧ys.all AC.sW=true∧st.boxes[0]? =some c'∧c'.all AC.cur=true∧pk.Nodup∧MI st.owns pk os'∧iZ P r g ys.length=true∧VW pk r g ys st
theorem jK{c:List AC}{r:ResultVar}{post:AV→List Own→List AC→Prop}(hf:P.funcs[f]? =some fn:=by kernel_rfl)(hb:fn.body=some code:=by kernel_rfl)(hr:fn.results= #[r]:=by kernel_rfl)(hc:bg P code=some ic)
 (h:iK (0,1) P ic (qX (ES P r post)) (stS fn.ntmps (.bptr 0 0::ds.map D.av) [] [c])):iq P f ds c post:=by
 intro w b ty us vs X hT hX hrow hok hav;have hbH:b<w.heap.size:=hrow.lt;have hR0:Rel b X ⟨⟨w.heap.size,[],[(b,ty)],X⟩,[],w⟩ w ⟨[],[],[c]⟩ ⟨w.heap.size,[],[(b,ty)],X⟩ {tmps:= #[],defers:= []} w:=
  { eb :=Nat.le_of_lt hbH,ex:=rfl,sim:=Sim.refl _ _ _,defers:=rfl,size:=rfl,fr:=fun t y hy=>by simp at hy,olen:=rfl,own:=fun k o p g1 g2=>by simp at g1,blen:=rfl,
    box:=fun k xs p g1 g2=>by
     cases k with
     | zero=>
       simp at g1 g2;subst g1 g2;exact⟨Nat.le_refl _,us,hrow,hok⟩
     |succ k=>simp at g1
    nodup:=by simp[Env.M],lin:=⟨fun k o p g1=>by simp at g1,fun j k o o' p p' _ g1=>by simp at g1⟩,unf:=fun k o p g1=>by simp at g1,below:=hT,base:=Nat.le_refl _}
 refine calls_of_wp hf hb ?_;have:=h code hc b X ⟨⟨w.heap.size,[],[(b,ty)],X⟩,[],w⟩ w ⟨Nat.le_refl _,Nat.le_refl _⟩ ⟨w.heap.size,[],[(b,ty)],X⟩ _ w (CG hR0 (avs:= .bptr 0 0::ds.map D.av) (vs:= .pointer (some ⟨b,0,none⟩)::vs) ⟨⟨(b,ty),rfl,rfl⟩,hav⟩ fn.ntmps);refine wp_mono this ?_;rintro e a' w' ⟨st',E',g1,g2⟩;have fin:ES P r post st'→∃v,(results fn a'.tmps).run P w'= .ok v w'∧Qc X b ty post w (.returned v) w':=by
  rintro⟨g,ys,os',c',pk,hpost,hys,hbx,hc',hnd,ho,hp,hfin⟩;have hS:=g1.sim;have hbm:E'.bm[0]? =some (b,ty):=hS.box 0 _ rfl;have hM0:∀x,x∈(⟨w.heap.size,[],[(b,ty)],X⟩:Env).M→x=b:=fun x hx=>by simpa[Env.M]using hx
  have hO:∀(k:Nat) (p:Value×List Nat) (x:Nat),E'.om[k]? =some p→p.1.ownBlock=some x→w.heap.size≤x:=by
   intro k p x h1 h2;refine Nat.le_of_not_lt fun hlt=> ?_
   have:=hM0 x (hS.old x hlt (jy.2 (Or.inr ⟨k,p,h1,h2⟩)));exact BQ g1 hbm h1 h2 this.symm
  obtain⟨l1,l2⟩:=oJ (xC ho);have hA:OutAt b w.heap.size X [(b,ty)] E' pk st'.owns os':=
   { nw:=fun x hx=>by rw[hS.base]at hx;exact hx
     own:=hO
     bm:=fun q hq=>⟨0,by simp at hq;subst hq;exact hbm⟩
     get:=fun j k hj=>by
      have:j<os'.length:=by rw[← l1];exact(List.getElem?_eq_some_iff.1 hj).1
      exact⟨_,List.getElem?_eq_getElem this⟩
     lt:=fun k hk=>by
      obtain⟨j,hj⟩:=List.mem_iff_getElem?.1 hk;have hj':j<os'.length:=by rw[← l1];exact(List.getElem?_eq_some_iff.1 hj).1
      obtain⟨o2,q1,_⟩:=l2 j k _ hj (List.getElem?_eq_getElem hj');rw[g1.olen];exact(List.getElem?_eq_some_iff.1 q1).1}
  obtain⟨v,h3,h4⟩:=Ef g1 hA hp hfin;obtain⟨_,us',h5,h6⟩:=g1.box 0 c' (b,ty) hbx hbm;have hcc:∀{xs:List AC} {vs:List Value},xs.all AC.cur=true→Oks E' st'.owns w' xs vs→Oks ⟨w.heap.size,nC E' pk,[(b,ty)],X⟩ os' w' xs vs:=by
   intro xs
   induction xs with
   |nil=>intro vs _ hv;cases vs<;>first|trivial|exact hv.elim
   | cons x xs ih=>
     intro vs hx hv;cases vs with
     |nil=>exact hv.elim
     | cons v vs=>
       simp only[List.all_cons,Bool.and_eq_true]at hx;refine⟨?_,ih hx.2 hv.2⟩;cases x with
       |any=>trivial
       |raw u=>exact hv.1
       |sl n l=>exact wV g1 hA (x:= .sl n l) ⟨hx.1,hx.1,rfl⟩ hv.1
       |own _ _=>simp[AC.cur]at hx
       |osub _ _ _ _=>simp[AC.cur]at hx
       |cl _ _=>simp[AC.cur]at hx
  exact⟨v,oG hr _ h3,v,nC E' pk,.c g ys,os',c',us',hpost,hys,hc',rfl,zQ g1 hO ho hnd,h4,h5,hcc hc' h6,g1.below.out,fun x hx hne=>hS.blk x hx (fun hm=>hne (hM0 x hm))⟩
 cases e with
 | normal=>
   obtain⟨v,h3,h4⟩:=fin g2;exact⟨g1.defers,v,h3,h4⟩
 | ret=>
   obtain⟨v,h3,h4⟩:=fin g2;exact⟨g1.defers,v,h3,h4⟩
 |_=>exact g2.elim
theorem Qy{B:Nat}{G:Org}{w0 w:World}{st:St}{E:Env}{a:Act}{pk:List Nat}{os':List Own}(hR:Rel B [] G w0 st E a w)(hB:∀(k:Nat) (p:Value×List Nat) (x:Nat),E.om[k]? =some p→p.1.ownBlock=some x→B≤x)(ho:o9 st.owns pk os'):OutAt B B [] [] E pk st.owns os':=by
 obtain⟨l1,l2⟩:=oJ ho;exact
  { nw:=fun x hx=>yS hR hx
    own:=hB
    bm:=fun q hq=>by simp at hq
    get:=fun j k hj=>by
     have:j<os'.length:=by rw[← l1];exact(b_.1 hj).1
     exact⟨_,a_ this⟩
    lt:=fun k hk=>by
     obtain⟨j,hj⟩:=z_.1 hk;have hj':j<os'.length:=by rw[← l1];exact(b_.1 hj).1
     obtain⟨o2,q1,_⟩:=l2 j k _ hj (a_ hj');rw[hR.olen];exact(b_.1 q1).1}
def VX(P:Program)(r:ResultVar)(post:AV→List Own→Prop)(st:St):Prop:=
 ∃(g:Bool) (ys:List AC) (os':List Own) (pk:List Nat),post (.c g ys) os'∧ys.all AC.out=true∧pk.Nodup∧o9 st.owns pk os'∧iZ P r g ys.length=true∧VW pk r g ys st
theorem lU{r:ResultVar}{post:AV→List Own→Prop}(hf:P.funcs[f]? =some fn:=by kernel_rfl)(hb:fn.body=some code:=by kernel_rfl)(hr:fn.results= #[r]:=by kernel_rfl)(hc:bg P code=some ic)
 (h:AWP P ic (qX (VX P r post)) (st0 fn.ntmps ds)):iD P f ds post:=by
 refine rV (post:=fun w e w'=>∃r os',post r os'∧r.out=true∧BP r os' w e w') hf hb hc h ?_;rintro G w w' st E a hR ⟨g,ys,os',pk,hpost,hys,hnd,ho,hp,hfin⟩;obtain⟨v,h3,h4⟩:=Ef hR (Qy hR (fun k p x h1 h2=>(yD hR h1 h2).1) ho) hp hfin;exact⟨v,oG hr _ h3,.c g ys,os',hpost,hys,v,nC E pk,rfl,FY hR ho hnd,h4,hR.below.out⟩
end
section
variable{P:Program}{B:Nat}{Xs:List Nat}{G:Org}{w0:World}{fr:List AV}{os:List Own}{bs:List (List AC)}{E:Env}{a:Act}{w w':World}
theorem IV{t:Bool}:∀{xs:List AC} {ds:List D} {vs:List Value},bM [] xs=some ds→(t=true→xs.all AC.nw=true)→Oks E os w xs vs→∃fp,Rs w ds fp vs∧∀b∈fp,b<w.heap.size∧b∉E.M∧(t=true→E.nw b)
 | [],ds,[],hd,_,_=>by
   injection hd with hd
   subst hd;exact⟨[],⟨rfl,rfl⟩,fun b hb=>by simp at hb⟩
 | x::xs,ds,v::vs,hd,hn,hx=>by
   rw[bM]at hd;split at hd
   ·next d ds' h1 h2=>
    injection hd with hd
    subst hd;have h1':x.toD=some d:=by cases x<;>simp_all [dL]
    obtain⟨_,_,f1,r1,m1⟩:=toD_ok h1' hx.1;obtain⟨f2,r2,m2⟩:=IV h2 (fun e=>by have:=hn e;simp only[n_,e_]at this;exact this.2) hx.2;refine⟨f1++f2,⟨f1,f2,[v],vs,rfl,rfl,r1,r2⟩,fun b hb=> ?_⟩;rcases p_.1 hb with hb|hb
    ·exact⟨R.lt r1 b hb,(m1 b hb).1,fun e=>(m1 b hb).2 (by have:=hn e;simp only[n_,e_]at this;exact this.1)⟩
    ·exact m2 b hb
   ·cases hd
 | [],_,_::_,_,_,h=>h.elim
 |_::_,_,[],_,_,h=>h.elim
theorem Y9{t:Bool}{x:AV}{dd:D}{v:Value}(hd:bP [] x dd)(hn:t=true→x.nw=true)(hx:x.ok E os w v):∃F,RdF w F dd v∧∀b∈F,b<w.heap.size∧b∉E.M∧(t=true→E.nw b):=by
 cases x with
 | c g xs=>
   obtain⟨h1,rfl⟩:=hd;unfold RdF;cases hg:dd.isAgg with
   | true=>
     rw[hg]at hx;obtain⟨vs,h2,h3⟩:=hx;obtain⟨fp,h4,h5⟩:=IV h1 hn h3;exact⟨fp,by rw[if_pos rfl];exact⟨fp,vs,h2,mD.2 h4,fun b hb=>hb⟩,h5⟩
   | false=>
     rw[hg]at hx;obtain⟨fp,h4,h5⟩:=IV h1 hn (show Oks E os w xs [v] from hx);exact⟨fp,by rw[if_neg (by simp)];exact⟨fp,mD.2 h4,fun b hb=>hb⟩,h5⟩
 |any=>exact hd.elim
 |ptr _=>exact hd.elim
 |bptr _ _=>exact hd.elim
 |eptr _ _ _ _=>exact hd.elim
 |tup _=>exact hd.elim
theorem NT{t:Bool}:∀{xs:List AV} {ds:List D} {vs:List Value},aP [] xs ds→(t=true→xs.all AV.nw=true)→oP E os w xs vs→∃F,zD w F ds vs∧∀b∈F,b<w.heap.size∧b∉E.M∧(t=true→E.nw b)
 | [],[],[],_,_,_=>⟨[],trivial,fun b hb=>by simp at hb⟩
 | x::xs,d::ds,v::vs,hd,hn,hv=>by
   obtain⟨F1,h1,h2⟩:=Y9 hd.1 (fun e=>by have:=hn e;simp only[n_,e_]at this;exact this.1) hv.1;obtain⟨F2,h3,h4⟩:=NT hd.2 (fun e=>by have:=hn e;simp only[n_,e_]at this;exact this.2) hv.2;refine⟨F1++F2,⟨h1.mono (fun b hb=>A_ _ hb),h3.mono (fun b hb=>y_ _ hb)⟩,fun b hb=> ?_⟩;rcases p_.1 hb with hb|hb
   ·exact h2 b hb
   ·exact h4 b hb
 | [],_::_,_,hd,_,_=>hd.elim
 |_::_,[],_,hd,_,_=>hd.elim
 | [],[],_::_,_,_,hv=>hv.elim
 |_::_,_::_,[],_,_,hv=>hv.elim
def AC.nU :AC→Bool
 | .raw _=>true
 | .any=>true
 | .sl n _=>n
 |_=>false
def AV.nU :AV→Bool
 | .any=>true
 | .c _ xs=>xs.all AC.nU
 | .tup ys=>ys.all fun y=>y.2.all AC.nU
 |_=>false
theorem Yh{F:List Nat}{t:Bool}{st:St}(h:Rel B Xs G w0 st E a w)(hF:∀b∈F,b∉E.M∧(t=true→E.nw b)){x:AC}{v:Value}(ho:x.nU=true)(hx:x.ok (lK w.heap.size F) [] w' v):(x.fl t).ok E st.owns w' v:=by
 cases x with
 |any=>trivial
 |raw u=>exact hx
 | sl n l=>
   obtain rfl:n=true:=ho;obtain⟨fp,h1,h2⟩:=hx;refine⟨fp,h1,fun b hb=>⟨fun hm=> ?_,fun e=> ?_⟩⟩
   ·rcases xE.1 (h2 b hb).1 with h3|h3
    ·have:=(wX h hm).2;omega
    ·exact(hF b h3).1 hm
   ·rcases xE.1 (h2 b hb).1 with h3|h3
    ·exact h.uy (r_ h.base h3)
    ·exact(hF b h3).2 e
 |own k i=>simp[AC.nU]at ho
 |osub k i a b=>simp[AC.nU]at ho
 |cl f caps=>simp[AC.nU]at ho
theorem H9{F:List Nat}{t:Bool}{st:St}(h:Rel B Xs G w0 st E a w)(hF:∀b∈F,b∉E.M∧(t=true→E.nw b)):∀{xs:List AC} {vs:List Value},xs.all AC.nU=true→Oks (lK w.heap.size F) [] w' xs vs→Oks E st.owns w' (xs.map (AC.fl t)) vs
 | [],[],_,_=>trivial
 | x::xs,v::vs,ho,hx=>by
   simp only[n_,e_]at ho;exact⟨Yh h hF ho.1 hx.1,H9 h hF ho.2 hx.2⟩
 | [],_::_,_,hx=>hx.elim
 |_::_,[],_,hx=>hx.elim
theorem WH{F:List Nat}{t:Bool}{st:St}(h:Rel B Xs G w0 st E a w)(hF:∀b∈F,b∉E.M∧(t=true→E.nw b)){r:AV}{v:Value}(ho:r.nU=true)(hx:r.ok (lK w.heap.size F) [] w' v):(r.fl t).ok E st.owns w' v:=by
 have key:∀{g:Bool} {xs:List AC} {v:Value},xs.all AC.nU=true→Gok (lK w.heap.size F) [] w' g xs v→Gok E st.owns w' g (xs.map (AC.fl t)) v:=by
  intro g xs v hx hv;cases g with
  |true=>obtain⟨vs,h1,h2⟩:=hv;exact⟨vs,h1,H9 h hF hx h2⟩
  |false=>exact H9 h hF hx (show Oks _ _ _ xs [v] from hv)
 cases r with
 |any=>trivial
 |c g xs=>exact key ho hx
 | tup ys=>
   obtain⟨vs,h1,h2⟩:=hx;refine⟨vs,h1, ?_⟩;clear h1;have ho':(ys.all fun y=>y.2.all AC.nU)=true:=ho;clear ho
   induction ys generalizing vs with
   | nil=>cases vs with
     |nil=>trivial
     |cons v vs=>exact h2.elim
   | cons y ys ih=>cases vs with
     |nil=>exact h2.elim
     | cons v vs=>
       simp only[n_,e_]at ho';exact⟨key ho'.1 h2.1,ih vs h2.2 ho'.2⟩
 |ptr _=>cases ho
 |bptr _ _=>cases ho
 |eptr _ _ _ _=>cases ho
theorem kJ.toE(t:Bool){f:Nat}{ds:List D}{ys:List AV}{r:AV}(h:kJ P f ds r)(hr:r.nU=true)(ha:aP [] ys ds)(hn:t=true→ys.all AV.nw=true):lD P f ys os bs (fun r2 os2 bs2=>r2=r.fl t∧os2=os∧bs2=bs):=by
 intro B Xs G w0 fr E a w vs hR hv;obtain⟨F,h1,h2⟩:=NT ha hn hv;refine(h w F vs (fun b hb=>(h2 b hb).1) h1 hR.below.now).mono ?_;rintro e w' ⟨v,rfl,hx,hb⟩;have hA:=hR.here;have hB:=hA.nZ hb (d:=none) (x:= .any) (v:=undef) trivial;exact⟨v,E,_,_,_,⟨rfl,rfl,rfl⟩,rfl,hB,WH hR (fun b hb=>⟨(h2 b hb).2.1,(h2 b hb).2.2⟩) hr hx⟩
def yG(P:Program)(f:Nat)(ds:List D)(c:List AC)(post:AV→List Own→List AC→Prop):Prop:=
 ∀(w:World) (b:Nat) (ty:TypeId) (us vs:List Value) (X:List Nat),BelowT b w w→(∀x∈X,x≠b∧x<w.heap.size)→Row w b ty us→Oks ⟨w.heap.size,[],[(b,ty)],X⟩ [] w c us→
  oP ⟨w.heap.size,[],[(b,ty)],X⟩ [] w (ds.map (D.avN true)) vs→Calls P f (.pointer (some ⟨b,0,none⟩)::vs).toArray w (Qc X b ty post w)
theorem YA{H:Nat}{p:Nat×TypeId}{X F:List Nat}{d:D}{v:Value}(hF:∀b∈F,b∈X∧b≠p.1)(h:RdF w F d v):(D.avN true d).ok ⟨H,[],[p],X⟩ [] w v:=by
 have hM:∀b,b∈(⟨H,[],[p],X⟩:Env).M→b=p.1:=fun b hb=>by simpa[Env.M]using hb
 unfold D.avN AV.ok Gok;unfold RdF at h;cases hg:d.isAgg with
 | true=>
   rw[hg,if_pos rfl]at h;obtain⟨fp,cs,h1,h2,h3⟩:=h;exact⟨cs,h1,qI h2 (fun b hb=>⟨fun hm=>(hF b (h3 b hb)).2 (hM b hm),fun _=>o_ (hF b (h3 b hb)).1⟩)⟩
 | false=>
   rw[hg,if_neg (by simp)]at h;obtain⟨fp,h2,h3⟩:=h;exact qI h2 (fun b hb=>⟨fun hm=>(hF b (h3 b hb)).2 (hM b hm),fun _=>o_ (hF b (h3 b hb)).1⟩)
theorem P7{H:Nat}{p:Nat×TypeId}{X F:List Nat}(hF:∀b∈F,b∈X∧b≠p.1):∀{ds:List D} {vs:List Value},zD w F ds vs→oP ⟨H,[],[p],X⟩ [] w (ds.map (D.avN true)) vs
 | [],[],_=>trivial
 |d::ds,v::vs,h=>⟨YA hF h.1,P7 hF h.2⟩
 | [],_::_,h=>h.elim
 |_::_,[],h=>h.elim
theorem yG.toE(t:Bool){f:Nat}{ds:List D}{ys:List AV}{c c0:List AC}{kc:Nat}{post:AV→List Own→List AC→Prop}(h:yG P f ds c post)(hk:bs[kc]? =some c0)(hc0:c0.all (AC.cin t)=true)(hc:c0.map (AC.fl true)=c)(ha:aP [] ys ds)(hn:t=true→ys.all AV.nw=true):
 lD P f (.bptr kc 0::ys) os bs (fun r2 os2 bs2=>∃r os' c',post r os' c'∧r2=(r.fl t).shift os.length∧os2=os++os'∧bs2=bs.set kc (c'.map (AC.fl t))):=by
 subst hc;intro B Xs G w0 fr E a w vs hR hv;cases vs with
 |nil=>exact hv.elim
 |cons pv vs=>
 obtain⟨⟨p,hp,rfl⟩,hv⟩:=hv;obtain⟨b,ty⟩:=p;have hpM:b∈E.M:=jy.2 (t_ ⟨kc,_,hp,rfl⟩);obtain⟨hBb,us,hrow,hok⟩:=hR.box kc c0 (b,ty) hk hp;simp only at hBb hrow;have hbH:b<w.heap.size:=hrow.lt;obtain⟨X1,hX1,hcu⟩:=NJ (H:=w.heap.size) (p:=(b,ty)) t hpM hc0 hok;obtain⟨F,hF1,hF2⟩:=NT ha hn hv;obtain⟨X,hXe⟩:∃X,X=X1++F:=⟨_,rfl⟩
 have hX:∀x∈X,x∉E.M∧x<w.heap.size∧(t=true→E.nw x):=fun x hx=>by
  rw[hXe]at hx;rcases p_.1 hx with hx|hx
  ·exact hX1 x hx
  ·exact⟨(hF2 x hx).2.1,(hF2 x hx).1,(hF2 x hx).2.2⟩
 have hcu':Oks ⟨w.heap.size,[],[(b,ty)],X⟩ [] w (c0.map (AC.fl true)) us:=Oks.JK (fun x hx=>by rw[hXe];exact A_ _ hx) hcu;have hav:=P7 (H:=w.heap.size) (p:=(b,ty)) (X:=X) (F:=F) (fun x hx=>⟨by rw[hXe];exact y_ _ hx,fun e=>(hF2 x hx).2.1 (e▸hpM)⟩) hF1;have hT:BelowT b w w:=⟨Below.refl _ _,fun w' hb'=>hR.below.tab w' (hb'.mono hBb)⟩
 refine(h w b ty us vs X hT (fun x hx=>⟨fun e=>(hX x hx).1 (e▸hpM),(hX x hx).2.1⟩) hrow hcu' hav).mono ?_;rintro e w' ⟨v,om,r,os',c',us',hpost,hr,hc',rfl,ho,hrok,hrow',hcok,hbel,hsame⟩
 
 obtain⟨w1,e1,e2⟩:∃w1:World,w1={w' with heap:=w'.heap.setIfInBounds b (.cells us.toArray ty (0,0))}∧True:=⟨_,rfl,trivial⟩
 have hsz:w1.heap.size=w'.heap.size:=by rw[e1];simp
 have hother:∀x,x≠b→w1.heap[x]? =w'.heap[x]? :=fun x hx=>by rw[e1];simp only;rw[Array.getElem?_setIfInBounds_ne (Ne.symm hx)]
 have hself:w1.heap[b]? =some (.cells us.toArray ty (0,0)):=by
  rw[e1];exact Array.getElem?_setIfInBounds_self_of_lt (hrow'.lt)
 have hB1:Below w.heap.size w w1:=by
  refine⟨by rw[e1];exact hbel.os,by rw[e1];exact hbel.tape,by rw[e1];exact hbel.output,by rw[hsz];exact hbel.size,fun x hx=> ?_⟩;by_cases e:x=b
  ·subst e;exact hself.trans hrow.symm
  ·rw[hother x e];exact hsame x hx e
 have ho1:tC w.heap.size w1 om os':=zO ho (fun x hx=>hother x (by omega)) (a_D hsz.symm);have hA:=hR.here;have hH:∀x∈E.M,x<w.heap.size:=fun x hx=>(wX hR hx).2
 have hn:∀x,w.heap.size≤x→E.nw x:=fun x hx=>hR.uy (r_ hR.base hx)
 have hol:E.om.length=os.length:=hR.olen;have hB:=hA.yA (x:= .any) (u:=undef) hB1 ho1 none (fun _ _ _ _=>trivial);have hM2:∀x,x∈({E with om:=E.om++om}:Env).M↔x∈E.M∨x∈om.flatMap fun q=>q.1.ownBlock.toList:=fun x=>ou E om
 have hsz':w'.heap.size=w1.heap.size:=hsz.symm;have hC:=hB.MP (k:=kc) (p:=(b,ty)) (w':=w') (ys:=c'.map (AC.fl t)) (us:=us') hk hp
  (by have:=uU (os:=os) (w1:=w1) (E':={E with om:=E.om++om}) (t:=t) hpM (fun x hx=>⟨(hX x hx).1,(hX x hx).2.2⟩) hH hn hM2 rfl rfl hol hother (a_D hsz') (zq hc') hcok
      rwa[sV hc']at this) hsz' (by rw[e1];exact⟨rfl,rfl,rfl⟩) (fun x hx=>(hother x hx).symm) hrow' none (x:= .any) (v:=undef) trivial
 refine⟨v,_,_,_,_,⟨r,os',c',hpost,rfl,rfl,rfl⟩,rfl,hC, ?_⟩;exact LK (w1:=w') hpM (fun x hx=>⟨(hX x hx).1,(hX x hx).2.2⟩) hH hn hM2 rfl rfl hol (fun _ _=>rfl) (s_ _) hr hrok
theorem Vz{f:Nat}{fn:Func}{code:Code}{ic:IC}{ds:List D}{c:List AC}{r:ResultVar}{post:AV→List Own→List AC→Prop}(hf:P.funcs[f]? =some fn:=by kernel_rfl)(hb:fn.body=some code:=by kernel_rfl)(hr:fn.results= #[r]:=by kernel_rfl)(hc:bg P code=some ic)
 (h:iK (0,1) P ic (qX (ES P r post)) (stS fn.ntmps (.bptr 0 0::ds.map (D.avN true)) [] [c])):yG P f ds c post:=by
 intro w b ty us vs X hT hX hrow hok hav;have hbH:b<w.heap.size:=hrow.lt;have hR0:Rel b X ⟨⟨w.heap.size,[],[(b,ty)],X⟩,[],w⟩ w ⟨[],[],[c]⟩ ⟨w.heap.size,[],[(b,ty)],X⟩ {tmps:= #[],defers:= []} w:=
  { eb :=Nat.le_of_lt hbH,ex:=rfl,sim:=Sim.refl _ _ _,defers:=rfl,size:=rfl,fr:=fun t y hy=>by simp at hy,olen:=rfl,own:=fun k o p g1 g2=>by simp at g1,blen:=rfl,
    box:=fun k xs p g1 g2=>by
     cases k with
     | zero=>
       simp at g1 g2;subst g1 g2;exact⟨Nat.le_refl _,us,hrow,hok⟩
     |succ k=>simp at g1
    nodup:=by simp[Env.M],lin:=⟨fun k o p g1=>by simp at g1,fun j k o o' p p' _ g1=>by simp at g1⟩,unf:=fun k o p g1=>by simp at g1,below:=hT,base:=Nat.le_refl _}
 refine calls_of_wp hf hb ?_;have:=h code hc b X ⟨⟨w.heap.size,[],[(b,ty)],X⟩,[],w⟩ w ⟨Nat.le_refl _,Nat.le_refl _⟩ ⟨w.heap.size,[],[(b,ty)],X⟩ _ w (CG hR0 (avs:= .bptr 0 0::ds.map (D.avN true)) (vs:= .pointer (some ⟨b,0,none⟩)::vs) ⟨⟨(b,ty),rfl,rfl⟩,hav⟩ fn.ntmps);refine wp_mono this ?_;rintro e a' w' ⟨st',E',g1,g2⟩;have fin:ES P r post st'→∃v,(results fn a'.tmps).run P w'= .ok v w'∧Qc X b ty post w (.returned v) w':=by
  rintro⟨g,ys,os',c',pk,hpost,hys,hbx,hc',hnd,ho,hp,hfin⟩;have hS:=g1.sim;have hbm:E'.bm[0]? =some (b,ty):=hS.box 0 _ rfl;have hM0:∀x,x∈(⟨w.heap.size,[],[(b,ty)],X⟩:Env).M→x=b:=fun x hx=>by simpa[Env.M]using hx
  have hO:∀(k:Nat) (p:Value×List Nat) (x:Nat),E'.om[k]? =some p→p.1.ownBlock=some x→w.heap.size≤x:=by
   intro k p x h1 h2;refine Nat.le_of_not_lt fun hlt=> ?_
   have:=hM0 x (hS.old x hlt (jy.2 (Or.inr ⟨k,p,h1,h2⟩)));exact BQ g1 hbm h1 h2 this.symm
  obtain⟨l1,l2⟩:=oJ (xC ho);have hA:OutAt b w.heap.size X [(b,ty)] E' pk st'.owns os':=
   { nw:=fun x hx=>by rw[hS.base]at hx;exact hx
     own:=hO
     bm:=fun q hq=>⟨0,by simp at hq;subst hq;exact hbm⟩
     get:=fun j k hj=>by
      have:j<os'.length:=by rw[← l1];exact(List.getElem?_eq_some_iff.1 hj).1
      exact⟨_,List.getElem?_eq_getElem this⟩
     lt:=fun k hk=>by
      obtain⟨j,hj⟩:=List.mem_iff_getElem?.1 hk;have hj':j<os'.length:=by rw[← l1];exact(List.getElem?_eq_some_iff.1 hj).1
      obtain⟨o2,q1,_⟩:=l2 j k _ hj (List.getElem?_eq_getElem hj');rw[g1.olen];exact(List.getElem?_eq_some_iff.1 q1).1}
  obtain⟨v,h3,h4⟩:=Ef g1 hA hp hfin;obtain⟨_,us',h5,h6⟩:=g1.box 0 c' (b,ty) hbx hbm;have hcc:∀{xs:List AC} {vs:List Value},xs.all AC.cur=true→Oks E' st'.owns w' xs vs→Oks ⟨w.heap.size,nC E' pk,[(b,ty)],X⟩ os' w' xs vs:=by
   intro xs
   induction xs with
   |nil=>intro vs _ hv;cases vs<;>first|trivial|exact hv.elim
   | cons x xs ih=>
     intro vs hx hv;cases vs with
     |nil=>exact hv.elim
     | cons v vs=>
       simp only[List.all_cons,Bool.and_eq_true]at hx;refine⟨?_,ih hx.2 hv.2⟩;cases x with
       |any=>trivial
       |raw u=>exact hv.1
       |sl n l=>exact wV g1 hA (x:= .sl n l) ⟨hx.1,hx.1,rfl⟩ hv.1
       |own _ _=>simp[AC.cur]at hx
       |osub _ _ _ _=>simp[AC.cur]at hx
       |cl _ _=>simp[AC.cur]at hx
  exact⟨v,oG hr _ h3,v,nC E' pk,.c g ys,os',c',us',hpost,hys,hc',rfl,zQ g1 hO ho hnd,h4,h5,hcc hc' h6,g1.below.out,fun x hx hne=>hS.blk x hx (fun hm=>hne (hM0 x hm))⟩
 cases e with
 | normal=>
   obtain⟨v,h3,h4⟩:=fin g2;exact⟨g1.defers,v,h3,h4⟩
 | ret=>
   obtain⟨v,h3,h4⟩:=fin g2;exact⟨g1.defers,v,h3,h4⟩
 |_=>exact g2.elim
end
theorem lq{os:List Own}{xs:List AV}{ds:List D}(h:aP os xs ds:=by first|exact⟨⟨rfl,rfl⟩,trivial⟩|exact trivial|exact⟨⟨rfl,rfl⟩,⟨rfl,rfl⟩,trivial⟩|exact⟨⟨rfl,rfl⟩,⟨rfl,rfl⟩,⟨rfl,rfl⟩,trivial⟩|(simp[St.ev,List.map_cons,List.map_nil,List.getD_cons_zero,List.getD_cons_succ,aP,bP,bM,dL,AC.toD,aA,aj,au,ay,Value.oneCell',aQ,aH,aU,aS,aW,aN,aY,aX,dQ,dR,aK,aJ,Ql,AV.fl,AC.fl,AV.shift,AC.shift,List.append_nil];first|done|rfl)):aP os xs ds:=h
section
variable{P:Program}{K:St→Prop}{d:Option Nat}{f:Nat}{ys:List AV}{rest:List IOp}{st:St}{ds:List D}
theorem fH{r:AV}(ha:aP st.owns ys ds:=by exact lq)(hr:r.res:=by trivial)(hc:dK P f ds r)(h:sw P K rest (st.put d r)):lF P K d f ys rest st:=dn hc hr ha h
theorem Xu{m:Bool}{r:AV}(ha:aP (mo m st) ys ds:=by exact lq)(hr:r.res:=by trivial)(hc:dK P f ds r)(h:sd P m K rest (st.put d r)):rY P m K d f ys rest st:=bT hc hr ha h
theorem dJ(t:Bool){c c0:List AC}{kc:Nat}{post:AV→List Own→List AC→Prop}(ha:aP st.owns ys ds:=by exact lq)(hk:st.boxes[kc]? =some c0:=by rfl)(hc0:c0.all (AC.cin t)=true:=by rfl)(hc:c0.map (AC.fl true)=c:=by rfl)(h:iq P f ds c post)
 (hK:∀r os' c',post r os' c'→sw P K rest (St.put ⟨st.fr,st.owns++os',st.boxes.set kc (c'.map (AC.fl t))⟩ d ((r.fl t).shift st.owns.length))):lF P K d f (.bptr kc 0::ys) rest st:=by
 refine Ez (h.toE t hk hc0 hc ha) ?_;rintro _ _ _ ⟨r,os',c',hp,rfl,rfl,rfl⟩;exact hK r os' c' hp
theorem Xv(t:Bool){c c0:List AC}{kc:Nat}{post:AV→List Own→List AC→Prop}(ha:aP [] ys ds:=by exact lq)(hk:st.boxes[kc]? =some c0:=by rfl)(hc0:c0.all (AC.cin t)=true:=by rfl)(hc:c0.map (AC.fl true)=c:=by rfl)(hn:t=true→ys.all AV.nw=true:=by intro _;rfl)(h:yG P f ds c post)
 (hK:∀r os' c',post r os' c'→sw P K rest (St.put ⟨st.fr,st.owns++os',st.boxes.set kc (c'.map (AC.fl t))⟩ d ((r.fl t).shift st.owns.length))):lF P K d f (.bptr kc 0::ys) rest st:=by
 refine Ez (h.toE t hk hc0 hc ha hn) ?_;rintro _ _ _ ⟨r,os',c',hp,rfl,rfl,rfl⟩;exact hK r os' c' hp
theorem iW{post:AV→List Own→Prop}(ha:aP st.owns ys ds:=by exact lq)(h:iD P f ds post)
 (hK:∀r os',post r os'→sw P K rest (St.put ⟨st.fr,st.owns++os',st.boxes⟩ d (r.shift st.owns.length))):lF P K d f ys rest st:=by
 refine Ez (h.toE ha) ?_;rintro _ _ _ ⟨r,os',hp,rfl,rfl,rfl⟩;exact hK r os' hp
theorem wQ(t:Bool){r:AV}(ha:aP [] ys ds:=by exact lq)(hr:r.nU=true:=by rfl)(hn:t=true→ys.all AV.nw=true:=by intro _;rfl)(h:kJ P f ds r)(hK:sw P K rest (st.put d (r.fl t))):lF P K d f ys rest st:=by
 refine Ez (h.toE t hr ha hn) ?_;rintro _ _ _ ⟨rfl,rfl,rfl⟩;exact hK
end
section
variable{P:Program}{kc:Nat}{m:Bool}{Ts:List Nat}{K:St→Prop}{d:Option Nat}{f:Nat}{xs:List Opd}{rest:List IOp}{st:St}{ds:List D}
theorem kL{xs:List Opd}(h:sn P kc m Ts K (⟨d,none,.call f xs⟩::rest) st):sn P kc m Ts K (⟨d,none,.call f xs⟩::rest) st:=h
theorem EU{r:AV}(ha:aP (mo m st) (xs.map st.ev) ds:=by exact lq)(hr:r.res:=by trivial)(hc:dK P f ds r)(h:sn P kc m Ts K rest (st.put d r)):sn P kc m Ts K (⟨d,none,.call f xs⟩::rest) st:=by
 refine Ws ?_;rw[Hu];exact bT hc hr ha h
theorem kF(t:Bool){x:Opd}{c c0:List AC}{pst:AV→List Own→List AC→Prop}(ha:aP st.owns (xs.map st.ev) ds:=by exact lq)(hx:st.ev x= .bptr kc 0:=by rfl)(hk:st.boxes[kc]? =some c0:=by rfl)(hc0:c0.all (AC.cin t)=true:=by rfl)(hc:c0.map (AC.fl true)=c:=by rfl)(h:iq P f ds c pst)
 (hne:∃r os' c',pst r os' c'∧r.sW=true) (hm:∀r os' c',pst r os' c'→m=false→os'= []:=by first|(rintro _ _ _ ⟨_,h,_⟩ _;exact h)|(intro _ _ _ _ hm;cases hm)) (hr:∀r os' c',pst r os' c'→sn P kc m Ts K rest (St.put ⟨st.fr,st.owns++os',st.boxes.set kc (c'.map (AC.fl t))⟩ d ((r.fl t).shift st.owns.length))):sn P kc m Ts K (⟨d,none,.call f (x::xs)⟩::rest) st:=
 Ya t h hx hk hc0 hc ha hne hm hr
theorem Ci{pst:AV→List Own→Prop}(ha:aP st.owns (xs.map st.ev) ds:=by exact lq)(h:iD P f ds pst)(hne:∃r os',pst r os'∧r.out=true)(hm:∀r os',pst r os'→m=false→os'= []:=by first|(rintro _ _ ⟨_,h⟩ _;exact h)|(intro _ _ _ hm;cases hm))
 (hr:∀r os',pst r os'→sn P kc m Ts K rest (St.put ⟨st.fr,st.owns++os',st.boxes⟩ d (r.shift st.owns.length))):sn P kc m Ts K (⟨d,none,.call f xs⟩::rest) st:=
 Wj h ha hne hm hr
end
def AC.rel(k v:Nat)(n:Bool)(l:List D):AC→AC
 | .own j i=>if j=k∧i=v then .sl n l else .own j i
 |x=>x
def AV.rel(k v:Nat)(n:Bool)(l:List D):AV→AV
 | .c g xs=> .c g (xs.map (AC.rel k v n l))
 |x=>x
def St.rel(st:St)(k:Nat)(o:Own):St:=⟨st.fr.map (AV.rel k o.ver o.nw.n o.l),dB st.owns k,st.boxes.map (List.map (AC.rel k o.ver o.nw.n o.l))⟩
section
variable{P:Program}{B:Nat}{Xs:List Nat}{G:Org}{w0:World}{st:St}{E:Env}{a:Act}{w:World}
theorem Yc(h:Rel B Xs G w0 st E a w){k:Nat}{o:Own}(ho:st.owns[k]? =some o)(h2:Rel B Xs G w0 ⟨st.fr,dB st.owns k,st.boxes⟩ (E.seal k) a w){x:AC}{v:Value}(hx:x.ok E st.owns w v)(hx2:x.ok (E.seal k) (dB st.owns k) w v):(x.rel k o.ver o.nw.n o.l).ok (E.seal k) (dB st.owns k) w v:=by
 cases x with
 | own j i=>
   simp only[AC.rel];split
   ·next e=>
    obtain⟨rfl,rfl⟩:=e;obtain⟨_,o',p,h3,h4,h5,h6⟩:=hx;rw[ho]at h3;injection h3 with h3
    subst h3;obtain rfl:=h6 rfl;obtain⟨cs,q1,q2,q3,q4⟩:=h.own j o p ho h4;have hsm:=(vY h.nodup (k:=j)).2;refine⟨_,Sl.mO q1 q2,fun b hb=> ?_⟩;rcases p_.1 hb with hb|hb
    ·have hb':p.1.ownBlock=some b:=by simpa using hb
     refine⟨fun hm=> ?_,fun _=>h.uy (eX.lt q1 b hb').1⟩;rcases jy.1 hm with⟨k',q,g1,g2⟩|⟨k',q,g1,g2⟩
     ·exact BQ h g1 h4 hb' g2
     ·by_cases e:k'=j
      ·subst e;simp only[Env.seal]at g1;rw[S_ (b_.1 h4).1]at g1;injection g1 with g1
       subst g1;cases g2
      ·rw[oz e]at g1;exact e (Ak h g1 h4 g2 hb')
    ·exact⟨fun hm=>(q4 b hb).1 (hsm b hm),fun e=>(q4 b hb).2 e⟩
   ·exact hx2
 |_=>exact hx2
theorem Bg(h:Rel B Xs G w0 st E a w){k:Nat}{o:Own}(ho:st.owns[k]? =some o)(h2:Rel B Xs G w0 ⟨st.fr,dB st.owns k,st.boxes⟩ (E.seal k) a w):∀{xs:List AC} {vs:List Value},Oks E st.owns w xs vs→Oks (E.seal k) (dB st.owns k) w xs vs→Oks (E.seal k) (dB st.owns k) w (xs.map (AC.rel k o.ver o.nw.n o.l)) vs
 | [],[],_,_=>trivial
 |x::xs,v::vs,hx,hy=>⟨Yc h ho h2 hx.1 hy.1,Bg h ho h2 hx.2 hy.2⟩
 | [],_::_,hx,_=>hx.elim
 |_::_,[],hx,_=>hx.elim
theorem Rel.release(h:Rel B Xs G w0 st E a w){k:Nat}{o:Own}(ho:st.owns[k]? =some o):Rel B Xs G w0 (st.rel k o) (E.seal k) a w:=by
 have h2:Rel B Xs G w0 ⟨st.fr,dB st.owns k,st.boxes⟩ (E.seal k) a w:=Rel.seal (fr:=st.fr) (os:=st.owns) (bs:=st.boxes) h ho;have hav:∀{x:AV} {v:Value},x.ok E st.owns w v→x.ok (E.seal k) (dB st.owns k) w v→(x.rel k o.ver o.nw.n o.l).ok (E.seal k) (dB st.owns k) w v:=by
  intro x v hx hy;cases x with
  | c g xs=>
    cases g with
    | true=>
      obtain⟨vs,h3,h4⟩:=hx;obtain⟨us,h5,h6⟩:=hy;subst h3;have:us=vs:=by injection h5 with h5;injection h5 with h5;exact h5.symm
      subst this;exact⟨us,rfl,Bg h ho h2 h4 h6⟩
    |false=>exact Bg h ho h2 (show Oks E st.owns w xs [v] from hx) (show Oks _ _ w xs [v] from hy)
  |_=>exact hy
 exact
  { eb:=h2.eb,ex:=h2.ex,sim:=h2.sim,defers:=h2.defers
    size:=by rw[h2.size];simp[St.rel]
    fr:=fun t x hx=>by
     simp only[St.rel,u_]at hx;obtain⟨y,hy,rfl⟩:=h_.1 hx;exact hav (h.fr t y hy) (h2.fr t y hy)
    olen:=h2.olen,own:=h2.own
    blen:=by rw[h2.blen];simp[St.rel]
    box:=fun j xs p hx hp=>by
     simp only[St.rel,u_]at hx;obtain⟨ys,hy,rfl⟩:=h_.1 hx;obtain⟨g1,vs,g2,g3⟩:=h2.box j ys p hy hp;obtain⟨_,us,g4,g5⟩:=h.box j ys p hy hp;have:us=vs:=by
      have e:=g4.symm.trans g2;injection e with e
      injection e with e1
      injection e1
     subst this;exact⟨g1,us,g2,Bg h ho h2 g5 g3⟩
    nodup:=h2.nodup,lin:=h2.lin,unf:=h2.unf,below:=h2.below,base:=h2.base}
theorem Am{lo:Nat×Nat}{c:IC}{Q:Exit→St→Prop}(k:Nat){o:Own}(ho:st.owns[k]? =some o)(h:iK lo P c Q (st.rel k o)):iK lo P c Q st:=
 fun code hc B Xs G w0 hG E a w hR=>h code hc B Xs G w0 hG (E.seal k) a w (hR.release ho)
end
theorem pkZ :type_of% (Zm @fG.eq_1 (Zm @fG.eq_2 (Zm @fK.eq_1 (Zm @fK.eq_2 (Zm @dh.eq_1 (Zm @dh.eq_2 (Zm @dB.eq_1 (Zm @St.put.eq_1 (Zm @St.put.eq_2 (Zm @St.ev.eq_1 (Zm @St.ev.eq_2 (Zm @fF.eq_1 (Zm @fF.eq_2 (Zm @fM.eq_1 (Zm @fM.eq_2 (Zm @D.ones.eq_1 (Zm @D.ones.eq_2 (Zm @D.szs.eq_1 (Zm @D.szs.eq_2 (Zm @undef.eq_1 (Zm @aA (Zm @aj (Zm @au (Zm @ay (Zm @bf (@aV)))))))))))))))))))))))))):=Zm @fG.eq_1 (Zm @fG.eq_2 (Zm @fK.eq_1 (Zm @fK.eq_2 (Zm @dh.eq_1 (Zm @dh.eq_2 (Zm @dB.eq_1 (Zm @St.put.eq_1 (Zm @St.put.eq_2 (Zm @St.ev.eq_1 (Zm @St.ev.eq_2 (Zm @fF.eq_1 (Zm @fF.eq_2 (Zm @fM.eq_1 (Zm @fM.eq_2 (Zm @D.ones.eq_1 (Zm @D.ones.eq_2 (Zm @D.szs.eq_1 (Zm @D.szs.eq_2 (Zm @undef.eq_1 (Zm @aA (Zm @aj (Zm @au (Zm @ay (Zm @bf (@aV)))))))))))))))))))))))))
theorem yu{p:Prop}(h:p:=by first|(with_reducible rfl)|(with_reducible refine dD ?_;kernel_rfl)|exact aC _|exact aF _|exact el_ln _|exact el_tk _ _|exact el_td _ _ _|omega|(simp;done)|(simp;omega)):p:=h
section
variable{P:Program}{B:Nat}{Xs:List Nat}{G:Org}{w0:World}{st:St}{E:Env}{a:Act}{w:World}
theorem OU{os:List Own}{x:AC}{u:Value}:∀{xs:List AC} {vs:List Value} {j:Nat},Oks E os w xs vs→(∀v,vs[j]? =some v→x.ok E os w v)→Oks E os w (xs.set j x) vs
 | [],[],_,_,_=>trivial
 |y::xs,v::vs,0,h,hx=>⟨hx v rfl,h.2⟩
 |y::xs,v::vs,j+1,h,hx=>⟨h.1,OU (u:=u) h.2 (fun z hz=>hx z (by simpa using hz))⟩
 | [],_::_,_,h,_=>h.elim
 |_::_,[],_,h,_=>h.elim
theorem OV{os:List Own}{x:AC}:∀{xs:List AC} {vs:List Value} {j:Nat},Oks E os w xs vs→xs[j]? =some x→∀v,vs[j]? =some v→x.ok E os w v
 | [],[],_,_,hx,_,_=>by simp at hx
 | y::xs,v::vs,0,h,hx,z,hz=>by
   simp at hx hz;subst hx hz;exact h.1
 |y::xs,v::vs,j+1,h,hx,z,hz=>OV h.2 (by simpa using hx) z (by simpa using hz)
 | [],_::_,_,h,_,_,_=>h.elim
 |_::_,[],_,h,_,_,_=>h.elim
def St.JH(st:St)(kb j e s:Nat)(m:Bool):St:=⟨st.fr,st.owns++ [⟨[],e,s,0,⟨true,m⟩⟩],st.boxes.set kb ((st.boxes.getD kb []).set j (.own st.owns.length 0))⟩
theorem Rel.JH(h:Rel B Xs G w0 st E a w){kb j e s:Nat}{m:Bool}{xs:List AC}(hb:st.boxes[kb]? =some xs)(hx:xs[j]? =some (.raw (.slice none 0 0))):
 Rel B Xs G w0 (st.JH kb j e s m) {E with om:=E.om++ [(.slice none 0 0,[])]} a w:=by
 have h1:Rel B Xs G w0 ⟨st.fr,st.owns++ [⟨[],e,s,0,⟨true,m⟩⟩],st.boxes⟩ {E with om:=E.om++ [(.slice none 0 0,[])]} a w:=
  Rel.yA (fr:=st.fr) (os:=st.owns) (bs:=st.boxes) (x:= .any) (u:=undef) h (Below.refl _ _)
   ⟨rfl,fun k o p hk hp=>by
     cases k with
     | zero=>
       simp at hk hp;subst hk hp;exact⟨[],eX.nil,⟨rfl,rfl⟩,fun d hd=>by simp at hd,fun b hb=>by simp at hb⟩
     |succ k=>simp at hk,by simp[Value.ownBlock],Lin.one (fun _=>H_),Unf.one (fun _ b hb=>by simp at hb)⟩ none (fun _ _ _ _=>trivial)
 have hol:=h.olen;exact
  { eb:=h1.eb,ex:=h1.ex,sim:=h1.sim,defers:=h1.defers,size:=h1.size,fr:=h1.fr,olen:=h1.olen,own:=h1.own
    blen:=by rw[h1.blen];simp[St.JH]
    box:=fun k ys p hy hp=>by
     by_cases e1:kb=k
     ·subst e1;have hlt:kb<st.boxes.length:=(b_.1 hb).1;simp only[St.JH]at hy;rw[S_ hlt]at hy;injection hy with hy
      subst hy;have hg:st.boxes.getD kb []=xs:=by rw[c_,hb];rfl
      rw[hg];obtain⟨g1,vs,g2,g3⟩:=h1.box kb xs p hb hp;refine⟨g1,vs,g2,OU (u:=undef) g3 fun v hv=> ?_⟩;have hv2:v= .slice none 0 0:=OV g3 hx v hv;subst hv2;have e2:(st.owns++ [(⟨[],e,s,0,⟨true,m⟩⟩:Own)])[st.owns.length]? =some ⟨[],e,s,0,⟨true,m⟩⟩:=by rw[L_ (s_ _)];simp
      have e3:(E.om++ [(Value.slice none 0 0,([]:List Nat))])[st.owns.length]? =some (.slice none 0 0,[]):=by rw[L_ (by omega),hol];simp
      exact⟨⟨none,0,0,rfl⟩,⟨[],e,s,0,⟨true,m⟩⟩,(.slice none 0 0,[]),e2,e3,s_ _,fun _=>rfl⟩
     ·simp only[St.JH]at hy;rw[List.getElem?_set_ne e1]at hy;exact h1.box k ys p hy hp
    nodup:=h1.nodup,lin:=h1.lin,unf:=h1.unf,below:=h1.below,base:=h1.base}
theorem VE{lo:Nat×Nat}{c:IC}{Q:Exit→St→Prop}(kb j e s:Nat)(m:Bool){xs:List AC}(hb:st.boxes[kb]? =some xs)(hx:xs[j]? =some (.raw (.slice none 0 0)))(h:iK lo P c Q (st.JH kb j e s m)):iK lo P c Q st:=
 fun code hc B Xs G w0 hG E a w hR=>h code hc B Xs G w0 hG _ a w (hR.JH hb hx)
theorem L6{lo:Nat×Nat}{Q:Exit→St→Prop}{X:Type}{c:IC}(F:X→St)(inv:X→Prop)(μ:X→Nat)(x0:X)(pk0:List Nat)(h0:inv x0)(hl0:lo.1=0)(hlo:∀x,lo.2≤(F x).boxes.length)(hle:GR pk0 st (F x0))
 (round:∀x,inv x→iK lo P c (yI F inv μ x Q) (F x)):iK lo P (.loop c) Q st:=fun code hc B Xs G w0 hG E a w hR=>by
 have hG1:G.os.length=0:=Nat.le_zero.1 (hl0▸hG.1);have hG2:∀x,G.E.bm.length≤(F x).boxes.length:=fun x=>r_ hG.2 (hlo x)
 cases code with
 | loop cc=>
   simp only[bg]at hc;obtain⟨c',hcc,he⟩:=h_.1 hc;simp only[IC.loop.injEq]at he;subst he;obtain⟨E',hR'⟩:=hR.XL hle hG1 (hG2 _);refine FP (fun n a w=>∃x E,μ x=n∧inv x∧Rel B Xs G w0 (F x) E a w) (μ x0) ⟨x0,E',rfl,h0,hR'⟩ ?_;rintro n a w ⟨x,E,rfl,hx,hR⟩;refine wp_mono (round x hx cc hcc B Xs G w0 hG E a w hR) ?_;rintro e a' w' ⟨st',E',h1,h2⟩;cases e with
   | normal=>
     obtain⟨x',pk,h3,h4,h5⟩:=h2;obtain⟨E'',h6⟩:=h1.XL h3 hG1 (hG2 _);exact⟨μ x',h5,x',E'',rfl,h4,h6⟩
   |_=>exact⟨st',E',h1,h2⟩
 |region id cops b=>exact(oM hc (by simp) (by simp)).elim
 |block id x=>simp[bg]at hc
 |cond c x y=>simp only[bg]at hc;split at hc<;>simp at hc
 |seq x y=>simp only[bg]at hc;split at hc<;>simp at hc
 |ret=>simp[bg]at hc
 |exit id=>simp[bg]at hc
 |skip=>simp[bg]at hc
 |label l=>simp[bg]at hc
 |rangeFunc=>simp[bg]at hc
 |scope=>simp[bg]at hc
 |goto=>simp[bg]at hc
 |refuse=>simp[bg]at hc
theorem NQ{lo:Nat×Nat}{Q:Exit→St→Prop}{X:Type}{c:IC}{fr0:List AV}{os0:List Own}{bs0:List (List AC)}(sp:X→List Sp)(ow:X→List Own)(bx:X→List (List AC)→List (List AC))(inv:X→Prop)(μ:X→Nat)(x0:X)(pk0:List Nat)(h0:inv x0)(hl0:lo.1=0)
 (hlo:∀x,lo.2≤(bx x bs0).length) (hle:GR pk0 ⟨fr0,os0,bs0⟩ (FB fr0 bs0 sp ow bx x0)) (round:∀x,inv x→iK lo P c (yI (FB fr0 bs0 sp ow bx) inv μ x Q) (FB fr0 bs0 sp ow bx x)):iK lo P (.loop c) Q ⟨fr0,os0,bs0⟩:=
 L6 (FB fr0 bs0 sp ow bx) inv μ x0 pk0 h0 hl0 hlo hle round
end
theorem szD(xs:Array UInt8):ByteArray.size ⟨xs⟩=xs.size:=rfl
theorem nv{G H:Prop}(k:H)(h:H→G:=by first|(with_reducible first|exact dG|exact bK|exact cO|exact cZ|exact dH|exact eU|exact bW|exact dF|exact aZ|exact bG|exact cu|exact bD|exact bZ|exact bn|exact bC)|((with_reducible refine bF ?_);rfl)|((with_reducible refine bH ?_);rfl)|((with_reducible refine bJ ?_);rfl)):G:=h k
section
variable{lo:Nat×Nat}{P:Program}{K:St→Prop}{Q:Exit→St→Prop}{st:St}{m:Bool}{F H:Prop}{l:List IOp}
theorem ss(f:F)(k:H)(h:F→(sw P K l st)=H:=by intro f;conv=>lhs;simp(disch:=first|decide|omega) only[↓pkS,pkW,pkA,pkZ,List.flatMap_cons,List.flatMap_nil,List.append_nil,dw,lvD,lcD,lvK,lcK,dA,ex,kav,gdA,opI,dZ,fJ,dV,AV.toD,AC.toD,AV.nw,AC.nw,AC.one,Value.oneCell',if_true,if_false,Bool.false_eq_true,dW,D.one,D.sz,Nat.reduceAdd,Nat.reduceSub,Nat.reduceLeDiff,Nat.reduceEqDiff,reduceIte,pkN,Ql,Int.reduceLT,Int.reduceLE,AV.fl,AC.fl,AV.shift,AC.shift,szD,List.size_toArray,ByteArray.size_append,xw,eqV,eqC,f]):sw P K l st:=(h f).mpr k
theorem nN{G:Prop}(k:H)(h:H→G:=by intro k;first|((with_reducible refine Wp ?_ k);(intro off;simp only[↓pkR,St.ev,List.getD_cons_zero,List.getD_cons_succ];first|done|(intro hx;cases hx)|(simp;done)))|((with_reducible refine Wn ?_ k);rfl)|((with_reducible refine RV ?_ k);rfl)|(with_reducible exact Wq k)):G:=h k
theorem rD{G:Prop}(k:H)(h:H→G:=by intro k;first|(with_reducible exact jU k)|((with_reducible refine yw false ?_ k);rfl)|((with_reducible refine yw true ?_ k);rfl)|((with_reducible refine fZ false ?_ k);rfl)|((with_reducible refine fZ true ?_ k);rfl)):G:=h k
theorem sS{G:Prop}(f:F)(k:H)(h:F→G=H:=by intro f;conv=>lhs;simp only[undef,stS,st0,stN,D.av,D.avN,aW,aN,aY,aX,aO,iL,aK,aJ,Ql,List.map_cons,List.map_nil,List.replicate,List.cons_append,List.nil_append,List.length_cons,List.length_nil,Nat.reduceAdd,Nat.reduceSub,f]):G:=(h f).mpr k
theorem cS{c:Opd}{x y:IC}{b:Bool}{p q:Prop}(hb:st.ev c= .c false [.raw (.bool b)])(h1:b=true→p→iK lo P x Q st)(h2:b=false→q→iK lo P y Q st)(hp:(b=true)=p:=by conv=>lhs;(try simp only[pkC]))(hq:(b=false)=q:=by conv=>lhs;(try simp only[pkC])):iK lo P (.cond c x y) Q st:=
 bI hb (fun h=>h1 h (hp.mp h)) (fun h=>h2 h (hq.mp h))
section
variable{d:Option Nat}{g:Nat}{w b:Bool}{i:I}{rest:List IOp}
theorem gi(k:sw P K (⟨d,some (g,w),i⟩::rest) st):sw P K (⟨d,some (g,w),i⟩::rest) st:=k
theorem gxi(k:sd P m K (⟨d,some (g,w),i⟩::rest) st):sd P m K (⟨d,some (g,w),i⟩::rest) st:=k
theorem gF(k:H)(h:(sw P K rest (st.put d (.c false [.raw undef])))=H:=by conv=>lhs;(try simp only[St.put,undef,pkA,Nat.reduceAdd,Nat.reduceSub,Nat.reduceLeDiff,Nat.reduceEqDiff])):sw P K rest (st.put d (.c false [.raw undef])):=h.mpr k
theorem gS{p q:Prop}(hg:st.fr.getD g .any= .c false [.raw (.bool b)])(h1:b=w→p→sw P K (⟨d,none,i⟩::rest) st)(h2:b= !w→q→sw P K rest (st.put d (.c false [.raw undef])))(hp:(b=w)=p:=by conv=>lhs;(try simp only[pkC]))(hq:(b= !w)=q:=by conv=>lhs;(try simp only[pkC])):
 sw P K (⟨d,some (g,w),i⟩::rest) st:=eH hg (fun h=>h1 h (hp.mp h)) (fun h=>h2 h (hq.mp h))
theorem gxF(k:H)(h:(sd P m K rest (st.put d (.c false [.raw undef])))=H:=by conv=>lhs;(try simp only[St.put,undef,pkA,Nat.reduceAdd,Nat.reduceSub,Nat.reduceLeDiff,Nat.reduceEqDiff])):sd P m K rest (st.put d (.c false [.raw undef])):=h.mpr k
theorem gxS{p q:Prop}(hg:st.fr.getD g .any= .c false [.raw (.bool b)])(h1:b=w→p→sd P m K (⟨d,none,i⟩::rest) st)(h2:b= !w→q→sd P m K rest (st.put d (.c false [.raw undef])))(hp:(b=w)=p:=by conv=>lhs;(try simp only[pkC]))(hq:(b= !w)=q:=by conv=>lhs;(try simp only[pkC])):
 sd P m K (⟨d,some (g,w),i⟩::rest) st:=Qr hg (fun h=>h1 h (hp.mp h)) (fun h=>h2 h (hq.mp h))
end
end
theorem gq_{G H:Prop}(k:H)(h:H→G:=by intro k;first|((with_reducible refine gi ?_);first|exact dN rfl k|(refine dP rfl ?_;refine gF ?_;exact k))|((with_reducible refine gxi ?_);first|exact yL rfl k|(refine yM rfl ?_;refine gxF ?_;exact k))):G:=h k
theorem cq_{lo:Nat×Nat}{P:Program}{c:Opd}{x y:IC}{Q:Exit→St→Prop}{st:St}(k:iK lo P (.cond c x y) Q st):iK lo P (.cond c x y) Q st:=k
theorem c2_{G A B:Prop}(a:A)(b:B)(h:A→B→G:=by intro a b;first|(with_reducible exact gS rfl a b)|(with_reducible exact gxS rfl a b)|((with_reducible refine cq_ ?_);(fail_if_success refine nv ?_);with_reducible exact cS rfl a b)):G:=h a b
theorem ca_{G A B:Prop}(a:A)(b:B)(h:A→B→G:=by intro a b;with_reducible exact je a b):G:=h a b
theorem hq_{G H:Prop}(k:H)(h:H→G:=by intro k;with_reducible exact hK _ k):G:=h k
theorem rg_{G H:Prop}(k:H)(h:H→G:=by intro k;first|(with_reducible exact jU k)|((with_reducible refine yw false ?_ k);rfl)|((with_reducible refine yw true ?_ k);rfl)):G:=h k
section
variable{P:Program}{K:St→Prop}{st:St}{m:Bool}{l:List IOp}
theorem Zd{H:Prop}(h:sw P K l st=H):sw P K l st=H:=h
theorem Ze{H:Prop}(h:sd P m K l st=H):sd P m K l st=H:=h
end
theorem sz_{G H F:Prop}(f:F)(k:H)(h:F→G=H:=by intro f;first|((with_reducible apply Zd);conv=>lhs;simp(disch:=first|decide|omega) only[↓pkS,pkW,pkA,pkZ,List.flatMap_cons,List.flatMap_nil,List.append_nil,dw,lvD,lcD,lvK,lcK,dA,ex,kav,gdA,opI,dZ,fJ,dV,AV.toD,AC.toD,AV.nw,AC.nw,AC.one,Value.oneCell',if_true,if_false,Bool.false_eq_true,dW,D.one,D.sz,Nat.reduceAdd,Nat.reduceSub,Nat.reduceLeDiff,Nat.reduceEqDiff,reduceIte,pkN,Ql,Int.reduceLT,Int.reduceLE,AV.fl,AC.fl,AV.shift,AC.shift,szD,List.size_toArray,ByteArray.size_append,xw,eqV,eqC,f])|((with_reducible apply Ze);conv=>lhs;simp(disch:=first|decide|omega) only[↓pkR,pkD,pkA,pkZ,List.flatMap_cons,List.flatMap_nil,List.append_nil,dw,lvD,lcD,lvK,lcK,dA,ex,kav,gdA,opI,dZ,fJ,dV,AV.toD,AC.toD,AV.nw,AC.nw,AC.one,Value.oneCell',if_true,if_false,Bool.false_eq_true,dW,D.one,D.sz,Nat.reduceAdd,Nat.reduceSub,Nat.reduceLeDiff,Nat.reduceEqDiff,reduceIte,pkN,Ql,Int.reduceLT,Int.reduceLE,AV.fl,AC.fl,AV.shift,AC.shift,szD,List.size_toArray,ByteArray.size_append,xw,eqV,eqC,f])):G:=(h f).mpr k
theorem cg_{G:Prop}(k:G)(h:G→G:=by intro k;first|(with_reducible exact jY k)|(with_reducible exact nO k)):G:=h k
theorem cT_{G H:Prop}{P:Program}{f:Nat}{ds:List D}{r:AV}(hc:dK P f ds r)(k:H)(h:dK P f ds r→H→G:=by intro hc k;first|((with_reducible refine jY ?_);exact fH (hc:=hc) (h:=k))|((with_reducible refine nO ?_);exact Xu (hc:=hc) (h:=k))):G:=h hc k
theorem bq_{G:Prop}(h:G:=by first|(first|(with_reducible rfl)|(with_reducible refine dD ?_;kernel_rfl)|exact aC _|exact aF _|exact el_ln _|exact el_tk _ _|exact el_td _ _ _|omega|(simp;done)|(simp;omega))|((with_reducible refine dI ?_);first|exact⟨⟨rfl,rfl⟩,trivial⟩|exact trivial|exact⟨⟨rfl,rfl⟩,⟨rfl,rfl⟩,trivial⟩|exact⟨⟨rfl,rfl⟩,⟨rfl,rfl⟩,⟨rfl,rfl⟩,trivial⟩|(simp[St.ev,List.map_cons,List.map_nil,List.getD_cons_zero,List.getD_cons_succ,aP,bP,bM,dL,AC.toD,aA,aj,au,ay,Value.oneCell',aQ,aH,aU,aS,aW,aN,aY,aX,dQ,dR,aK,aJ,Ql,AV.fl,AC.fl,AV.shift,AC.shift,List.append_nil];first|done|rfl))):G:=h
theorem a3_{A B C:Prop}(a:A)(b:B)(c:C):A∧(B∧C):=⟨a,b,c⟩
theorem a4_{A B C D:Prop}(a:A)(b:B)(c:C)(d:D):A∧(B∧(C∧D)):=⟨a,b,c,d⟩
theorem a5_{A B C D E:Prop}(a:A)(b:B)(c:C)(d:D)(e:E):A∧(B∧(C∧(D∧E))):=⟨a,b,c,d,e⟩
theorem a6_{A B C D E F:Prop}(a:A)(b:B)(c:C)(d:D)(e:E)(f:F):A∧(B∧(C∧(D∧(E∧F)))):=⟨a,b,c,d,e,f⟩
theorem a7_{A B C D E F G:Prop}(a:A)(b:B)(c:C)(d:D)(e:E)(f:F)(g:G):A∧(B∧(C∧(D∧(E∧(F∧G))))):=⟨a,b,c,d,e,f,g⟩
theorem a9_{A B C D E F G H I:Prop}(a:A)(b:B)(c:C)(d:D)(e:E)(f:F)(g:G)(h:H)(i:I):A∧(B∧(C∧(D∧(E∧(F∧(G∧(H∧I))))))):=⟨a,b,c,d,e,f,g,h,i⟩
def zz_(d:Nat)(i:I):IOp:=⟨some d,none,i⟩
def zy_(d t:Nat)(i:I):IOp:=⟨some d,some (t,true),i⟩
def zx_(d t:Nat)(i:I):IOp:=⟨some d,some (t,false),i⟩
def zw_(d a:Nat):IOp:=⟨some d,none,.mov (.t a)⟩
def zv_(d t a:Nat):IOp:=⟨some d,some (t,true),.mov (.t a)⟩
def zu_(d t a:Nat):IOp:=⟨some d,some (t,false),.mov (.t a)⟩
def zt_(d k a:Nat):IOp:=⟨some d,none,.fad k (.t a)⟩
def zs_(d k a:Nat):IOp:=⟨some d,none,.load k false (.t a)⟩
def zr_(d k a:Nat):IOp:=⟨some d,none,.load k true (.t a)⟩
def zq_(d f a:Nat):IOp:=⟨some d,none,.call f [.t a]⟩
def zp_(d f a b:Nat):IOp:=⟨some d,none,.call f [.t a,.t b]⟩
def zo_(d f a b c:Nat):IOp:=⟨some d,none,.call f [.t a,.t b,.t c]⟩
def zn_(d f a:Nat)(z:Int):IOp:=⟨some d,none,.call f [.t a,.k (.int .i64 z)]⟩
def zm_(d:Nat)(o:BinOp)(a:Nat)(z:Int):IOp:=⟨some d,none,.bin o (.t a) (.k (.int .i64 z))⟩
def zl_(d:Nat)(o:BinOp)(a b:Nat):IOp:=⟨some d,none,.bin o (.t a) (.t b)⟩
def zk_(d:Nat)(z:Int):IOp:=⟨some d,none,.mov (.k (.int .i64 z))⟩
def zj_(d:Nat)(v:Bool):IOp:=⟨some d,none,.mov (.k (.bool v))⟩
def zi_(d a:Nat):IOp:=⟨some d,none,.nck (.t a)⟩
def zh_(d a b:Nat)(v:Bool):IOp:=⟨some d,none,.pick (.t a) (.t b) (.k (.bool v))⟩
def zg_(d a:Nat)(v:Bool)(b:Nat):IOp:=⟨some d,none,.pick (.t a) (.k (.bool v)) (.t b)⟩
def zf_(d:Nat)(v:Bool)(a:Nat):IOp:=⟨some d,none,.len v (.t a)⟩
def ze_(d k a b:Nat):IOp:=⟨some d,none,.iad k (.t a) (.t b)⟩
def zd_(l:List IOp)(x:IC):IC:= .seq (.reg false l) x
def zc_(n:Nat)(v:Bool)(y:IC):IC:= .seq (.reg false [⟨some n,none,.mov (.k (.bool v))⟩]) y
theorem zb_{G H:Prop}(k:H)(h:G=H:=by conv=>lhs;dsimp only[zz_,zy_,zx_,zw_,zv_,zu_,zt_,zs_,zr_,zq_,zp_,zo_,zn_,zm_,zl_,zk_,zj_,zi_,zh_,zg_,zf_,ze_,zd_,zc_]):G:=h.mpr k
theorem za_{a b:Int}(h:a≠b):(a==b)=false:=beq_false_of_ne h
end Go.Proofs.YtfengkmaphbofaaGreatDoor
