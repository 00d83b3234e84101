/-
  Texts joined: Ir8 Ir9 IrA IrB IrQ IrC.
-/
import Derived.Test.YtagaefgglphkgaaJB
import Derived.Deep.OwnRows
import Derived.Laws.BytesArg
set_option linter.unusedSimpArgs false
set_option linter.unusedVariables false
namespace Go.Proofs.Ytagaefgglphkgaa
open Go.RowKit
open List renaming length_take→a_,length_append→b_,mem_append→c_,getElem?_eq_some_iff→d_,append_assoc→f_,mem_of_mem_take→g_,flatMap_cons→i_,nodup_append→j_,getElem?_set_self→k_,length_drop→l_,length_set→m_,getElem?_eq_getElem→n_,take_append_drop→o_,drop_left'→p_,take_of_length_le→r_,getElem_mem→s_,drop_drop→v_,getD_eq_getElem?_getD→y_,take_append→z_,mem_of_mem_drop→B_,getElem?_map→D_,getElem?_set_ne→E_,set_eq_take_append_cons_drop→F_,replicate→G_,map_cons→J_,size_toArray→M_,mem_append_right→N_,mem_flatMap→O_,mem_of_getElem? →P_,mem_cons→Q_,drop_eq_getElem_cons→S_,mem_or_eq_of_mem_set→T_,all_cons→X_,singleton_append→Y_,range→Z_,mem_append_left→a_a,take_left'→a_b,eq_nil_of_length_eq_zero→a_c,take_append_of_le_length→a_d,drop_append_of_le_length→a_e,toList_toArray→a_g,getElem?_append_right→a_i,length_cons→a_l,take_take→a_s,drop_take→a_t,nodup_nil→a_u,getElem?_eq_none→a_v,take_add→a_z,replicate_succ→a_A,flatMap_append→a_C,mem_map→a_D,map_map→a_I,all_eq_true→a_M,flatMap_def→a_N,append_nil→a_S,take→a_U
open Or renaming inl→e_,inr→h_
open Bool renaming and_eq_true→q_,or_eq_false_iff→a_w
open Nat renaming le_refl→t_,min_eq_left→x_,mul_le_mul_right→C_,add_assoc→K_,mul_le_mul_left→a_f,add_mul→a_h,add_zero→a_o,add_sub_cancel_left→a_p,le_trans→a_E,le_of_eq→a_H,mul_le_mul→a_T,lt_or_ge→a_X
open Oper renaming wp→u_,upon_enter→a_O
open Option.some renaming injEq→w_
open Value renaming ownBlock→A_,cells→a_J
open Option renaming getD_none→H_,getD_some→I_,map_some→a_P
open World renaming frozen?_of_block→L_,ownsRow_lit→a_k
open Region renaming wanted→R_
open Below renaming refl→U_
open Result renaming andThen_ok→V_
open Instr renaming sliceBounds→W_,sliceAt→a_j,sliceBound→a_n,slice→a_q,sureAddr→a_r,storeAt→a_y,buildSlice→a_K
section
variable{P:Program}{B:Nat}{Xs:List Nat}{G:Org}{w0:World}{fr:List AV}{os:List Own}{bs:List (List AC)}{E:Env}{a:Act}{w:World}{d:Option Tmp}{K:Act→World→Prop}{Q:Exit→Act→World→Prop}
 {ty:TypeId} {pos:String} {after:Array Edge} {guard:Option (Nat×Bool)}
theorem JD{st:St}(h:Rel B Xs G w0 st E a w):∀(xs:List Operand) (ds:List D),gy (xs.map fun x=>st.ev (opd x))=some ds→
 D.ones ds∧ds.length=xs.length∧(∀s,(∀d∈ds,d.sz=s)→∀x∈xs,(a.eval x).cells.size=s)∧
 ∃fp,Rs w ds fp (xs.flatMap fun x=>(a.eval x).cells.toList)∧∀b∈fp,b∉E.M∧((xs.map fun x=>st.ev (opd x)).all AV.nw=true→E.nw b)
 | [],ds,hd=>by
   injection hd with hd
   subst hd;exact⟨trivial,rfl,fun _ _ x hx=>by simp at hx,[],⟨rfl,rfl⟩,fun b hb=>by simp at hb⟩
 | x ::xs,ds,hd=>by
   rw[J_,gy]at hd;split at hd
   ·next d ds' h1 h2=>
    injection hd with hd
    subst hd;obtain⟨o1,s1,f1,r1,m1⟩:=AV.toD_ok h1 (dM h x);obtain⟨o2,l2,s2,f2,r2,m2⟩:=JD h xs ds' h2;refine⟨⟨o1,o2⟩,by simp[l2],fun s hs y hy=> ?_,f1++f2, ?_,fun b hb=> ?_⟩
    ·rcases Q_.1 hy with rfl|hy
     ·rw[← s1];exact hs d (by simp)
     ·exact s2 s (fun z hz=>hs z (by simp[hz])) y hy
    ·rw[i_];exact⟨f1,f2,_,_,rfl,rfl,r1,r2⟩
    ·simp only[J_,X_,q_];rcases c_.1 hb with h'|h'
     ·exact⟨(m1 b h').1,fun e=>(m1 b h').2 e.1⟩
     ·exact⟨(m2 b h').1,fun e=>(m2 b h').2 e.2⟩
   ·cases hd
theorem I4{t e s n:Nat}{ps:Array (Nat×Operand)}(ht:jw P t=some (e,s))(he:pW P e s=true)(hn:n*s≤2 ^ 24)(hp:ps.toList.map (·.1)=Z_ n)(hs:∀x∈ps.toList.map (·.2),(a.eval x).cells.size=s):
 (a_K t n (ps.map fun(i,x)=>(i,a.eval x))).run P w= .ok (.slice (some ⟨w.heap.size,0,none⟩) n n) (w.alloc (.cells ((ps.toList.map (·.2)).flatMap fun x=>(a.eval x).cells.toList).toArray e)):=by
 obtain⟨h1,inf,h2,h3⟩:=lX ht;obtain⟨i,z,h4,h5,h6,h7,h8,h9⟩:=mZ he;rw[h2]at h4;injection h4 with h4
 subst h4;have hlen:ps.toList.length=n:=by have:=congrArg List.length hp;simpa using this
 have hl:n*s=(ps.toList.map (·.2)).length*s:=by rw[List.length_map,hlen]
 by_cases h0:n=0
 ·subst h0;have:ps.toList= []:=a_c hlen;have hps:ps= #[]:=by
   apply Array.toList_inj.1;simpa using this
  subst hps;have e0:Array.map (fun x=>(default:Value)) (Array.range 0)= #[]:=by apply Array.eq_empty_of_size_eq_zero;simp
  simp[a_K,run_underlying h1,sizeOf,typeInfo,h2,Instr.fill,newRow,e0]
 ·have hpos:¬n*s=0:=by
   intro e0;rcases Nat.mul_eq_zero.1 e0 with h|h<;>omega
  have hfill:=Go.Great.fill_whole (s:=s) h9 ((ps.toList.map (·.2)).map a.eval) ((Array.range (n*s)).map (z.cells[· % z.cells.size]!)) (fun v hv=>by
   obtain⟨x,hx,rfl⟩:=a_D.1 hv;exact hs x hx) (by simp[hlen])
  have hz:(((ps.toList.map (·.2)).map a.eval).zipIdx 0).map (fun x=>(x.2,x.1))=(ps.map fun(i,x)=>(i,a.eval x)).toList:=by
   rw[Array.toList_map];apply List.ext_getElem?;intro j;have hj:(ps.toList.map (·.1))[j]? =(Z_ n)[j]? :=by rw[hp]
   rw[D_,List.getElem?_zipIdx,D_,D_,D_];rw[D_]at hj;cases hg:ps.toList[j]? with
   |none=>simp
   | some p=>
     rw[hg]at hj;have hjl:j<n:=by rw[← hlen];exact(d_.1 hg).1
     rw[List.getElem?_range hjl]at hj;simp at hj;simp[hj]
  have hrun:=run_buildSlice (P:=P) w t e n (ps.map fun(i,x)=>(i,a.eval x)) (((ps.toList.map (·.2)).map a.eval).flatMap fun v=>v.cells.toList).toArray inf z h1 h2 h5 (by rw[h6];omega) (by rw[h6];exact hpos) (by rw[← hz,h6];exact hfill);rw[hrun,List.flatMap_map]
theorem Ht{s:Nat}{xs:List Operand}(h:∀x∈xs,(a.eval x).cells.size=s):(xs.flatMap fun x=>(a.eval x).cells.toList).length=xs.length*s:=by
 induction xs with
 |nil=>simp
 | cons x xs ih=>
   rw[i_,b_,ih (fun y hy=>h y (by simp[hy])),a_l,a_h];have:=h x (by simp);simp[this];omega
theorem Nb{t e s n:Nat}{ps:Array (Nat×Operand)}{ds:List D}(h:Rel B Xs G w0 ⟨fr,os,bs⟩ E a w)(ht:jw P t=some (e,s))(he:pW P e s=true)(hn:n*s≤2 ^ 24)(hp:ps.toList.map (·.1)=Z_ n)
 (hd:gy ((ps.toList.map fun p=>opd p.2).map (St.ev ⟨fr,os,bs⟩))=some ds) (hs:∀d∈ds,d.sz=s) (hl:ds.length=n):
 gI P B Xs G w0 fr a w ⟨d,.buildSlice t n ps,ty,pos,after,guard⟩ Q (.c false [.sl (((ps.toList.map fun p=>opd p.2).map (St.ev ⟨fr,os,bs⟩)).all AV.nw) ds]) os bs:=by
 have e1:(ps.toList.map fun p=>opd p.2).map (St.ev ⟨fr,os,bs⟩)=(ps.toList.map (·.2)).map fun x=>St.ev ⟨fr,os,bs⟩ (opd x):=by simp
 rw[e1]at hd⊢;obtain⟨o1,l1,s1,fp,r1,m1⟩:=JD h _ ds hd;have hrun:=I4 (P:=P) (w:=w) (a:=a) ht he hn hp (s1 s hs);have hb:Below w.heap.size w (w.alloc (.cells ((ps.toList.map (·.2)).flatMap fun x=>(a.eval x).cells.toList).toArray e)):=(U_ _ _).alloc (t_ _) _;intro K hK;refine oH (v:= .slice (some ⟨w.heap.size,0,none⟩) n n) ?_ (hK E _ _ (h.lK hb ⟨?_,trivial⟩))
 ·simp only[execOp,Sem.run_bind,hrun,V_];rfl
 ·have hs9:0<s:=by obtain⟨_,_,_,_,_,_,_,h9⟩:=mZ he;exact h9
  have hnm:n≤maxLen:=by
   have:n*1≤n*s:=a_f n hs9;unfold maxLen;omega
  have hrow:=Row.new w e ((ps.toList.map (·.2)).flatMap fun x=>(a.eval x).cells.toList).toArray;refine⟨w.heap.size::fp,Sl.pG (by simpa using hrow) (r1.below hb) hl hnm,fun b hbm=> ?_⟩;rcases Q_.1 hbm with rfl|hbm
  ·exact⟨fun hm=>Nat.lt_irrefl _ (uh h hm).2,fun _=>h.qx h.base⟩
  ·exact m1 b hbm
theorem D.ones_mem :∀{l:List D},D.ones l→∀d∈l,d.one
 | [],_,d,hd=>by simp at hd
 | x::l,h,d,hd=>by
   rcases Q_.1 hd with rfl|hd
   ·exact h.1
   ·exact D.ones_mem h.2 d hd
theorem Nc{t e s n:Nat}{ps:Array (Nat×Operand)}{ds:List D}(h:Rel B Xs G w0 ⟨fr,os,bs⟩ E a w)(ht:jw P t=some (e,s))(he:pW P e s=true)(hn:n*s≤2 ^ 24)(hp:ps.toList.map (·.1)=Z_ n)
 (hd:gy ((ps.toList.map fun p=>opd p.2).map (St.ev ⟨fr,os,bs⟩))=some ds) (hs:∀d∈ds,d.sz=s) (hl:ds.length=n):
 gI P B Xs G w0 fr a w ⟨d,.buildSlice t n ps,ty,pos,after,guard⟩ Q (.c false [.own os.length 0]) (os++ [⟨ds,e,s,0,((ps.toList.map fun p=>opd p.2).map (St.ev ⟨fr,os,bs⟩)).all AV.nw⟩]) bs:=by
 have e1:(ps.toList.map fun p=>opd p.2).map (St.ev ⟨fr,os,bs⟩)=(ps.toList.map (·.2)).map fun x=>St.ev ⟨fr,os,bs⟩ (opd x):=by simp
 rw[e1]at hd⊢;obtain⟨o1,l1,s1,fp,r1,m1⟩:=JD h _ ds hd;have hrun:=I4 (P:=P) (w:=w) (a:=a) ht he hn hp (s1 s hs);have hb:Below w.heap.size w (w.alloc (.cells ((ps.toList.map (·.2)).flatMap fun x=>(a.eval x).cells.toList).toArray e)):=(U_ _ _).alloc (t_ _) _;have hs9:0<s:=by obtain⟨_,_,_,_,_,_,_,h9⟩:=mZ he;exact h9
 have hnm:n≤maxLen:=by
  have:n*1≤n*s:=a_f n hs9;unfold maxLen;omega
 have hfl:=Ht (a:=a) (s1 s hs);intro K hK;refine oH (v:= .slice (some ⟨w.heap.size,0,none⟩) n n) ?_ (hK {E with om:=E.om++ [(.slice (some ⟨w.heap.size,0,none⟩) n n,fp)]} _ _ (h.Ad hb (o:=⟨ds,e,s,0,_⟩) (cs:=(ps.toList.map (·.2)).flatMap fun x=>(a.eval x).cells.toList) ?_ (r1.below hb) (fun z hz=>⟨D.ones_mem o1 z hz,hs z hz⟩) (fun b hbm=> ?_) rfl d))
 ·simp only[execOp,Sem.run_bind,hrun,V_];rfl
 ·have:=aS.of (a_k (base:=w.heap.size) (e:=e) (size:=s) w ((ps.toList.map (·.2)).flatMap fun x=>(a.eval x).cells.toList).toArray n (t_ _) hnm (by simp only[M_];rw[hfl,← l1,hl]));simpa[hl]using this
 ·refine⟨(m1 b hbm).1,fun e2=> ?_,fun e2=>(m1 b hbm).2 e2⟩;simp only[A_,w_]at e2;have:=Rs.lt r1 b hbm;omega
theorem QV{w:World}(z:Value):∀k,Rs w (G_ k (.leaf z)) [] (G_ k z)
 |0=>⟨rfl,rfl⟩
 | k+1=>by
   rw[a_A,a_A];exact(bP).2 ⟨_,rfl,QV z k⟩
theorem BQ{z:Value}(h:zA z=true):z.cells= #[z]∧(D.leaf z).one∧(D.leaf z).sz=1:=by
 cases z<;>first|(simp[zA]at h;done)|exact⟨rfl,rfl,rfl⟩
theorem MF{a:Act}{l c:Operand}(h:J3 (opd l) (opd c)=true):a.eval c=a.eval l:=by
 cases l<;>cases c<;>simp[opd,J3]at h<;>(try subst h)<;>first|rfl|(simp_all;done)
theorem RQ{t e k:Nat}{l c:Operand}{z:Value}(h:Rel B Xs G w0 ⟨fr,os,bs⟩ E a w)(ht:jw P t=some (e,1))(he:pW P e 1=true)(hz:(P.info? e).bind (·.zero)=some z)(hs:zA z=true)(hlc:J3 (opd l) (opd c)=true)
 (hl:bI (St.ev ⟨fr,os,bs⟩ (opd l))=some ((k:Nat):Int)) (hk:k≤4194304):
 gI P B Xs G w0 fr a w ⟨d,.makeSlice t l c,ty,pos,after,guard⟩ Q (.c false [.own os.length 0]) (os++ [⟨G_ k (.leaf z),e,1,0,true⟩]) bs:=by
 obtain⟨ik,hx⟩:=rH hl;have hev:a.eval l= .int ik k:=bT h hx;have hec:a.eval c= .int ik k:=(MF hlc).trans hev;obtain⟨g1,i,g2,g3⟩:=lX ht;obtain⟨i',z',g4,g5,g6,g7,g8,g9⟩:=mZ he;rw[g2]at g4;injection g4 with g4
 subst g4;rw[g2]at hz;have hz':i.zero=some z:=hz;obtain⟨q1,q2,q3⟩:=BQ hs;have hby:i.bytes*k≤281474976710656:=a_E (a_T g7 hk) (by decide);have hrun:=Go.run_make_row (P:=P) t e i z g1 g2 hz' g3 q1 ik ik k hby (by omega) w;have hb:Below w.heap.size w (w.alloc (.cells (madeCells #[z] k) e)):=(U_ _ _).alloc (t_ _) _;have hcs:(madeCells #[z] k).toList=G_ k z:=by
  apply List.ext_getElem
  ·simp[madeCells]
  ·intro j h1 h2;simp[madeCells,Nat.mod_one]
 intro K hK;refine oH (v:= .slice (some ⟨w.heap.size,0,none⟩) k k) ?_ (hK {E with om:=E.om++ [(.slice (some ⟨w.heap.size,0,none⟩) k k,[])]} _ _ (h.Ad hb (o:=⟨G_ k (.leaf z),e,1,0,true⟩) (cs:=G_ k z) ?_ (QV z k) (fun y hy=>by obtain⟨_,rfl⟩:=List.mem_replicate.1 hy;exact⟨q2,q3⟩) (fun b hb=>by simp at hb) rfl d))
 ·simp only[execOp,Sem.run_bind,hev,hec,hrun,V_];rfl
 ·have:=aS.of (a_k (base:=w.heap.size) (e:=e) (size:=1) w (madeCells #[z] k) k (t_ _) (by unfold maxLen;omega) (by simp[madeCells]));rw[hcs]at this;simpa using this
theorem SG{st:St}(h:Rel B Xs G w0 st E a w){x:AC}{dd:D}{v:Value}(hd:jg st.owns x=some dd)(hx:x.ok E st.owns w v):dd.sz=1∧∃fp,R w dd fp [v]:=by
 cases x with
 | own k i=>
   simp only[jg]at hd;obtain⟨_,o,p,h1,h2,h3,h4⟩:=hx;rw[h1]at hd;simp only at hd;split at hd
   ·next hv=>
    injection hd with hd
    subst hd;obtain rfl:=h4 hv;obtain⟨cs,h5,h6,_⟩:=h.own k o p h1 h2;exact⟨rfl,_,Sl.kU h5 h6⟩
   ·cases hd
 | osub k i p q=>
   simp only[jg]at hd;obtain⟨_,o,pp,h1,h2,h3,h4⟩:=hx;rw[h1]at hd;simp only at hd;split at hd
   ·next hv=>
    injection hd with hd
    subst hd;obtain⟨A,n,c,q1,q2,q3,rfl⟩:=h4 hv;obtain⟨cs,h5,h6,h7,_⟩:=h.own k o pp h1 h2;have hS:=Sl.kU h5 h6;rw[q1]at hS;have hn:n=o.l.length:=by
     obtain⟨A',c',e1,_,_⟩:=hS.form;injection e1
    obtain⟨f,h9,_⟩:=Sl.sub hS (s:=o.s) (fun d hd=>(h7 d hd).2) q2 (by omega);exact⟨rfl,f,h9⟩
   ·cases hd
 |cl f caps=>simp[jg,AC.toD]at hd
 |any=>simp[jg,AC.toD]at hd
 |raw u=>obtain⟨_,h1,fp,h2,_⟩:=toD_ok (x:= .raw u) hd hx;exact⟨h1,fp,h2⟩
 |sl n l=>obtain⟨_,h1,fp,h2,_⟩:=toD_ok (x:= .sl n l) hd hx;exact⟨h1,fp,h2⟩
theorem Bf{st:St}(h:Rel B Xs G w0 st E a w):∀{xs:List AC} {ds:List D} {vs:List Value},fU st.owns xs=some ds→Oks E st.owns w xs vs→∃fp,Rs w ds fp vs
 | [],ds,[],hd,_=>by
   injection hd with hd
   subst hd;exact⟨[],rfl,rfl⟩
 | x::xs,ds,v::vs,hd,hx=>by
   rw[fU]at hd;split at hd
   ·next d ds' h1 h2=>
    injection hd with hd
    subst hd;obtain⟨_,f1,r1⟩:=SG h h1 hx.1;obtain⟨f2,r2⟩:=Bf h h2 hx.2;exact⟨f1++f2,f1,f2,[v],vs,rfl,rfl,r1,r2⟩
   ·cases hd
 | [],_,_::_,_,h=>h.elim
 |_::_,_,[],_,h=>h.elim
theorem QN{st:St}(h:Rel B Xs G w0 st E a w){x:AV}{dd:D}{v:Value}(hd:iW st.owns x dd)(hx:x.ok E st.owns w v):Rd w dd v:=by
 cases x with
 | c g xs=>
   obtain⟨h1,rfl⟩:=hd;unfold Rd;cases hg:dd.isAgg with
   | true=>
     rw[if_pos rfl];rw[hg]at hx;obtain⟨vs,h2,h3⟩:=hx;obtain⟨fp,h4⟩:=Bf h h1 h3;exact⟨fp,vs,h2,jS.2 h4⟩
   | false=>
     rw[if_neg (by simp)];rw[hg]at hx;obtain⟨fp,h4⟩:=Bf h h1 (show Oks E st.owns w xs [v] from hx);exact⟨fp,jS.2 h4⟩
 |any=>exact hd.elim
 |ptr _=>exact hd.elim
 |bptr _ _=>exact hd.elim
 |eptr _ _ _ _=>exact hd.elim
 |tup _=>exact hd.elim
theorem zI{st:St}(h:Rel B Xs G w0 st E a w):∀{xs:List Operand} {ds:List D},aO st.owns (xs.map fun x=>st.ev (opd x)) ds→Rds w ds (xs.map a.eval)
 | [],[],_=>trivial
 |x::xs,d::ds,hd=>⟨QN h hd.1 (dM h x),zI h hd.2⟩
 | [],_::_,hd=>hd.elim
 |_::_,[],hd=>hd.elim
theorem xJ{st:St}(h:Rel B Xs G w0 st E a w):∀{xs:List AC} {ds:List D} {vs:List Value},fU [] xs=some ds→Oks E st.owns w xs vs→∃fp,Rs w ds fp vs∧∀b∈fp,b<w.heap.size∧b∉E.M
 | [],ds,[],hd,_=>by
   injection hd with hd
   subst hd;exact⟨[],⟨rfl,rfl⟩,fun b hb=>by simp at hb⟩
 | x::xs,ds,v::vs,hd,hx=>by
   rw[fU]at hd;split at hd
   ·next d ds' h1 h2=>
    injection hd with hd
    subst hd;have h1':x.toD=some d:=by cases x<;>simp_all [jg]
    obtain⟨_,_,f1,r1,m1⟩:=toD_ok h1' hx.1;obtain⟨f2,r2,m2⟩:=xJ h h2 hx.2;refine⟨f1++f2,⟨f1,f2,[v],vs,rfl,rfl,r1,r2⟩,fun b hb=> ?_⟩;rcases c_.1 hb with hb|hb
    ·exact⟨R.lt r1 b hb,(m1 b hb).1⟩
    ·exact m2 b hb
   ·cases hd
 | [],_,_::_,_,h=>h.elim
 |_::_,_,[],_,h=>h.elim
theorem RdF.mono{F G:List Nat}{d:D}{v:Value}(h:RdF w F d v)(hs:∀b∈F,b∈G):RdF w G d v:=by
 unfold RdF at*;split at h
 ·obtain⟨fp,cs,h1,h2,h3⟩:=h;rw[if_pos ‹_›];exact⟨fp,cs,h1,h2,fun b hb=>hs b (h3 b hb)⟩
 ·obtain⟨fp,h2,h3⟩:=h;rw[if_neg ‹_›];exact⟨fp,h2,fun b hb=>hs b (h3 b hb)⟩
theorem xW.mono{F G:List Nat}(hs:∀b∈F,b∈G):∀{ds:List D} {vs:List Value},xW w F ds vs→xW w G ds vs
 | [],[],_=>trivial
 |d::ds,v::vs,h=>⟨h.1.mono hs,xW.mono hs h.2⟩
 | [],_::_,h=>h.elim
 |_::_,[],h=>h.elim
theorem SC{st:St}(h:Rel B Xs G w0 st E a w){x:AV}{dd:D}{v:Value}(hd:iW [] x dd)(hx:x.ok E st.owns w v):∃F,RdF w F dd v∧∀b∈F,b<w.heap.size∧b∉E.M:=by
 cases x with
 | c g xs=>
   obtain⟨h1,rfl⟩:=hd;unfold RdF;cases hg:dd.isAgg with
   | true=>
     rw[hg]at hx;obtain⟨vs,h2,h3⟩:=hx;obtain⟨fp,h4,h5⟩:=xJ h h1 h3;exact⟨fp,by rw[if_pos rfl];exact⟨fp,vs,h2,jS.2 h4,fun b hb=>hb⟩,h5⟩
   | false=>
     rw[hg]at hx;obtain⟨fp,h4,h5⟩:=xJ h h1 (show Oks E st.owns w xs [v] from hx);exact⟨fp,by rw[if_neg (by simp)];exact⟨fp,jS.2 h4,fun b hb=>hb⟩,h5⟩
 |any=>exact hd.elim
 |ptr _=>exact hd.elim
 |bptr _ _=>exact hd.elim
 |eptr _ _ _ _=>exact hd.elim
 |tup _=>exact hd.elim
theorem Ii{st:St}(h:Rel B Xs G w0 st E a w):∀{xs:List Operand} {ds:List D},aO [] (xs.map fun x=>st.ev (opd x)) ds→∃F,xW w F ds (xs.map a.eval)∧∀b∈F,b<w.heap.size∧b∉E.M
 | [],[],_=>⟨[],trivial,fun b hb=>by simp at hb⟩
 | x::xs,d::ds,hd=>by
   obtain⟨F1,h1,h2⟩:=SC h hd.1 (dM h x);obtain⟨F2,h3,h4⟩:=Ii h hd.2;refine⟨F1++F2,⟨h1.mono (fun b hb=>a_a _ hb),h3.mono (fun b hb=>N_ _ hb)⟩,fun b hb=> ?_⟩;rcases c_.1 hb with hb|hb
   ·exact h2 b hb
   ·exact h4 b hb
 | [],_::_,hd=>hd.elim
 |_::_,[],hd=>hd.elim
theorem rC{f:Nat}{args:Array Operand}{ats:Array TypeId}{fn:Func}(hf:P.funcs[f]? =some fn)(hn:(fn.name== "runtime.NumGoroutine" || fn.body.isNone)=false)
 (h:Calls P f (args.toList.map a.eval).toArray w fun e w'=>∃v,e= .returned v∧K (a.put d v) w'):u_ P ⟨d,.call {callee:= .value (.func f),args:=args,argTypes:=ats},ty,pos,after,guard⟩ a w K Q:=by
 simp only[a_w]at hn;have hn1:¬fn.name= "runtime.NumGoroutine" :=by simpa using hn.1
 have hn2:¬fn.body=none:=by intro e0;rw[e0]at hn;simp at hn
 have hrun:(execOp a.eval ⟨d,.call {callee:= .value (.func f),args:=args,argTypes:=ats},ty,pos,after,guard⟩).run P w= .ok (.enter f (args.toList.map a.eval).toArray) w:=by
  have e1:args.map a.eval=(args.toList.map a.eval).toArray:=by apply Array.ext';simp
  simp[execOp,resolve,Deferred.ofValue,invoke,callFunc,Act.eval,hf,hn1,hn2,e1]
 unfold u_;rw[hrun,a_O];refine h.mono ?_;rintro e w' ⟨v,rfl,hK⟩;exact hK
theorem MO{H:Nat}{w':World}(h:Rel B Xs G w0 ⟨fr,os,bs⟩ E a w)(hH:H=w.heap.size):∀{x:AC} {v:Value},x.ok (kE H) [] w' v→x.ok E os w' v:=by
 subst hH;intro x v hx;cases x with
 |any=>trivial
 |raw u=>exact hx
 | sl n l=>
   obtain⟨fp,h1,h2⟩:=hx;refine⟨fp,h1,fun b hb=>⟨fun hm=> ?_,fun _=> ?_⟩⟩
   ·have:=lU.1 (h2 b hb).1;have:=(uh h hm).2;omega
   ·have:=lU.1 (h2 b hb).1;have:=h.base;exact h.qx (by omega)
 | own k i=>
   obtain⟨_,o,p,h1,_⟩:=hx;simp at h1
 | osub k i a b=>
   obtain⟨_,o,p,h1,_⟩:=hx;simp at h1
 | cl f caps=>
   obtain⟨ps,h1,h2⟩:=hx;cases caps with
   | nil=>
     cases ps with
     |nil=>exact⟨[],rfl,h2⟩
     |cons p ps=>simp at h1
   |cons k caps=>cases ps<;>simp[kE,kD]at h1
theorem tH{w':World}(h:Rel B Xs G w0 ⟨fr,os,bs⟩ E a w):∀{xs:List AC} {vs:List Value},Oks (kE w.heap.size) [] w' xs vs→Oks E os w' xs vs
 | [],[],_=>trivial
 |x::xs,v::vs,hx=>⟨MO h rfl hx.1,tH h hx.2⟩
 | [],_::_,hx=>hx.elim
 |_::_,[],hx=>hx.elim
theorem AO{w':World}(h:Rel B Xs G w0 ⟨fr,os,bs⟩ E a w){g:Bool}{xs:List AC}{v:Value}(hx:Gok (kE w.heap.size) [] w' g xs v):Gok E os w' g xs v:=by
 cases g with
 |true=>obtain⟨vs,h1,h2⟩:=hx;exact⟨vs,h1,tH h h2⟩
 |false=>exact tH h (show Oks _ _ _ xs [v] from hx)
theorem x9{w':World}(h:Rel B Xs G w0 ⟨fr,os,bs⟩ E a w):∀{xs:List (Bool×List AC)} {vs:List Value},oK (kE w.heap.size) [] w' xs vs→oK E os w' xs vs
 | [],[],_=>trivial
 |x::xs,v::vs,hx=>⟨AO h hx.1,x9 h hx.2⟩
 | [],_::_,hx=>hx.elim
 |_::_,[],hx=>hx.elim
theorem NJ{w':World}(h:Rel B Xs G w0 ⟨fr,os,bs⟩ E a w){r:AV}{v:Value}(hr:r.res)(hx:r.ok (kE w.heap.size) [] w' v):r.ok E os w' v:=by
 cases r with
 |any=>trivial
 |c g xs=>exact AO h hx
 |tup ys=>obtain⟨vs,h1,h2⟩:=hx;exact⟨vs,h1,x9 h h2⟩
 |ptr _=>exact hr.elim
 |bptr _ _=>exact hr.elim
 |eptr _ _ _ _=>exact hr.elim
theorem MN{H:Nat}{F:List Nat}{w':World}(h:Rel B Xs G w0 ⟨fr,os,bs⟩ E a w)(hH:H=w.heap.size)(hF:∀b∈F,b∉E.M):∀{x:AC} {v:Value},x.old=true→x.ok (kD H F) [] w' v→x.ok E os w' v:=by
 subst hH;intro x v ho hx;cases x with
 |any=>trivial
 |raw u=>exact hx
 | sl n l=>
   obtain⟨fp,h1,h2⟩:=hx;refine⟨fp,h1,fun b hb=>⟨fun hm=> ?_,fun e=> ?_⟩⟩
   ·rcases zZ.1 (h2 b hb).1 with h3|h3
    ·have:=(uh h hm).2;omega
    ·exact hF b h3 hm
   ·subst e;simp[AC.old]at ho
 | own k i=>
   obtain⟨_,o,p,h1,_⟩:=hx;simp at h1
 | osub k i a b=>
   obtain⟨_,o,p,h1,_⟩:=hx;simp at h1
 | cl f caps=>
   obtain⟨ps,h1,h2⟩:=hx;cases caps with
   | nil=>
     cases ps with
     |nil=>exact⟨[],rfl,h2⟩
     |cons p ps=>simp at h1
   |cons k caps=>cases ps<;>simp[kE,kD]at h1
theorem tC{F:List Nat}{w':World}(h:Rel B Xs G w0 ⟨fr,os,bs⟩ E a w)(hF:∀b∈F,b∉E.M):∀{xs:List AC} {vs:List Value},xs.all AC.old=true→Oks (kD w.heap.size F) [] w' xs vs→Oks E os w' xs vs
 | [],[],_,_=>trivial
 | x::xs,v::vs,ho,hx=>by
   simp only[X_,q_]at ho;exact⟨MN h rfl hF ho.1 hx.1,tC h hF ho.2 hx.2⟩
 | [],_::_,_,hx=>hx.elim
 |_::_,[],_,hx=>hx.elim
theorem AL{F:List Nat}{w':World}(h:Rel B Xs G w0 ⟨fr,os,bs⟩ E a w)(hF:∀b∈F,b∉E.M){g:Bool}{xs:List AC}{v:Value}(ho:xs.all AC.old=true)(hx:Gok (kD w.heap.size F) [] w' g xs v):Gok E os w' g xs v:=by
 cases g with
 |true=>obtain⟨vs,h1,h2⟩:=hx;exact⟨vs,h1,tC h hF ho h2⟩
 |false=>exact tC h hF ho (show Oks _ _ _ xs [v] from hx)
theorem xZ{F:List Nat}{w':World}(h:Rel B Xs G w0 ⟨fr,os,bs⟩ E a w)(hF:∀b∈F,b∉E.M):∀{xs:List (Bool×List AC)} {vs:List Value},(xs.all fun y=>y.2.all AC.old)=true→oK (kD w.heap.size F) [] w' xs vs→oK E os w' xs vs
 | [],[],_,_=>trivial
 | x::xs,v::vs,ho,hx=>by
   simp only[X_,q_]at ho;exact⟨AL h hF ho.1 hx.1,xZ h hF ho.2 hx.2⟩
 | [],_::_,_,hx=>hx.elim
 |_::_,[],_,hx=>hx.elim
theorem NI{F:List Nat}{w':World}(h:Rel B Xs G w0 ⟨fr,os,bs⟩ E a w)(hF:∀b∈F,b∉E.M){r:AV}{v:Value}(hr:r.old=true)(hx:r.ok (kD w.heap.size F) [] w' v):r.ok E os w' v:=by
 cases r with
 |any=>trivial
 |c g xs=>exact AL h hF hr hx
 |tup ys=>obtain⟨vs,h1,h2⟩:=hx;exact⟨vs,h1,xZ h hF hr h2⟩
 |ptr _=>cases hr
 |bptr _ _=>cases hr
 |eptr _ _ _ _=>cases hr
theorem ML{w':World}{os':List Own}{om:List (Value×List Nat)}{E':Env}(h:Rel B Xs G w0 ⟨fr,os,bs⟩ E a w)(hM:∀b,b∈E'.M↔b∈E.M∨b∈om.flatMap fun q=>q.1.ownBlock.toList)(hn:E'.nw=E.nw)(ho:E'.om=E.om++om):
 ∀{x:AC} {v:Value},x.out=true→x.ok ⟨w.heap.size,om,[],[]⟩ os' w' v→(x.shift os.length).ok E' (os++os') w' v:=by
 intro x v hx hv;cases x with
 |any=>trivial
 |raw u=>exact hv
 | sl n l=>
   obtain rfl:n=true:=hx;obtain⟨fp,h1,h2⟩:=hv;refine⟨fp,h1,fun b hb=>⟨fun hm=> ?_,fun _=> ?_⟩⟩
   ·have h3:w.heap.size≤b:=by have:=(h2 b hb).2 rfl;simpa[Env.nw]using this
    rcases(hM b).1 hm with h'|h'
    ·have:=(uh h h').2;omega
    ·exact(h2 b hb).1 (by simpa[Env.M]using h')
   ·have h3:w.heap.size≤b:=by have:=(h2 b hb).2 rfl;simpa[Env.nw]using this
    rw[hn];exact h.qx (a_E h.base h3)
 | own k i=>
   obtain⟨hf,o,p,h1,h2,h3,h4⟩:=hv;refine⟨hf,o,p, ?_, ?_,h3,h4⟩
   ·rw[a_i (by omega),a_p];exact h1
   ·have:=h.olen;simp only at this;rw[ho,a_i (by omega),this,a_p];exact h2
 |osub k i a b=>cases hx
 | cl f caps=>
   obtain⟨ps,h1,h2⟩:=hv;cases caps with
   | nil=>
     cases ps with
     |nil=>exact⟨[],rfl,h2⟩
     |cons p ps=>simp at h1
   |cons k caps=>cases ps<;>simp[kE,kD]at h1
theorem tu{w':World}{os':List Own}{om:List (Value×List Nat)}{E':Env}(h:Rel B Xs G w0 ⟨fr,os,bs⟩ E a w)(hM:∀b,b∈E'.M↔b∈E.M∨b∈om.flatMap fun q=>q.1.ownBlock.toList)(hn:E'.nw=E.nw)(ho:E'.om=E.om++om):
 ∀{xs:List AC} {vs:List Value},xs.all AC.out=true→Oks ⟨w.heap.size,om,[],[]⟩ os' w' xs vs→Oks E' (os++os') w' (xs.map (AC.shift os.length)) vs
 | [],[],_,_=>trivial
 | x::xs,v::vs,hx,hv=>by
   simp only[X_,q_]at hx;exact⟨ML h hM hn ho hx.1 hv.1,tu h hM hn ho hx.2 hv.2⟩
 | [],_::_,_,hv=>hv.elim
 |_::_,[],_,hv=>hv.elim
theorem tV{w':World}{os':List Own}{om:List (Value×List Nat)}{E':Env}(h:Rel B Xs G w0 ⟨fr,os,bs⟩ E a w)(hM:∀b,b∈E'.M↔b∈E.M∨b∈om.flatMap fun q=>q.1.ownBlock.toList)(hn:E'.nw=E.nw)(ho:E'.om=E.om++om)
 {g:Bool} {xs:List AC} {v:Value} (hx:xs.all AC.out=true) (hv:Gok ⟨w.heap.size,om,[],[]⟩ os' w' g xs v):Gok E' (os++os') w' g (xs.map (AC.shift os.length)) v:=by
 cases g with
 |true=>obtain⟨vs,h1,h2⟩:=hv;exact⟨vs,h1,tu h hM hn ho hx h2⟩
 |false=>exact tu h hM hn ho hx (show Oks _ _ _ xs [v] from hv)
theorem qI{w':World}{os':List Own}{om:List (Value×List Nat)}{E':Env}(h:Rel B Xs G w0 ⟨fr,os,bs⟩ E a w)(hM:∀b,b∈E'.M↔b∈E.M∨b∈om.flatMap fun q=>q.1.ownBlock.toList)(hn:E'.nw=E.nw)(ho:E'.om=E.om++om):
 ∀{ys:List (Bool×List AC)} {vs:List Value},(ys.all fun y=>y.2.all AC.out)=true→oK ⟨w.heap.size,om,[],[]⟩ os' w' ys vs→oK E' (os++os') w' (ys.map fun y=>(y.1,y.2.map (AC.shift os.length))) vs
 | [],[],_,_=>trivial
 | y::ys,v::vs,hx,hv=>by
   simp only[X_,q_]at hx;exact⟨tV h hM hn ho hx.1 hv.1,qI h hM hn ho hx.2 hv.2⟩
 | [],_::_,_,hv=>hv.elim
 |_::_,[],_,hv=>hv.elim
theorem Js{f:Nat}{args:Array Operand}{ats:Array TypeId}{fn:Func}{ds:List D}{r:AV}{os':List Own}(h:Rel B Xs G w0 ⟨fr,os,bs⟩ E a w)(hf:P.funcs[f]? =some fn)(hn:(fn.name== "runtime.NumGoroutine" || fn.body.isNone)=false)
 (ha:aO os (args.toList.map fun x=>St.ev ⟨fr,os,bs⟩ (opd x)) ds) (hc:dH P f ds r os') (hr:r.out=true):
 gI P B Xs G w0 fr a w ⟨d,.call {callee:= .value (.func f),args:=args,argTypes:=ats},ty,pos,after,guard⟩ Q (r.shift os.length) (os++os') bs:=by
 intro K hK;refine rC hf hn ((hc w _ (zI h ha) h.below.now).mono ?_);rintro e w' ⟨v,om,rfl,ho,hx,hb⟩;refine⟨_,rfl,hK _ _ w' (h.vU hb ho d (fun E' hM hnw hom=> ?_))⟩;cases r with
 |any=>trivial
 |c g xs=>exact tV h hM hnw hom hr hx
 |tup ys=>obtain⟨vs,h1,h2⟩:=hx;exact⟨vs,h1,qI h hM hnw hom hr h2⟩
 |ptr _=>cases hr
 |bptr _ _=>cases hr
 |eptr _ _ _ _=>cases hr
theorem Ju{f:Nat}{args:Array Operand}{ats:Array TypeId}{fn:Func}{ds:List D}{r:AV}(h:Rel B Xs G w0 ⟨fr,os,bs⟩ E a w)(hf:P.funcs[f]? =some fn)(hn:(fn.name== "runtime.NumGoroutine" || fn.body.isNone)=false)
 (ha:aO [] (args.toList.map fun x=>St.ev ⟨fr,os,bs⟩ (opd x)) ds) (hc:mg P f ds r) (hr:r.old=true):
 gI P B Xs G w0 fr a w ⟨d,.call {callee:= .value (.func f),args:=args,argTypes:=ats},ty,pos,after,guard⟩ Q r os bs:=by
 intro K hK;obtain⟨F,h1,h2⟩:=Ii h ha;refine rC hf hn ((hc w F _ (fun b hb=>(h2 b hb).1) h1 h.below.now).mono ?_);rintro e w' ⟨v,rfl,hx,hb⟩;exact⟨v,rfl,hK E v w' (h.lK hb (NI h (fun b hb=>(h2 b hb).2) hr hx))⟩
theorem Na{f:Nat}{args:Array Operand}{ats:Array TypeId}{fn:Func}{ds:List D}{r:AV}(h:Rel B Xs G w0 ⟨fr,os,bs⟩ E a w)(hf:P.funcs[f]? =some fn)(hn:(fn.name== "runtime.NumGoroutine" || fn.body.isNone)=false)
 (ha:aO os (args.toList.map fun x=>St.ev ⟨fr,os,bs⟩ (opd x)) ds) (hc:aJ P f ds r) (hr:r.res):
 gI P B Xs G w0 fr a w ⟨d,.call {callee:= .value (.func f),args:=args,argTypes:=ats},ty,pos,after,guard⟩ Q r os bs:=by
 intro K hK;refine rC hf hn ((hc w _ (zI h ha) h.below.now).mono ?_);rintro e w' ⟨v,rfl,hx,hb⟩;exact⟨v,rfl,hK E v w' (h.lK hb (NJ h hr hx))⟩
theorem Jt{f:Nat}{args:Array Operand}{ats:Array TypeId}{fn:Func}{ds l:List D}{g:Bool}{e s:Nat}(h:Rel B Xs G w0 ⟨fr,os,bs⟩ E a w)(hf:P.funcs[f]? =some fn)(hn:(fn.name== "runtime.NumGoroutine" || fn.body.isNone)=false)
 (ha:aO os (args.toList.map fun x=>St.ev ⟨fr,os,bs⟩ (opd x)) ds) (hc:ni P f ds g l e s) (hl:El s l):
 gI P B Xs G w0 fr a w ⟨d,.call {callee:= .value (.func f),args:=args,argTypes:=ats},ty,pos,after,guard⟩ Q (.c g [.own os.length 0]) (os++ [⟨l,e,s,0,true⟩]) bs:=by
 intro K hK;refine rC hf hn ((hc w _ (zI h ha) h.below.now).mono ?_);rintro e w' ⟨v,cs,f',rfl,h1,h2,h3,hb⟩;refine⟨_,rfl,hK _ _ w' (h.KL hb (o:=⟨l,_,s,0,true⟩) h1 h2 hl (fun b hbm=>⟨fun hm=> ?_,(h3 b hbm).1,fun _=> ?_⟩) rfl d (fun E' os' hx=> ?_))⟩
 ·have:=(uh h hm).2;have:=(h3 b hbm).2;omega
 ·have:=h.base;have:=(h3 b hbm).2;exact h.qx (by omega)
 ·cases g with
  |false=>exact⟨hx,trivial⟩
  |true=>exact⟨[v],rfl,hx,trivial⟩
end
section
variable{P:Program}{B:Nat}{Xs:List Nat}{G:Org}{w0:World}{fr:List AV}{os:List Own}{bs:List (List AC)}{E:Env}{a:Act}{w:World}{d:Option Tmp}{K:Act→World→Prop}{Q:Exit→Act→World→Prop}
 {ty:TypeId} {pos:String} {after:Array Edge} {guard:Option (Nat×Bool)}
theorem rF{lo hi:Option Int}{n x y:Nat}(h:jr lo hi n=some (x,y)):lo.getD 0=(x:Int)∧hi.getD n=(y:Int)∧x≤y∧y≤n:=by
 unfold jr at h;simp only at h;split at h
 ·next hc=>
  injection h with h
  injection h with h1 h2
  have:=Int.toNat_of_nonneg hc.1;have:=Int.toNat_of_nonneg (Int.le_trans hc.1 hc.2.1);refine⟨by omega,by omega,by omega,by omega⟩
 ·cases h
theorem zD{st:St}(h:Rel B Xs G w0 st E a w){lo:Option Operand}{lo':Option Int}(hl:(lo.map opd).map (fun y=>bI (st.ev y))=lo'.map some):
 (lo=none∧lo'=none)∨∃x k z,lo=some x∧lo'=some z∧a.eval x= .int k z:=by
 cases lo with
 | none=>cases lo' with
   |none=>exact e_ ⟨rfl,rfl⟩
   |some z=>simp at hl
 | some x=>cases lo' with
   |none=>simp at hl
   | some z=>
     simp only[a_P,w_]at hl;obtain⟨k,hk⟩:=rH hl;exact h_ ⟨x,k,z,rfl,rfl,bT h hk⟩
theorem J4{st:St}{t e:Nat}{x:Operand}{lo hi:Option Operand}{i:TypeInfo}{A:Option Addr}{n c p q:Nat}{lo' hi':Option Int}(h:Rel B Xs G w0 st E a w)(ht:P.underlying t=some (.slice e))(hi0:P.info? e=some i)(he:a.eval x= .slice A n c)(hlc:n≤c)(hcm:c≤maxLen)
 (hlo:(lo.map opd).map (fun y=>bI (st.ev y))=lo'.map some) (hhi:(hi.map opd).map (fun y=>bI (st.ev y))=hi'.map some)
 (hb:jr lo' hi' n=some (p,q)):(execOp a.eval ⟨d,.slice t x lo hi none,ty,pos,after,guard⟩).run P w= .ok (.value (sliced A p q c i.size)) w:=by
 obtain⟨b1,b2,b3,b4⟩:=rF hb;have ht':P.underlying t=some (.slice (P.elem t)):=by rw[ht];simp[Program.elem,ht]
 have hel:P.elem t=e:=by simp[Program.elem,ht]
 have hsz:(sizeOf (P.elem t)).run P w= .ok i.size w:=by rw[hel];simp[sizeOf,typeInfo,hi0]
 rcases zD h hlo with⟨rfl,rfl⟩|⟨y,k,z,rfl,rfl,hy⟩<;>rcases zD h hhi with⟨rfl,rfl⟩|⟨y2,k2,z2,rfl,rfl,hy2⟩
 ·simp only[H_]at b1 b2;have:p=0:=by omega
  have:q=n:=by omega
  subst p q;simp[execOp,he,run_sliceAt_slice w t _ _ _ _ ht',run_slice_all w t A n c ht',hsz]
 ·simp only[H_,I_]at b1 b2;have:p=0:=by omega
  subst p b2;have:=run_slice_h w t A n c ht' k2 (q:Int) (by omega) (by omega);simp[execOp,he,hy2,run_sliceAt_slice w t _ _ _ _ ht',this,hsz]
 ·simp only[H_,I_]at b1 b2;have:q=n:=by omega
  subst q b1;have:=run_slice_l w t A n c ht' k (p:Int) (by omega) (by omega);simp[execOp,he,hy,run_sliceAt_slice w t _ _ _ _ ht',this,hsz]
 ·simp only[I_]at b1 b2;subst b1 b2;have:=run_slice_lh w t A n c ht' k k2 (p:Int) (q:Int) (by omega) (by omega) (by omega);simp[execOp,he,hy,hy2,run_sliceAt_slice w t _ _ _ _ ht',this,hsz]
theorem P6{t e:Nat}{x:Operand}{lo hi:Option Operand}{i:TypeInfo}{n:Bool}{l:List D}{p q:Nat}{lo' hi':Option Int}(h:Rel B Xs G w0 ⟨fr,os,bs⟩ E a w)(ht:P.underlying t=some (.slice e))(hi0:P.info? e=some i)
 (hx:St.ev ⟨fr,os,bs⟩ (opd x)= .c false [.sl n l]) (hlo:(lo.map opd).map (fun y=>bI (St.ev ⟨fr,os,bs⟩ y))=lo'.map some) (hhi:(hi.map opd).map (fun y=>bI (St.ev ⟨fr,os,bs⟩ y))=hi'.map some)
 (hb:jr lo' hi' l.length=some (p,q)) (hl:El i.size l):gI P B Xs G w0 fr a w ⟨d,.slice t x lo hi none,ty,pos,after,guard⟩ Q (.c false [.sl n ((l.take q).drop p)]) os bs:=by
 have hv:=dM h x;rw[hx]at hv;obtain⟨⟨fp,h1,h2⟩,_⟩:=hv;obtain⟨A,c,he,hlc,hcm⟩:=Sl.form h1;rw[he]at h1;obtain⟨b1,b2,b3,b4⟩:=rF hb;obtain⟨f,h3,h4⟩:=Sl.sub h1 (s:=i.size) (fun d hd=>(hl d hd).2) b3 b4;exact bM h (J4 h ht hi0 he hlc hcm hlo hhi hb) ⟨⟨f,h3,fun b hb=>h2 b (h4 b hb)⟩,trivial⟩
theorem Gt{st:St}{t e:Nat}{x:Operand}{lo hi:Option Operand}{i:TypeInfo}{k v p q:Nat}{o:Own}{lo' hi':Option Int}(h:Rel B Xs G w0 st E a w)(ht:P.underlying t=some (.slice e))(hi0:P.info? e=some i)
 (hx:st.ev (opd x)= .c false [.own k v]) (ho:st.owns[k]? =some o) (hv:o.ver=v) (hs:o.s=i.size) (hlo:(lo.map opd).map (fun y=>bI (st.ev y))=lo'.map some) (hhi:(hi.map opd).map (fun y=>bI (st.ev y))=hi'.map some)
 (hb:jr lo' hi' o.l.length=some (p,q)):∃u,(execOp a.eval ⟨d,.slice t x lo hi none,ty,pos,after,guard⟩).run P w= .ok (.value u) w∧(AC.osub k v p q).ok E st.owns w u:=by
 have hev:=dM h x;rw[hx]at hev;obtain⟨⟨_,o',pp,h1,h2,h3,h4⟩,_⟩:=hev;rw[ho]at h1;injection h1 with h1
 subst h1;have he:=h4 hv;obtain⟨cs,h5,h6,h7,h8⟩:=h.own k o pp ho h2;obtain⟨b1,b2,b3,b4⟩:=rF hb;obtain⟨A,c,hlc,hcm,hv'⟩:∃A c,o.l.length≤c∧c≤maxLen∧pp.1= .slice A o.l.length c:=by
  rcases h5.2 with⟨q1,q2⟩|⟨g,z,cap,cur,q1,_,_,q2,q3,_⟩
  ·exact⟨none,0,by omega,Nat.zero_le _,by rw[q1,q2]⟩
  ·exact⟨_,cap,q2,q3,q1⟩
 exact⟨_,J4 h ht hi0 (he.trans hv') hlc hcm hlo hhi hb,⟨_,_,_,rfl⟩,o,pp,ho,h2,h3,fun _=>⟨A,_,c,hv',b3,b4,by rw[hs]⟩⟩
theorem PY{t:Nat}{x:Operand}{lo hi:Option Operand}{s:ByteArray}{p q:Nat}{lo' hi':Option Int}(h:Rel B Xs G w0 ⟨fr,os,bs⟩ E a w)(ht:P.underlying t=some .string)
 (hx:St.ev ⟨fr,os,bs⟩ (opd x)= .c false [.raw (.string s)]) (hlo:(lo.map opd).map (fun y=>bI (St.ev ⟨fr,os,bs⟩ y))=lo'.map some) (hhi:(hi.map opd).map (fun y=>bI (St.ev ⟨fr,os,bs⟩ y))=hi'.map some)
 (hb:jr lo' hi' s.size=some (p,q)):gI P B Xs G w0 fr a w ⟨d,.slice t x lo hi none,ty,pos,after,guard⟩ Q (.c false [.raw (.string (s.extract p q))]) os bs:=by
 have he:=bT h hx;obtain⟨b1,b2,b3,b4⟩:=rF hb;refine bM h (v:= .string (s.extract p q)) ?_ ⟨rfl,trivial⟩;rcases zD h hlo with⟨rfl,rfl⟩|⟨y,k,z,rfl,rfl,hy⟩<;>rcases zD h hhi with⟨rfl,rfl⟩|⟨y2,k2,z2,rfl,rfl,hy2⟩
 ·simp only[H_]at b1 b2;have:p=0:=by omega
  have:q=s.size:=by omega
  subst p q;simp[execOp,he,a_j,a_q,run_underlying ht,W_]
 ·simp only[H_,I_]at b1 b2;have:p=0:=by omega
  subst p b2;simp[execOp,he,hy2,a_j,a_q,run_underlying ht,W_,a_n,asIntOf,b4]
 ·simp only[H_,I_]at b1 b2;have:q=s.size:=by omega
  subst q b1;simp[execOp,he,hy,a_j,a_q,run_underlying ht,W_,a_n,asIntOf,b3]
 ·simp only[I_]at b1 b2;subst b1 b2;simp[execOp,he,hy,hy2,a_j,a_q,run_underlying ht,W_,a_n,asIntOf,b3,b4]
theorem NU{t:Nat}{x:Operand}{ats:Array TypeId}{n:Int}(h:Rel B Xs G w0 ⟨fr,os,bs⟩ E a w)(hats:ats= #[t])(hrun:(Builtin.len_ #[t] ty #[a.eval x]).run P w= .ok (.int .i64 n) w):
 gI P B Xs G w0 fr a w ⟨d,.call {callee:= .builtin .len,args:= #[x],argTypes:=ats},ty,pos,after,guard⟩ Q (.c false [.raw (.int .i64 n)]) os bs:=by
 subst hats;refine bM h (v:= .int .i64 n) ?_ ⟨rfl,trivial⟩;simp[execOp,resolve,invoke,builtin,hrun]
theorem rP{t e:Nat}{x:Operand}{m:Nat}(h:Rel B Xs G w0 ⟨fr,os,bs⟩ E a w)(ht:P.underlying t=some (.slice e))(hx:∃A c,a.eval x= .slice A m c):
 gI P B Xs G w0 fr a w ⟨d,.call {callee:= .builtin .len,args:= #[x],argTypes:= #[t]},ty,pos,after,guard⟩ Q (.c false [.raw (.int .i64 m)]) os bs:=by
 obtain⟨A,c,he⟩:=hx;exact NU h rfl (by rw[he];simp[Builtin.len_,run_underlying ht,goInt])
theorem MW{t:Nat}{x:Operand}{s:ByteArray}(h:Rel B Xs G w0 ⟨fr,os,bs⟩ E a w)(ht:P.underlying t=some .string)(hx:a.eval x= .string s):
 gI P B Xs G w0 fr a w ⟨d,.call {callee:= .builtin .len,args:= #[x],argTypes:= #[t]},ty,pos,after,guard⟩ Q (.c false [.raw (.int .i64 s.size)]) os bs:=
 NU h rfl (by rw[hx];simp[Builtin.len_,run_underlying ht,goInt])
theorem D6{w:World}{base e s:Nat}{v:Value}{l:List D}{f:List Nat}{cs:List Value}(h:aS w base e s v l.length cs)(hr:Rs w l f cs):Src w l f v:=by
 rcases h.2 with⟨hv',h9⟩|⟨g,z,cap,cur,hv',hg,hh,hn,hm,hsz,htk⟩
 ·have:l= []:=a_c h9;subst this;exact⟨none,0,[],hv',by rw[hr.1];exact⟨rfl,rfl⟩,e_ ⟨rfl,rfl⟩⟩
 ·obtain⟨hat,hlt⟩:=h.at_ (g:=g) (z:=z) (by rw[hv'];rfl)
  exact⟨some ⟨g,z,none⟩,cap,cs,hv',hr,h_ ⟨g,z,rfl,hlt,hat⟩⟩
theorem Rs.sub{w:World}{s:Nat}{l:List D}{f:List Nat}{cs:List Value}(h:Rs w l f cs)(hs:∀d∈l,d.sz=s){a b:Nat}(hab:a≤b)(hb:b≤l.length):
 ∃f',Rs w ((l.take b).drop a) f' ((cs.take (b*s)).drop (a*s))∧∀x∈f',x∈f:=by
 rw[← o_ b l]at h;obtain⟨f1,f2,c1,c2,rfl,rfl,h1,h2⟩:=Rs.split h;have l1:c1.length=b*s:=by
  rw[h1.len,fH (s:=s) _ (fun x hx=>hs x (g_ hx)),a_,x_ hb]
 rw[a_b l1];rw[← o_ a (l.take b)]at h1;obtain⟨g1,g2,e1,e2,rfl,rfl,h3,h4⟩:=Rs.split h1;have l2:e1.length=a*s:=by
  rw[h3.len,fH (s:=s) _ (fun x hx=>hs x (g_ (g_ hx))),a_,a_,x_ (by omega)]
 rw[p_ l2];exact⟨g2,h4,fun x hx=>by simp[hx]⟩
theorem jC{P:Program}{w:World}{t e s:Nat}(ty:TypeId)(ht:P.underlying t=some (.slice e))(he:pW P e s=true)(base:Nat)(v:Value)(n:Nat)(cs0:List Value)(hown:aS w base e s v n cs0)(l:List D)(f:List Nat)(vx:Value)(hsrc:Src w l f vx)
 (hel:El s l) (hn:n+l.length≤jH s) (hbase:base≤w.heap.size):
 ∃v' w' cs,(Builtin.append_ #[t,t] ty #[v,vx]).run P w= .ok v' w'∧Rs w l f cs∧aS w' base e s v' (n+l.length) (cs0++cs)∧w.grownBy w' v.ownBlock∧(v'.ownBlock=v.ownBlock∨v'.ownBlock=some w.heap.size):=by
 obtain⟨A,c,cs,rfl,hr,hcs⟩:=hsrc;obtain⟨i,z,hi,hz,hsz,hby,hzs,h0⟩:=mZ he;have hlen:cs.length=l.length*s:=by rw[hr.len,fH _ (fun d hd=>(hel d hd).2)]
 have h63:n+l.length≤maxLen:=by have:=Sr s;unfold maxLen;omega
 have hbytes:(n+l.length)*i.bytes≤140737488355328:=a_E (a_T hn hby) (Sv s);rcases hcs with⟨rfl,rfl⟩|⟨b,o,rfl,hb,ha⟩
 ·cases A with
  |none=>exact⟨v,w,[],sW w base t ty e i s ht hi v _ _ hown c,hr,by simpa using hown,World.grownBy.refl w _,.inl rfl⟩
  | some ad=>
    obtain⟨v',w',hrun,h2,h3,h5⟩:=sG (P:=P) w base t ty e i z s i.bytes ht hi hz hsz rfl hzs h0 v _ _ hown ad 0 c [] (by simp) (fun j u hj=>by simp at hj) (by simp) (by simpa using h63) (by simpa using hbytes) hbase;exact⟨v',w',[],hrun,hr,by simpa using h2,h3,h5⟩
 ·obtain⟨v',w',hrun,h2,h3,h5⟩:=sG (P:=P) w base t ty e i z s i.bytes ht hi hz hsz rfl hzs h0 v _ _ hown ⟨b,o,none⟩ l.length c cs hlen (fun j u hj=>by rw[qY];exact ha j u hj) (hr.one_ (D.ones_of fun d hd=>(hel d hd).1)) h63 hbytes hbase;exact⟨v',w',cs,hrun,hr,h2,h3,h5⟩
theorem rJ{st:St}(h:Rel B Xs G w0 st E a w){k i p q:Nat}{o:Own}{v:Value}(hx:(AC.osub k i p q).ok E st.owns w v)(ho:st.owns[k]? =some o)(hv:o.ver=i):
 p≤q∧q≤o.l.length∧∃pp cs f,E.om[k]? =some pp∧aS w E.B o.e o.s v ((o.l.take q).drop p).length cs∧Rs w ((o.l.take q).drop p) f cs∧(∀b∈f,b∈pp.2)∧v.ownBlock=pp.1.ownBlock∧(∃A n c,pp.1= .slice A n c∧v=sliced A p q c o.s):=by
 obtain⟨_,o',pp,h1,h2,h3,h4⟩:=hx;rw[ho]at h1;injection h1 with h1
 subst h1;obtain⟨A,n,c,q1,q2,q3,rfl⟩:=h4 hv;obtain⟨cs,h5,h6,h7,h8⟩:=h.own k o pp ho h2;rw[q1]at h5;have hn:n=o.l.length:=by
  obtain⟨A',c',e1⟩:=jE h5;injection e1
 subst hn;obtain⟨f,r1,r2⟩:=h6.sub (s:=o.s) (fun d hd=>(h7 d hd).2) q2 q3;refine⟨q2,q3,pp,_,f,h2, ?_,r1,r2, ?_,A,_,c,q1,rfl⟩
 ·rw[l_,a_,x_ q3];exact h5.sub q2 q3
 ·rw[D8,q1];cases A<;>rfl
theorem IX{st:St}(h:Rel B Xs G w0 st E a w){x:AV}{l:List D}{n:Bool}{v:Value}(hs:bV st.owns x=some (l,n))(hx:x.ok E st.owns w v):
 ∃f,Src w l f v∧∀b∈f,b<w.heap.size∧b∉E.M∧(n=true→E.nw b):=by
 unfold bV at hs;split at hs
 ·next n' l'=>
  injection hs with hs
  injection hs with e1 e2
  subst e1 e2;obtain⟨⟨fp,h1,h2⟩,_⟩:=hx;obtain⟨f,h3,h4⟩:=Src.SY h1;exact⟨f,h3,fun b hb=>⟨R.lt h1 b (h4 b hb),(h2 b (h4 b hb)).1,fun e=>(h2 b (h4 b hb)).2 e⟩⟩
 ·next k i=>
  obtain⟨⟨_,o,p,h1,h2,h3,h4⟩,_⟩:=hx;rw[h1]at hs;simp only at hs;split at hs
  ·next hv=>
   injection hs with hs
   injection hs with e1 e2
   subst e1 e2;obtain rfl:=h4 hv;obtain⟨cs,h5,h6,h7,h8⟩:=h.own k o p h1 h2;exact⟨p.2,D6 h5 h6,fun b hb=>⟨Rs.lt h6 b hb,h8 b hb⟩⟩
  ·cases hs
 ·next k i p q=>
  have hx1:=hx.1;obtain⟨⟨_,o,pp,h1,h2,h3,h4⟩,_⟩:=hx;rw[h1]at hs;simp only at hs;split at hs
  ·next hv=>
   injection hs with hs
   injection hs with e1 e2
   subst e1 e2;obtain⟨_,_,pp',cs,f,g1,g2,g3,g4,_⟩:=rJ h hx1 h1 hv;obtain⟨cs',h5,h6,h7,h8⟩:=h.own k o pp' h1 g1;exact⟨f,D6 g2 g3,fun b hb=>⟨Rs.lt h6 b (g4 b hb),h8 b (g4 b hb)⟩⟩
  ·cases hs
 ·injection hs with hs
  injection hs with e1 e2
  subst e1 e2;obtain rfl:=hx.1;exact⟨[],⟨none,0,[],rfl,⟨rfl,rfl⟩,e_ ⟨rfl,rfl⟩⟩,fun b hb=>by simp at hb⟩
 ·cases hs
theorem Rs.set{s:Nat}{d:D}{fd:List Nat}{cd:List Value}(hd:R w d fd cd){j:Nat}:∀{l:List D} {f:List Nat} {cs:List Value},Rs w l f cs→(∀x∈l,x.sz=s)→j<l.length→
 ∃f',Rs w (l.set j d) f' (cs.take (j*s)++cd++cs.drop (j*s+s))∧∀b∈f',b∈f∨b∈fd:=by
 intro l f cs h hs hj;have e:l=l.take j++([l[j]]++l.drop (j+1)):=by rw[Y_,← S_,o_]
 have e2:l.set j d=l.take j++([d]++l.drop (j+1)):=by rw[F_,if_pos hj];rfl
 rw[e]at h;obtain⟨f1,f2,c1,c2,rfl,rfl,h1,h2⟩:=Rs.split h;obtain⟨g1,g2,e3,e4,rfl,rfl,h3,h4⟩:=Rs.split h2;have l1:c1.length=j*s:=by
  rw[h1.len,fH (s:=s) _ (fun x hx=>hs x (g_ hx)),a_,x_ (by omega)]
 have l2:e3.length=s:=by rw[h3.len,D.szs,D.szs,hs _ (s_ hj)];omega
 refine⟨f1++(fd++g2), ?_,fun b hb=> ?_⟩
 ·rw[e2,a_b l1,show(c1++(e3++e4)).drop (j*s+s)=e4 from by rw[← v_,p_ l1,p_ l2],f_];exact Rs.append (Rs.append h4 (Rs.one hd)) h1
 ·simp only[c_]at hb⊢;rcases hb with hb|hb|hb
  ·exact e_ (e_ hb)
  ·exact h_ hb
  ·exact e_ (h_ (h_ hb))
def D.patch(d:D)(off:Nat)(y:D):D:= .agg (d.flat.take off++y.flat++d.flat.drop (off+y.sz))
theorem JU :∀(a b:List D),D.szs (a++b)=D.szs a+D.szs b
 | [],b=>by simp[D.szs]
 |x::a,b=>by rw[List.cons_append,D.szs,D.szs,JU a b];omega
theorem PN{d:D}(h:d.isAgg=false):d.sz=1:=by
 cases d with
 |agg l=>cases h
 |_=>rfl
theorem lu :∀(l:List D),(∀d∈l,d.isAgg=false)→D.szs l=l.length
 | [],_=>rfl
 |d::l,h=>by rw[D.szs,PN (h d (by simp)),lu l (fun x hx=>h x (by simp[hx])),a_l];omega
mutual
theorem Hr :∀(d:D),D.szs d.flat=d.sz
 | .leaf v=>by rw[D.flat];rfl
 | .sl l=>by rw[D.flat];rfl
 | .agg l=>by rw[D.flat,D.sz];exact Dq l
theorem Dq :∀(l:List D),D.szs (D.iM l)=D.szs l
 | []=>by rw[D.iM]
 |d::l=>by rw[D.iM,JU,Hr d,Dq l,D.szs]
end
theorem xA(d:D):d.flat.length=d.sz:=by rw[← lu _ (iV d),Hr]
theorem Gg{d y:D}{off:Nat}(h:off+y.sz≤d.sz):(d.patch off y).sz=d.sz:=by
 unfold D.patch;rw[D.sz,lu]
 ·simp only[b_,a_,l_,xA];omega
 ·intro x hx;simp only[c_]at hx;rcases hx with(hx|hx)|hx
  ·exact iV d x (g_ hx)
  ·exact iV y x hx
  ·exact iV d x (B_ hx)
theorem Gi :∀{a b:List D},D.ones a→D.ones b→D.ones (a++b)
 | [],_,_,h=>h
 |x::a,_,h1,h2=>⟨h1.1,Gi h1.2 h2⟩
theorem ones_mem :∀{l:List D},D.ones l→∀d∈l,d.one
 | [],_,d,h=>by simp at h
 | x::l,ho,d,h=>by
   rcases Q_.1 h with rfl|h
   ·exact ho.1
   ·exact ones_mem ho.2 d h
mutual
theorem vG :∀{d:D},d.one→D.ones d.flat
 | .leaf v,h=>by rw[D.flat];exact⟨h,trivial⟩
 | .sl l,h=>by rw[D.flat];exact⟨trivial,trivial⟩
 | .agg l,h=>by rw[D.flat];exact Dt h
theorem Dt :∀{l:List D},D.ones l→D.ones (D.iM l)
 | [],_=>by rw[D.iM];trivial
 |d::l,h=>by rw[D.iM];exact Gi (vG h.1) (Dt h.2)
end
theorem Dh{d y:D}{off:Nat}(h:d.one)(k:y.one):(d.patch off y).one:=by
 unfold D.patch;refine D.ones_of fun x hx=> ?_
 simp only[c_]at hx;rcases hx with(hx|hx)|hx
 ·exact ones_mem (vG h) x (g_ hx)
 ·exact ones_mem (vG k) x hx
 ·exact ones_mem (vG h) x (B_ hx)
theorem R.patch{d y:D}{off:Nat}{fd fy:List Nat}{cd cy:List Value}(h:R w d fd cd)(k:R w y fy cy)(ho:off+y.sz≤d.sz):
 ∃f',R w (d.patch off y) f' (cd.take off++cy++cd.drop (off+y.sz))∧∀b∈f',b∈fd∨b∈fy:=by
 have h1:=jS.1 h;have h2:=jS.1 k;have e:d.flat=d.flat.take off++(d.flat.drop off):=(o_ _ _).symm;rw[e]at h1;obtain⟨f1,f2,c1,c2,rfl,rfl,g1,g2⟩:=Rs.split h1;have e2:d.flat.drop off=(d.flat.drop off).take y.sz++d.flat.drop (off+y.sz):=by
  rw[← v_,o_]
 rw[e2]at g2;obtain⟨f3,f4,c3,c4,rfl,rfl,g3,g4⟩:=Rs.split g2;have fl:=xA d;have l1:c1.length=off:=by
  rw[g1.len,lu _ (fun x hx=>iV d x (g_ hx)),a_];omega
 have l3:c3.length=y.sz:=by
  rw[g3.len,lu _ (fun x hx=>iV d x (B_ (g_ hx))),a_,l_];omega
 refine⟨f1++(fy++f4), ?_,fun b hb=> ?_⟩
 ·unfold D.patch;rw[R,a_b l1,show(c1++(c3++c4)).drop (off+y.sz)=c4 from by rw[← v_,p_ l1,p_ l3],f_,f_];exact Rs.append (Rs.append g4 h2) g1
 ·simp only[c_]at hb⊢;rcases hb with hb|hb|hb
  ·exact e_ (e_ hb)
  ·exact h_ hb
  ·exact e_ (h_ (h_ hb))
theorem Rs.patch{s:Nat}{y:D}{fy:List Nat}{cy:List Value}(hy:R w y fy cy){j off:Nat}:∀{l:List D} {f:List Nat} {cs:List Value},Rs w l f cs→(∀x∈l,x.sz=s)→(hj:j<l.length)→off+y.sz≤s→
 ∃f',Rs w (l.set j (D.patch l[j] off y)) f' (cs.take (j*s+off)++cy++cs.drop (j*s+off+y.sz))∧∀b∈f',b∈f∨b∈fy:=by
 intro l f cs h hs hj ho;have e:l=l.take j++([l[j]]++l.drop (j+1)):=by rw[Y_,← S_,o_]
 have e2:l.set j (D.patch l[j] off y)=l.take j++([D.patch l[j] off y]++l.drop (j+1)):=by rw[F_,if_pos hj];rfl
 have hsj:(l[j]).sz=s:=hs _ (s_ hj);rw[e2];rw[e]at h;obtain⟨f1,f2,c1,c2,rfl,rfl,h1,h2⟩:=Rs.split h;obtain⟨g1,g2,e3,e4,rfl,rfl,h3,h4⟩:=Rs.split h2;have l1:c1.length=j*s:=by
  rw[h1.len,fH (s:=s) _ (fun x hx=>hs x (g_ hx)),a_,x_ (by omega)]
 have l2:e3.length=s:=by rw[h3.len,D.szs,D.szs,hsj];omega
 obtain⟨f',q1,q2⟩:=(Rs.Aa h3).patch hy (off:=off) (by rw[hsj];exact ho);refine⟨f1++(f'++g2), ?_,fun b hb=> ?_⟩
 ·have t1:(c1++(e3++e4)).take (j*s+off)=c1++e3.take off:=by
   rw[z_,r_ (by omega),l1,show j*s+off - j*s=off by omega,a_d (by omega)]
  have t2:(c1++(e3++e4)).drop (j*s+off+y.sz)=e3.drop (off+y.sz)++e4:=by
   rw[show j*s+off+y.sz=j*s+(off+y.sz) by omega,← v_,p_ l1,a_e (by omega)]
  rw[t1,t2];have:=Rs.append (Rs.append h4 (Rs.one q1)) h1;simpa[f_]using this
 ·simp only[c_]at hb⊢;rcases hb with hb|hb|hb
  ·exact e_ (e_ hb)
  ·rcases q2 b hb with hb|hb
   ·exact e_ (h_ (e_ hb))
   ·exact h_ hb
  ·exact e_ (h_ (h_ hb))
theorem GU{t:TypeId}{x y:Operand}{i:TypeInfo}{k v j:Nat}{o:Own}{dd:D}(h:Rel B Xs G w0 ⟨fr,os,bs⟩ E a w)(hi:P.info? t=some i)
 (hx:St.ev ⟨fr,os,bs⟩ (opd x)= .eptr k v j 0) (ho:os[k]? =some o) (hv:o.ver=v) (hs:o.s=i.size) (hj:j<o.l.length) (hy:(St.ev ⟨fr,os,bs⟩ (opd y)).toD=some dd) (hd:dd.sz=i.size)
 (hK:∀E' w',Rel B Xs G w0 (St.put ⟨fr,os.set k ⟨o.l.set j dd,o.e,o.s,o.ver,o.nw.n && (St.ev ⟨fr,os,bs⟩ (opd y)).nw⟩,bs⟩ d .any) E' (a.put d undef) w'→K (a.put d undef) w'):
 u_ P ⟨d,.store t x y,ty,pos,after,guard⟩ a w K Q:=by
 have hex:=dM h x;rw[hx]at hex;obtain⟨o',p,h1,h2,h3,h4⟩:=hex;simp only at h1;rw[ho]at h1;injection h1 with h1
 subst h1;obtain⟨b,z0,he,hb⟩:=h4 hv;obtain⟨one1,sz1,fd,rd,md⟩:=AV.toD_ok hy (dM h y);obtain⟨cs,h5,h6,h7,h8⟩:=h.own k o p ho h2;have h5':=h5;obtain⟨hl,h9⟩:=h5;rcases h9 with⟨hv',h9⟩|⟨g,zz,cap,cur,hv',hg,hh,hn',hm,hsz,htk⟩
 ·omega
 rw[hv']at hb;simp only[ug,w_,Prod.mk.injEq]at hb;obtain⟨rfl,rfl⟩:=hb;have hcs:cs.length=o.l.length*o.s:=hl;have hys:(a.eval y).cells.size=i.size:=by rw[← sz1,hd]
 have hjs:j*o.s+o.s≤o.l.length*o.s:=by
  have:(j+1)*o.s≤o.l.length*o.s:=C_ _ hj;rw[a_h]at this;omega
 have hcap0:o.l.length*o.s≤cap*o.s:=C_ _ hn';have hcap:zz+o.l.length*o.s≤cur.size:=by omega
 have hrun:=run_storeCells_at (P:=P) g (zz+j*o.s) o.e (a.eval y).cells.toList 0 cur w hh (by simp;rw[hys,← hs];omega) ((Rs.one rd).one_ (D.ones_of fun z hz=>by simp at hz;subst hz;exact one1));have hrun2:(execOp a.eval ⟨d,.store t x y,ty,pos,after,guard⟩).run P w= .ok .skip (w.setRow g (cur.toList.take (zz+j*o.s)++(a.eval y).cells.toList++cur.toList.drop (zz+j*o.s+i.size)).toArray):=by
  simp only[a_o]at hrun he;simp[execOp,a_y,he,a_r,storeVar,sizeOf,typeInfo,hi,hys]at hrun⊢;rw[hrun];simp
 unfold u_;rw[hrun2];obtain⟨f',r2,m2⟩:=h6.set rd (s:=o.s) (fun z hz=>(h7 z hz).2) hj;have hw':(w.setRow g (cur.toList.take (zz+j*o.s)++(a.eval y).cells.toList++cur.toList.drop (zz+j*o.s+i.size)).toArray).heap.size=w.heap.size:=by simp
 refine hK _ _ (h.setOwn (l:=o.l.set j dd) (f:=f') (cs:=cs.take (j*o.s)++(a.eval y).cells.toList++cs.drop (j*o.s+o.s)) ho h2 (b:=g) (by rw[hv'];rfl) hw' ⟨rfl,rfl,rfl⟩ (fun b hb=>setRow_other _ _ _ _ hb) ⟨?_,h_ ⟨g,zz,cap,_,by rw[m_];exact hv',hg,setRow_heap _ _ _ _ _ _ hh,by rw[m_];exact hn',hm, ?_, ?_⟩⟩ ?_ ?_ ?_ d)
 ·rw[b_,b_,a_,l_,m_,hcs,Array.length_toList,hys,← hs];omega
 ·rw[M_,b_,b_,a_,l_,Array.length_toList,Array.length_toList,hys,← hs];omega
 ·rw[m_];subst htk;simp only[a_g];have e2:(a.eval y).cells.toList.length=o.s:=by simp[hys,hs]
  have hzl:(cur.toList.take zz).length=zz:=by rw[a_,Array.length_toList];omega
  have e3:cur.toList.drop (zz+j*o.s+i.size)=(cur.toList.drop zz).drop (j*o.s+i.size):=by rw[v_,K_]
  rw[a_z,e3,f_,f_,p_ hzl];have e1:(cur.toList.drop zz).length=cur.size - zz:=by simp
  generalize cur.toList.drop zz=rest at e1;rw[← f_,← hs,z_,z_,r_ (l:=a_U (j*o.s) rest) (by rw[a_];omega),r_ (l:=(a.eval y).cells.toList) (by rw[a_,e2];omega),a_s,x_ (by omega)];congr 1;rw[b_,a_,e2,e1,a_t];congr 1;omega
 ·refine r2.same (fun b hb=>setRow_other _ _ _ _ (fun e=> ?_)) (a_H hw'.symm);have hgM:g∈E.M:=gV.2 (h_ ⟨k,p,h2,by rw[hv'];rfl⟩);rcases m2 b hb with hb|hb
  ·exact(h8 b hb).1 (e▸hgM)
  ·exact(md b hb).1 (e▸hgM)
 ·intro z hz;rcases T_ hz with hz|rfl
  ·exact h7 z hz
  ·exact⟨one1,by rw[hd,hs]⟩
 ·intro b hb;rcases m2 b hb with hb|hb
  ·exact⟨(h8 b hb).1,fun e=>(h8 b hb).2 (by simp at e;exact e.1)⟩
  ·exact⟨(md b hb).1,fun e=>(md b hb).2 (by simp at e;exact e.2)⟩
theorem GR{t:TypeId}{x y:Operand}{i:TypeInfo}{k v j off:Nat}{o:Own}{dd d0:D}(h:Rel B Xs G w0 ⟨fr,os,bs⟩ E a w)(hi:P.info? t=some i)
 (hx:St.ev ⟨fr,os,bs⟩ (opd x)= .eptr k v j off) (ho:os[k]? =some o) (hv:o.ver=v) (hs:off+i.size≤o.s) (hj0:o.l[j]? =some d0) (hy:(St.ev ⟨fr,os,bs⟩ (opd y)).toD=some dd) (hd:dd.sz=i.size)
 (hK:∀E' w',Rel B Xs G w0 (St.put ⟨fr,os.set k ⟨o.l.set j (D.patch d0 off dd),o.e,o.s,o.ver,o.nw.n && (St.ev ⟨fr,os,bs⟩ (opd y)).nw⟩,bs⟩ d .any) E' (a.put d undef) w'→K (a.put d undef) w'):
 u_ P ⟨d,.store t x y,ty,pos,after,guard⟩ a w K Q:=by
 obtain⟨hj,hjd⟩:=d_.1 hj0;have hex:=dM h x;rw[hx]at hex;obtain⟨o',p,h1,h2,h3,h4⟩:=hex;simp only at h1;rw[ho]at h1;injection h1 with h1
 subst h1;obtain⟨b,z0,he,hb⟩:=h4 hv;obtain⟨one1,sz1,fd,rd,md⟩:=AV.toD_ok hy (dM h y);obtain⟨cs,h5,h6,h7,h8⟩:=h.own k o p ho h2;have h5':=h5;obtain⟨hl,h9⟩:=h5;rcases h9 with⟨hv',h9⟩|⟨g,zz,cap,cur,hv',hg,hh,hn',hm,hsz,htk⟩
 ·omega
 rw[hv']at hb;simp only[ug,w_,Prod.mk.injEq]at hb;obtain⟨rfl,rfl⟩:=hb;have hcs:cs.length=o.l.length*o.s:=hl;have hys:(a.eval y).cells.size=i.size:=by rw[← sz1,hd]
 obtain⟨q,hq⟩:∃q,j*o.s+off=q:=⟨_,rfl⟩
 have hjs:j*o.s+o.s≤o.l.length*o.s:=by
  have:(j+1)*o.s≤o.l.length*o.s:=C_ _ hj;rw[a_h]at this;omega
 have hqs:q+i.size≤o.l.length*o.s:=by omega
 have hcap0:o.l.length*o.s≤cap*o.s:=C_ _ hn';have hcap:zz+o.l.length*o.s≤cur.size:=by omega
 have hrun:=run_storeCells_at (P:=P) g (zz+q) o.e (a.eval y).cells.toList 0 cur w hh (by simp;rw[hys];omega) ((Rs.one rd).one_ (D.ones_of fun z hz=>by simp at hz;subst hz;exact one1));have hrun2:(execOp a.eval ⟨d,.store t x y,ty,pos,after,guard⟩).run P w= .ok .skip (w.setRow g (cur.toList.take (zz+q)++(a.eval y).cells.toList++cur.toList.drop (zz+q+i.size)).toArray):=by
  simp only[a_o]at hrun;rw[hq]at he;simp[execOp,a_y,he,a_r,storeVar,sizeOf,typeInfo,hi,hys]at hrun⊢;rw[hrun];simp
 unfold u_;rw[hrun2];obtain⟨f',r2,m2⟩:=h6.patch rd (s:=o.s) (fun z hz=>(h7 z hz).2) hj (by rw[hd];exact hs);rw[hq,hd,hjd]at r2;have hw':(w.setRow g (cur.toList.take (zz+q)++(a.eval y).cells.toList++cur.toList.drop (zz+q+i.size)).toArray).heap.size=w.heap.size:=by simp
 refine hK _ _ (h.setOwn (l:=o.l.set j (D.patch d0 off dd)) (f:=f') (cs:=cs.take q++(a.eval y).cells.toList++cs.drop (q+i.size)) ho h2 (b:=g) (by rw[hv'];rfl) hw' ⟨rfl,rfl,rfl⟩ (fun b hb=>setRow_other _ _ _ _ hb) ⟨?_,h_ ⟨g,zz,cap,_,by rw[m_];exact hv',hg,setRow_heap _ _ _ _ _ _ hh,by rw[m_];exact hn',hm, ?_, ?_⟩⟩ ?_ ?_ ?_ d)
 ·rw[b_,b_,a_,l_,m_,hcs,Array.length_toList,hys];omega
 ·rw[M_,b_,b_,a_,l_,Array.length_toList,Array.length_toList,hys];omega
 ·rw[m_];subst htk;simp only[a_g];have e2:(a.eval y).cells.toList.length=i.size:=by simp[hys]
  have hzl:(cur.toList.take zz).length=zz:=by rw[a_,Array.length_toList];omega
  have e3:cur.toList.drop (zz+q+i.size)=(cur.toList.drop zz).drop (q+i.size):=by rw[v_,K_]
  rw[a_z,e3,f_,f_,p_ hzl];have e1:(cur.toList.drop zz).length=cur.size - zz:=by simp
  generalize cur.toList.drop zz=rest at e1;rw[← f_,z_,z_,r_ (l:=a_U q rest) (by rw[a_];omega),r_ (l:=(a.eval y).cells.toList) (by rw[a_,e2];omega),a_s,x_ (by omega)];congr 1;rw[b_,a_,e2,e1,a_t];congr 1;omega
 ·refine r2.same (fun b hb=>setRow_other _ _ _ _ (fun e=> ?_)) (a_H hw'.symm);have hgM:g∈E.M:=gV.2 (h_ ⟨k,p,h2,by rw[hv'];rfl⟩);rcases m2 b hb with hb|hb
  ·exact(h8 b hb).1 (e▸hgM)
  ·exact(md b hb).1 (e▸hgM)
 ·intro z hz;rcases T_ hz with hz|rfl
  ·exact h7 z hz
  ·exact⟨Dh (h7 _ (by rw[← hjd];exact s_ hj)).1 one1,by rw[Gg (by rw[(h7 d0 (by rw[← hjd];exact s_ hj)).2,hd];exact hs),(h7 d0 (by rw[← hjd];exact s_ hj)).2]⟩
 ·intro b hb;rcases m2 b hb with hb|hb
  ·exact⟨(h8 b hb).1,fun e=>(h8 b hb).2 (by simp at e;exact e.1)⟩
  ·exact⟨(md b hb).1,fun e=>(md b hb).2 (by simp at e;exact e.2)⟩
theorem zJ{t:Nat}{x y:Operand}{v':Value}{w':World}(hrun:(Builtin.append_ #[t,t] ty #[a.eval x,a.eval y]).run P w= .ok v' w')(hK:K (a.put d v') w'):
 u_ P ⟨d,.call {callee:= .builtin .append,args:= #[x,y],argTypes:= #[t,t]},ty,pos,after,guard⟩ a w K Q:=by
 refine oH (v:=v') (w':=w') ?_ hK;simp[execOp,resolve,invoke,builtin,hrun]
theorem Nk{t e s:Nat}{x y:Operand}{k i:Nat}{o:Own}{l:List D}{n:Bool}(h:Rel B Xs G w0 ⟨fr,os,bs⟩ E a w)(ht:P.underlying t=some (.slice e))(he:pW P e s=true)(hx:St.ev ⟨fr,os,bs⟩ (opd x)= .c false [.own k i])
 (ho:os[k]? =some o) (hv:o.ver=i) (hoe:o.e=e) (hos:o.s=s) (hsrc:bV os (St.ev ⟨fr,os,bs⟩ (opd y))=some (l,n)) (hl:El s l) (hn:o.l.length+l.length≤jH s):
 gI P B Xs G w0 fr a w ⟨d,.call {callee:= .builtin .append,args:= #[x,y],argTypes:= #[t,t]},ty,pos,after,guard⟩ Q (.c false [.own k (i+1)]) (os.set k ⟨o.l++l,e,s,i+1,o.nw.n && n⟩) bs:=by
 subst hv hoe hos;intro K hK;have hev:=dM h x;rw[hx]at hev;obtain⟨⟨_,o',p,h1,h2,_,h4⟩,_⟩:=hev;simp only at h1;rw[ho]at h1;injection h1 with h1
 subst h1;have hxv:=h4 rfl;obtain⟨cs0,h5,h6,h7,h8⟩:=h.own k o p ho h2;obtain⟨f,hS,hf⟩:=IX h hsrc (dM h y);obtain⟨v',w',cs,hrun,hr,hown,hg,hat⟩:=jC (P:=P) ty ht he E.B p.1 _ cs0 h5 l f _ hS hl hn h.base;have hpM:∀b,p.1.ownBlock=some b→b∈E.M:=fun b hb=>gV.2 (h_ ⟨k,p,h2,hb⟩)
 have r0:=h6.grown hg (fun g hgv hm=>(h8 g hm).1 (hpM g hgv));have r1:=hr.grown hg (fun g hgv hm=>(hf g hm).2.1 (hpM g hgv));refine zJ (by rw[hxv];exact hrun) (hK _ v' w' (h.grow ho h2 (f:=p.2++f) hg hat (l:=o.l++l) (by rw[b_];exact hown) (Rs.append r1 r0) (h7.append hl) (fun b hb=> ?_) d));rcases c_.1 hb with hb|hb
 ·exact⟨Rs.lt h6 b hb,(h8 b hb).1,fun e=>(h8 b hb).2 (by simp at e;exact e.1)⟩
 ·exact⟨(hf b hb).1,(hf b hb).2.1,fun e=>(hf b hb).2.2 (by simp at e;exact e.2)⟩
theorem Nj{t e s:Nat}{x y:Operand}{k i pa qa:Nat}{o:Own}{l:List D}{n:Bool}(h:Rel B Xs G w0 ⟨fr,os,bs⟩ E a w)(ht:P.underlying t=some (.slice e))(he:pW P e s=true)(hx:St.ev ⟨fr,os,bs⟩ (opd x)= .c false [.osub k i pa qa])
 (ho:os[k]? =some o) (hv:o.ver=i) (hoe:o.e=e) (hos:o.s=s) (hsrc:bV os (St.ev ⟨fr,os,bs⟩ (opd y))=some (l,n)) (hl:El s l) (hn:o.l.length+l.length≤jH s):
 gI P B Xs G w0 fr a w ⟨d,.call {callee:= .builtin .append,args:= #[x,y],argTypes:= #[t,t]},ty,pos,after,guard⟩ Q (.c false [.own k (i+1)]) (os.set k ⟨(o.l.take qa).drop pa++l,e,s,i+1,o.nw.n && n⟩) bs:=by
 subst hv hoe hos;intro K hK;have hev:=dM h x;rw[hx]at hev;obtain⟨g1,g2,p,cs0,f0,h2,h5,h6,g4,g5,g6⟩:=rJ h hev.1 ho rfl;obtain⟨cs1,q5,q6,q7,h8⟩:=h.own k o p ho h2;obtain⟨f,hS,hf⟩:=IX h hsrc (dM h y);obtain⟨v',w',cs,hrun,hr,hown,hg,hat⟩:=jC (P:=P) ty ht he E.B (a.eval x) _ cs0 h5 l f _ hS hl (by rw[l_,a_];omega) h.base;rw[g5]at hg hat;have hpM:∀b,p.1.ownBlock=some b→b∈E.M:=fun b hb=>gV.2 (h_ ⟨k,p,h2,hb⟩)
 have r0:=h6.grown hg (fun g hgv hm=>(h8 g (g4 g hm)).1 (hpM g hgv));have r1:=hr.grown hg (fun g hgv hm=>(hf g hm).2.1 (hpM g hgv));refine zJ hrun (hK _ v' w' (h.grow ho h2 (f:=f0++f) hg hat (l:=(o.l.take qa).drop pa++l) (by rw[b_];exact hown) (Rs.append r1 r0) (El.append (fun z hz=>q7 z (g_ (B_ hz))) hl) (fun b hb=> ?_) d));rcases c_.1 hb with hb|hb
 ·exact⟨Rs.lt q6 b (g4 b hb),(h8 b (g4 b hb)).1,fun e=>(h8 b (g4 b hb)).2 (by simp at e;exact e.1)⟩
 ·exact⟨(hf b hb).1,(hf b hb).2.1,fun e=>(hf b hb).2.2 (by simp at e;exact e.2)⟩
theorem RN{t e:Nat}{x:Operand}{k i p q:Nat}{o:Own}(h:Rel B Xs G w0 ⟨fr,os,bs⟩ E a w)(ht:P.underlying t=some (.slice e))(hx:St.ev ⟨fr,os,bs⟩ (opd x)= .c false [.osub k i p q])(ho:os[k]? =some o)(hv:o.ver=i):
 gI P B Xs G w0 fr a w ⟨d,.call {callee:= .builtin .len,args:= #[x],argTypes:= #[t]},ty,pos,after,guard⟩ Q (.c false [.raw (.int .i64 ((q - p:Nat):Int))]) os bs:=by
 have hev:=dM h x;rw[hx]at hev;obtain⟨_,_,pp,cs,f,_,_,_,_,_,A,n,c,_,g⟩:=rJ h hev.1 ho hv;refine rP h ht ⟨_,_,g⟩
theorem Nl{t e s:Nat}{x y:Operand}{l:List D}{n:Bool}(h:Rel B Xs G w0 ⟨fr,os,bs⟩ E a w)(ht:P.underlying t=some (.slice e))(he:pW P e s=true)(hx:St.ev ⟨fr,os,bs⟩ (opd x)= .c false [.raw (.slice none 0 0)])
 (hsrc:bV os (St.ev ⟨fr,os,bs⟩ (opd y))=some (l,n)) (hl:El s l) (hn:l.length≤jH s):
 gI P B Xs G w0 fr a w ⟨d,.call {callee:= .builtin .append,args:= #[x,y],argTypes:= #[t,t]},ty,pos,after,guard⟩ Q (.c false [.own os.length 0]) (os++ [⟨l,e,s,0,n⟩]) bs:=by
 intro K hK;have hxv:=bT h hx;obtain⟨f,hS,hf⟩:=IX h hsrc (dM h y);obtain⟨v',w',cs,hrun,hr,hown,hg,hat⟩:=jC (P:=P) ty ht he w.heap.size (.slice none 0 0) 0 [] aS.nil l f _ hS hl (by simpa using hn) (t_ _);have hb:Below w.heap.size w w':=(U_ _ _).grown hg (t_ _) (fun b hb=>by simp[A_]at hb);refine zJ (by rw[hxv];exact hrun) (hK _ v' w' (h.Ad hb (o:=⟨l,e,s,0,n⟩) (f:=f) (cs:=cs) (by simpa using hown) (hr.below hb) hl (fun b hbm=>⟨(hf b hbm).2.1,fun e2=> ?_,(hf b hbm).2.2⟩) rfl d));rcases hat with h'|h'
 ·rw[h']at e2;simp[A_]at e2
 ·rw[h']at e2;injection e2 with e2
  have:=(hf b hbm).1;omega
theorem P8{src dst:Nat}{x:Operand}{k k' k0:IntKind}{z:Int}(h:Rel B Xs G w0 ⟨fr,os,bs⟩ E a w)(hs:P.underlying src=some (.int k0))(hd:P.underlying dst=some (.int k))(hx:St.ev ⟨fr,os,bs⟩ (opd x)= .c false [.raw (.int k' z)]):
 gI P B Xs G w0 fr a w ⟨d,.convert src dst x,ty,pos,after,guard⟩ Q (.c false [.raw (.int k (k.wrap z))]) os bs:=by
 refine bM h (v:= .int k (k.wrap z)) ?_ ⟨rfl,trivial⟩;simp[execOp,bT h hx,convert,run_underlying hs,run_underlying hd,Conv.intToInt]
theorem yH :∀{l:List D} {b:List UInt8} {f:List Nat} {cs:List Value},lJ l=some b→Rs w l f cs→∃xs:List Int,cs=xs.map (Value.int .u8)∧xs.length=l.length∧xs.map (fun n=>UInt8.ofNat n.toNat)=b
 | [],b,f,cs,hb,hr=>by
   simp only[lJ,w_]at hb;subst hb;exact⟨[],by rw[hr.2];rfl,rfl,rfl⟩
 | d ::l,b,f,cs,hb,hr=>by
   rw[Rs]at hr;obtain⟨f1,f2,c1,c2,rfl,rfl,h1,h2⟩:=hr;unfold lJ at hb;split at hb
   ·next heq=>cases heq
   ·next n l' heq=>
    injection heq with e1 e2
    subst e1 e2;split at hb
    ·next r hr'=>
     injection hb with hb
     subst hb;obtain⟨xs,g1,g2,g3⟩:=yH hr' h2;obtain⟨_,rfl⟩:=h1;exact⟨n::xs,by rw[g1];rfl,by simp[g2],by simp[g3]⟩
    ·cases hb
   ·cases hb
theorem Rq{src dst e:Nat}{l:List D}{b:List UInt8}{f:List Nat}{v:Value}(hs:P.underlying src=some (.slice e))(he:P.underlying e=some (.int .u8))(hd:P.underlying dst=some .string)(hb:lJ l=some b)(hS:Sl w l f v):
 (convert src dst v).run P w= .ok (.string ⟨b.toArray⟩) w:=by
 have hS':=hS;unfold Sl at hS';rw[R]at hS';obtain⟨A,c,e1,_,_,h4⟩:=hS';simp only[List.cons.injEq,and_true]at e1;subst e1;rcases h4 with⟨rfl,_⟩|⟨bk,o,fp',cs',rfl,rfl,_,hrs,hat⟩
 ·simp only[lJ,w_]at hb;subst hb;cases A with
  |none=>exact run_convert_bytes_nil w src e hs he _ _ dst hd
  | some p=>
    rw[run_convert_bytes_string w src dst e _ _ c hs he hd,run_bytesToString w _ _ c [] (by simp[loadCells,loadCellsFrom])];rfl
 ·obtain⟨xs,g1,g2,g3⟩:=yH hb hrs;rw[run_convert_bytes_arg w src e hs he bk o l.length c xs g2 (fun i hi=> ?_) dst hd]
  ·unfold strOfNums;rw[g3]
  ·exact hat i (.int .u8 (xs.getD i 0)) (by rw[g1,D_,y_,n_ (by omega)];rfl)
theorem GZ{src dst e:Nat}{x:Operand}{l:List D}{b:List UInt8}{f:List Nat}(h:Rel B Xs G w0 ⟨fr,os,bs⟩ E a w)(hs:P.underlying src=some (.slice e))(he:P.underlying e=some (.int .u8))(hd:P.underlying dst=some .string)(hb:lJ l=some b)(hS:Sl w l f (a.eval x)):
 gI P B Xs G w0 fr a w ⟨d,.convert src dst x,ty,pos,after,guard⟩ Q (.c false [.raw (.string ⟨b.toArray⟩)]) os bs:=by
 refine bM h (v:= .string ⟨b.toArray⟩) ?_ ⟨rfl,trivial⟩;simp[execOp,Rq hs he hd hb hS]
theorem MX{src dst e:Nat}{x:Operand}{n:Bool}{l:List D}{b:List UInt8}(h:Rel B Xs G w0 ⟨fr,os,bs⟩ E a w)(hs:P.underlying src=some (.slice e))(he:P.underlying e=some (.int .u8))(hd:P.underlying dst=some .string)(hx:St.ev ⟨fr,os,bs⟩ (opd x)= .c false [.sl n l])(hb:lJ l=some b):
 gI P B Xs G w0 fr a w ⟨d,.convert src dst x,ty,pos,after,guard⟩ Q (.c false [.raw (.string ⟨b.toArray⟩)]) os bs:=by
 have hv:=dM h x;rw[hx]at hv;obtain⟨⟨fp,h1,_⟩,_⟩:=hv;exact GZ h hs he hd hb h1
theorem MZ{src dst e:Nat}{x:Operand}{k i:Nat}{o:Own}{b:List UInt8}(h:Rel B Xs G w0 ⟨fr,os,bs⟩ E a w)(hs:P.underlying src=some (.slice e))(he:P.underlying e=some (.int .u8))(hd:P.underlying dst=some .string)(hx:St.ev ⟨fr,os,bs⟩ (opd x)= .c false [.own k i])(ho:os[k]? =some o)(hv:o.ver=i)(hb:lJ o.l=some b):
 gI P B Xs G w0 fr a w ⟨d,.convert src dst x,ty,pos,after,guard⟩ Q (.c false [.raw (.string ⟨b.toArray⟩)]) os bs:=by
 have hev:=dM h x;rw[hx]at hev;obtain⟨⟨_,o',p,h1,h2,_,h4⟩,_⟩:=hev;simp only at h1;rw[ho]at h1;injection h1 with h1
 subst h1;have hxv:=h4 hv;obtain⟨cs0,h5,h6,h7,h8⟩:=h.own k o p ho h2;exact GZ h hs he hd hb (hxv▸Sl.kU h5 h6)
theorem IV(s:ByteArray):Rs w (DX s) [] (Go.Lib.strCells s):=by
 unfold DX Go.Lib.strCells;generalize s.data.toList=l
 induction l with
 |nil=>exact⟨rfl,rfl⟩
 | cons b l ih=>
   rw[J_,J_,Rs];exact⟨[],[],[_],_,rfl,rfl,⟨rfl,rfl⟩,ih⟩
theorem Rh(s:ByteArray):El 1 (DX s):=fun x hx=>by
 obtain⟨b,_,rfl⟩:=a_D.1 hx;exact⟨rfl,rfl⟩
theorem Nh{t u e:Nat}{x y:Operand}{k i:Nat}{o:Own}{s:ByteArray}(h:Rel B Xs G w0 ⟨fr,os,bs⟩ E a w)(ht:P.underlying t=some (.slice e))(hu:P.underlying u=some .string)(he:LG P e=true)(hx:St.ev ⟨fr,os,bs⟩ (opd x)= .c false [.own k i])
 (ho:os[k]? =some o) (hv:o.ver=i) (hoe:o.e=e) (hos:o.s=1) (hy:St.ev ⟨fr,os,bs⟩ (opd y)= .c false [.raw (.string s)]) (hn:o.l.length+s.size≤1073741824):
 gI P B Xs G w0 fr a w ⟨d,.call {callee:= .builtin .append,args:= #[x,y],argTypes:= #[t,u]},ty,pos,after,guard⟩ Q (.c false [.own k (i+1)]) (os.set k ⟨o.l++DX s,e,1,i+1,o.nw.n⟩) bs:=by
 obtain⟨ol,oe,osz,over,onw⟩:=o;simp only at hv hoe hos hn;subst hv hoe hos;intro K hK;have hev:=dM h x;rw[hx]at hev;obtain⟨⟨_,o',p,h1,h2,_,h4⟩,_⟩:=hev;simp only at h1;rw[ho]at h1;injection h1 with h1
 subst h1;have hxv:=h4 rfl;have hyv:=bT h hy;obtain⟨cs0,h5,h6,h7,h8⟩:=h.own k _ p ho h2;obtain⟨ti,e1,e2,e3,e4⟩:=JC he;obtain⟨v',w',hrun,hown,hg,hat⟩:=qK (P:=P) w E.B t u ty oe ti _ ht hu e1 e2 rfl e3 e4 p.1 _ cs0 h5 s (by unfold maxLen;show ol.length+s.size≤_;omega) (by show ol.length+s.size≤_;omega) h.base;have hpM:∀b,p.1.ownBlock=some b→b∈E.M:=fun b hb=>gV.2 (h_ ⟨k,p,h2,hb⟩)
 have r0:=h6.grown hg (fun g hgv hm=>(h8 g hm).1 (hpM g hgv));refine oH (v:=v') (w':=w') (by simp[execOp,resolve,invoke,builtin,hxv,hyv,hrun]) (hK _ v' w' (h.grow ho h2 (f:=p.2) hg hat (l:=ol++DX s) (by rw[b_,Og];exact hown) (by have:=Rs.append (IV (w:=w') s) r0;rwa[a_S]at this) (h7.append (Rh s)) (fun b hb=> ?_) d));exact⟨Rs.lt h6 b hb,(h8 b hb).1,fun e=>(h8 b hb).2 e⟩
end
section
variable{P:Program}{B:Nat}{Xs:List Nat}{G:Org}{w0:World}{fr:List AV}{os:List Own}{bs:List (List AC)}{E:Env}{a:Act}{w:World}{d:Option Tmp}{Q:Exit→Act→World→Prop}
 {ty:TypeId} {pos:String} {after:Array Edge} {guard:Option (Nat×Bool)} {own:Bool} {i:I} {r:AV} {os':List Own} {bs':List (List AC)}
theorem F8{t:TypeId}{x:Operand}{inf:TypeInfo}{dd:TypeDesc}{n:Nat}{g:Bool}(h:Rel B Xs G w0 ⟨fr,os,bs⟩ E a w)(hi:P.info? t=some inf)(hd:P.underlying t=some dd)(hg:lG dd=g)(hn:if g then inf.size=n else n=1)
 (hr:Res P (St.ev ⟨fr,os,bs⟩) os bs (.load n g (opd x)) r os' bs'):gI P B Xs G w0 fr a w ⟨d,.load t x,ty,pos,after,guard⟩ Q r os' bs':=by
 have hev:=dM h x;cases hr with
 | loadP hx hl=>
   rw[hx]at hev;obtain⟨b,o,vs,he,_,_,ha,hvs⟩:=hev;exact xk h hi hd hg hn he ha hvs hl
 | @loadB _ _ _ xs k off hx hk hl=>
   rw[hx]at hev;obtain⟨p,hp,he⟩:=hev;obtain⟨_,vs,hrow,hvs⟩:=h.box k xs p hk hp;have ha:At w p.1 off (vs.drop off):=fun j u hj=>by rw[hrow.cell];rw[List.getElem?_drop]at hj;exact hj
   exact xk h hi hd hg hn he ha (hvs.drop off) (by rw[l_];omega)
 | @loadE _ _ _ k i j off o dj hx ho hv hj hl=>
   rw[hx]at hev;obtain⟨o',p,h1,h2,_,h4⟩:=hev;simp only at h1;rw[ho]at h1;injection h1 with h1
   subst h1;obtain⟨b,z0,he,hb⟩:=h4 hv;obtain⟨cs,h5,h6,h7,h8⟩:=h.own k o p ho h2;obtain⟨jl,jd⟩:=d_.1 hj;obtain⟨fi,ci,hR,hfi,hci⟩:=h6.get (fun d hd=>(h7 d hd).2) hj;have hat:At w b (z0+j*o.s) ci:=fun m u hm'=>by
    have:=(h5.at_ hb).1 _ u (hci m u hm');rwa[← K_]at this
   have hoks:Oks E os w (dj.acs o.nw.n) ci:=nY hR (fun b hb=>⟨(h8 b (hfi b hb)).1,fun e=>(h8 b (hfi b hb)).2 e⟩);exact xk h hi hd hg hn (by rw[he,← K_]) hat.drop (hoks.drop off) (by rw[l_];omega)
theorem RD{s f off n:Nat}{g:Bool}{x:Operand}(h:Rel B Xs G w0 ⟨fr,os,bs⟩ E a w)(hf:pV P s f=some (off,n,g))(hn:¬n=0)
 (hr:Res P (St.ev ⟨fr,os,bs⟩) os bs (.fad off (opd x)) r os' bs'):gI P B Xs G w0 fr a w ⟨d,.fieldAddr s x f,ty,pos,after,guard⟩ Q r os' bs':=by
 have hev:=dM h x;cases hr with
 | fadP hx hl=>
   rw[hx]at hev;obtain⟨b,o,vs,he,hb,hm,ha,hvs⟩:=hev;exact AB h hf hn he ⟨b,o+off,vs.drop off,rfl,hb,hm,ha.drop,hvs.drop off⟩
 | fadB hx=>
   rw[hx]at hev;obtain⟨p,hp,he⟩:=hev;exact AB h hf hn he ⟨p,hp,rfl⟩
 | fadE hx ho hv=>
   rw[hx]at hev;obtain⟨o',p,h1,h2,h3,h4⟩:=hev;simp only at h1;rw[ho]at h1;injection h1 with h1
   subst h1;obtain⟨b,z0,he,hb⟩:=h4 hv;exact AB h hf hn he ⟨_,p,ho,h2,h3,fun _=>⟨b,z0,by simp only[K_],hb⟩⟩
theorem Rz{t e s:Nat}{x j:Operand}(h:Rel B Xs G w0 ⟨fr,os,bs⟩ E a w)(ht:jw P t=some (e,s))
 (hr:Res P (St.ev ⟨fr,os,bs⟩) os bs (.iad s (opd x) (opd j)) r os' bs'):gI P B Xs G w0 fr a w ⟨d,.indexAddr t x j,ty,pos,after,guard⟩ Q r os' bs':=by
 have hev:=dM h x;cases hr with
 | @iadS _ _ _ n l z dd hx hi h0 hl hel=>
   obtain⟨k,hk⟩:=rH hi;rw[hx]at hev;obtain⟨⟨fp,h1,h2⟩,_⟩:=hev;obtain⟨A,c,he,_,_⟩:=Sl.form h1;rw[he]at h1;obtain⟨b,o,fi,ci,rfl,hb,hbf,hR,hfi,hat⟩:=h1.elem (fun d hd=>(hel d hd).2) hl;have hlt:=(d_.1 hl).1;exact AA h ht he (bT h hk) h0 hlt ⟨b,o+z.toNat*s,ci,rfl,hb,(h2 b hbf).1,hat,nY hR (fun b' hb'=>h2 b' (hfi b' hb'))⟩
 | @iadO _ _ _ k jj o z hx hi h0 ho hv hl hs=>
   obtain⟨kk,hk⟩:=rH hi;rw[hx]at hev;obtain⟨⟨_,o',p,h1,h2,h3,h4⟩,_⟩:=hev;simp only at h1;rw[ho]at h1;injection h1 with h1
   subst h1;have he:=h4 hv;obtain⟨cs,h5,h6,h7,h8⟩:=h.own k o p ho h2;rcases h5.2 with⟨hv',h9⟩|⟨g,zz,cap,cur,hv',_⟩
   ·omega
   ·subst hs;refine AA h ht (he.trans hv') (bT h hk) h0 hl ⟨o,p,ho,h2,h3,fun _=>⟨g,zz,by simp,by rw[hv'];rfl⟩⟩
 | @iadU _ _ _ k jj pa qa o z hx hi h0 ho hv hl hs=>
   obtain⟨kk,hk⟩:=rH hi;rw[hx]at hev;have hev1:=hev.1;obtain⟨⟨_,o',p',h1,h2,h3,h4⟩,_⟩:=hev;simp only at h1;rw[ho]at h1;injection h1 with h1
   subst h1;obtain⟨g1,g2,p,cs,f,g3,g4,g5,g6,g7,A,n,c,g8,g9⟩:=rJ h hev1 ho hv;have hpp:p'=p:=by rw[h2]at g3;injection g3
   subst hpp;obtain⟨cs',h5,h6,h7,h8⟩:=h.own k o p' ho h2;rcases h5.2 with⟨hv',h9⟩|⟨g,zz,cap,cur,hv',_,_,q1,_⟩
   ·omega
   ·subst hs;rw[hv']at g8;injection g8 with e1 e2 e3
    subst e1 e2 e3;have hne:¬cap=pa:=by omega
    have hA:a.eval x= .slice (some ⟨g,zz+pa*o.s,none⟩) (qa - pa) (cap - pa):=by
     rw[g9];unfold sliced;rw[if_neg hne,a_P,qY]
    refine AA h ht hA (bT h hk) h0 hl ⟨o,p',ho,h2,h3,fun _=>⟨g,zz, ?_,by rw[hv'];rfl⟩⟩;rw[a_h,a_o,K_]
theorem Ry{x:Operand}(h:Rel B Xs G w0 ⟨fr,os,bs⟩ E a w)
 (hr:Res P (St.ev ⟨fr,os,bs⟩) os bs (.nck (opd x)) r os' bs'):gI P B Xs G w0 fr a w ⟨d,.nilCheck x,ty,pos,after,guard⟩ Q r os' bs':=by
 have hev:=dM h x;cases hr with
 | nckP hx=>
   rw[hx]at hev;have hev':=hev;obtain⟨b,o,vs,he,_⟩:=hev;rw[he]at hev';exact GV h he hev'
 | nckB hx=>
   rw[hx]at hev;have hev':=hev;obtain⟨p,hp,he⟩:=hev;rw[he]at hev';exact GV h he hev'
theorem OZ{t e:Nat}{x:Operand}(h:Rel B Xs G w0 ⟨fr,os,bs⟩ E a w)(ht:P.underlying t=some (.slice e))
 (hr:Res P (St.ev ⟨fr,os,bs⟩) os bs (.len false (opd x)) r os' bs'):gI P B Xs G w0 fr a w ⟨d,.call {callee:= .builtin .len,args:= #[x],argTypes:= #[t]},ty,pos,after,guard⟩ Q r os' bs':=by
 have hev:=dM h x;cases hr with
 | lenS hx=>
   rw[hx]at hev;obtain⟨⟨fp,h1,h2⟩,_⟩:=hev;obtain⟨A,c,he,_,_⟩:=Sl.form h1;exact rP h ht ⟨A,c,he⟩
 | lenO hx ho hv=>
   rw[hx]at hev;obtain⟨⟨_,o',p,h1,h2,h3,h4⟩,_⟩:=hev;simp only at h1;rw[ho]at h1;injection h1 with h1
   subst h1;have he:=h4 hv;obtain⟨cs,h5,h6,h7,h8⟩:=h.own _ _ p ho h2;obtain⟨A,c,hv'⟩:=jE h5;exact rP h ht ⟨A,c,he.trans hv'⟩
 |lenU hx ho hv=>exact RN h ht hx ho hv
 | lenN hx=>
   have:=rP (d:=d) (ty:=ty) (pos:=pos) (after:=after) (guard:=guard) (Q:=Q) h ht ⟨none,0,bT h hx⟩;simpa using this
theorem RF{t e s:Nat}{x y:Operand}(h:Rel B Xs G w0 ⟨fr,os,bs⟩ E a w)(ht:P.underlying t=some (.slice e))(he:pW P e s=true)
 (hr:Res P (St.ev ⟨fr,os,bs⟩) os bs (.app e s (opd x) (opd y)) r os' bs'):gI P B Xs G w0 fr a w ⟨d,.call {callee:= .builtin .append,args:= #[x,y],argTypes:= #[t,t]},ty,pos,after,guard⟩ Q r os' bs':=by
 cases hr with
 |appO hx ho hv h1 h2 hs hl hn=>exact Nk h ht he hx ho hv h1 h2 hs hl hn
 |appU hx ho hv h1 h2 hs hl hn=>exact Nj h ht he hx ho hv h1 h2 hs hl hn
 |appN hx hs hl hn=>exact Nl h ht he hx hs hl hn
theorem IW{op:Op}(hc:bJ P own op=some i)(h:Rel B Xs G w0 ⟨fr,os,bs⟩ E a w)(hr:Res P (St.ev ⟨fr,os,bs⟩) os bs i r os' bs'):
 gI P B Xs G w0 fr a w ⟨d,op,ty,pos,after,guard⟩ Q r os' bs':=by
 cases op with
 | move x=>
   simp only[bJ]at hc;injection hc with hc
   subst hc;cases hr;exact GX (b:=true) h
 | assign x=>
   simp only[bJ]at hc;injection hc with hc
   subst hc;cases hr;exact GX (b:=false) h
 | pick c x y=>
   simp only[bJ]at hc;injection hc with hc
   subst hc;cases hr with
   |pick hb=>exact MV h hb
 | binOp op t x y yt=>
   simp only[bJ]at hc;split at hc
   ·next ht=>
    injection hc with hc
    subst hc;cases hr with
    |beq hx hy=>exact He (ne:=false) h hx hy ht
   ·next ht=>
    injection hc with hc
    subst hc;cases hr with
    |beq hx hy=>exact He (ne:=true) h hx hy ht
   ·next ht=>
    split at hc
    ·injection hc with hc
     subst hc;cases hr with
     |fnilC hx=>exact rQ (ne:=false) h ht (e_ ⟨_,_,hx,rfl⟩)
     |fnilN hx=>exact rQ (ne:=false) h ht (h_ ⟨hx,rfl⟩)
    ·cases hc
   ·next ht=>
    split at hc
    ·injection hc with hc
     subst hc;cases hr with
     |fnilC hx=>exact rQ (ne:=true) h ht (e_ ⟨_,_,hx,rfl⟩)
     |fnilN hx=>exact rQ (ne:=true) h ht (h_ ⟨hx,rfl⟩)
    ·cases hc
   ·next ht=>
    split at hc
    ·injection hc with hc
     subst hc;cases hr with
     |snilZ hx=>exact rO (ne:=false) h ht (h_ ⟨hx,rfl⟩)
     |snilO hx ho hv hl=>exact rO (ne:=false) h ht (e_ ⟨_,_,_,hx,ho,hv,hl,rfl⟩)
    ·cases hc
   ·next ht=>
    split at hc
    ·injection hc with hc
     subst hc;cases hr with
     |snilZ hx=>exact rO (ne:=true) h ht (h_ ⟨hx,rfl⟩)
     |snilO hx ho hv hl=>exact rO (ne:=true) h ht (e_ ⟨_,_,_,hx,ho,hv,hl,rfl⟩)
    ·cases hc
   ·next ht=>
    split at hc
    ·next hf=>
     split at hc
     ·cases hc
     ·next hg=>
      injection hc with hc
      subst hc;cases hr with
      |beqS hx hy hu hv he=>exact Dn (ne:=false) h ht hf (by simpa using hg) hx hy hu hv he
    ·cases hc
   ·next ht=>
    split at hc
    ·next hf=>
     split at hc
     ·cases hc
     ·next hg=>
      injection hc with hc
      subst hc;cases hr with
      |beqS hx hy hu hv he=>exact Dn (ne:=true) h ht hf (by simpa using hg) hx hy hu hv he
    ·cases hc
   ·injection hc with hc
    subst hc;cases hr with
    |bin hx hy hz=>exact Qc h hx hy hz
 | unOp op t x=>
   cases op<;>simp only[bJ,reduceCtorEq]at hc
   injection hc with hc
   subst hc;cases hr with
   |not hx=>exact PZ h hx
 | makeFunc fn first caps=>
   cases fn<;>simp only[bJ,reduceCtorEq]at hc
   split at hc
   ·next hf=>
    injection hc with hc
    subst hc;cases hr with
    |mkf hcs=>exact P5 h hf hcs
   ·cases hc
 | load t x=>
   simp only[bJ]at hc;split at hc
   ·next inf dd hi hd=>
    split at hc
    ·next hg=>
     injection hc with hc
     subst hc;exact F8 h hi hd hg (by simp) hr
    ·next hg=>
     injection hc with hc
     subst hc;exact F8 h hi hd (by simpa using hg) (by simp) hr
   ·cases hc
 | store t x y=>
   simp only[bJ]at hc;split at hc
   ·next inf hi=>
    injection hc with hc
    subst hc;cases hr with
    |store hx hy hl h1 hk ho=>exact Jr h hi hx hy hl h1 hk ho
   ·cases hc
 | fieldAddr s x f=>
   simp only[bJ]at hc;split at hc
   ·next off n g hf=>
    split at hc
    ·cases hc
    ·next hn=>
     injection hc with hc
     subst hc;exact RD h hf hn hr
   ·cases hc
 | indexAddr t x j=>
   simp only[bJ]at hc;split at hc
   ·next e s ht=>
    injection hc with hc
    subst hc;exact Rz h ht hr
   ·cases hc
 | nilCheck x=>
   simp only[bJ]at hc;injection hc with hc
   subst hc;exact Ry h hr
 | alloc t=>
   simp only[bJ]at hc;split at hc
   ·next inf hi=>
    split at hc
    ·next z hz=>
     injection hc with hc
     subst hc;cases hr;exact Jw h hi hz
    ·cases hc
   ·cases hc
 | box t x=>
   simp only[bJ]at hc;injection hc with hc
   subst hc;cases hr with
   |box hx h1=>exact Qa h hx h1
 | buildSlice t n ps=>
   simp only[bJ]at hc;split at hc
   ·next e s ht=>
    split at hc
    ·next hk=>
     injection hc with hc
     subst hc;simp only[q_,decide_eq_true_eq]at hk;cases hr with
     |brow hd hs hl=>exact Nb h ht hk.1.1 hk.1.2 hk.2 hd hs hl
     |bown hd hs hl=>exact Nc h ht hk.1.1 hk.1.2 hk.2 hd hs hl
    ·cases hc
   ·cases hc
 | makeSlice t l c=>
   simp only[bJ]at hc;split at hc
   ·next e s ht=>
    split at hc
    ·next z hz=>
     split at hc
     ·next hk=>
      injection hc with hc
      subst hc;simp only[q_,beq_iff_eq]at hk;obtain⟨⟨⟨rfl,h2⟩,h3⟩,h4⟩:=hk;cases hr with
      |mkO hl hk=>exact RQ h ht h2 hz h3 h4 hl hk
     ·cases hc
    ·cases hc
   ·cases hc
 | build t ps=>
   simp only[bJ]at hc;split at hc
   ·next it fields h1 h2=>
    split at hc
    ·next z places h3 h4=>
     split at hc
     ·next l h5=>
      injection hc with hc
      subst hc;cases hr with
      |bld hf=>exact Qb h h1 h2 h3 h4 h5 hf
     ·cases hc
    ·cases hc
   ·cases hc
 | field t x f=>
   simp only[bJ]at hc;split at hc
   ·next off n g hf=>
    cases g with
    | true=>
      simp only[if_true]at hc;injection hc with hc
      subst hc;cases hr with
      |fld hx hl=>exact GY h hf rfl hx hl
    | false=>
      simp only[Bool.false_eq_true,if_false]at hc;injection hc with hc
      subst hc;cases hr with
      |fld hx hl=>exact GY h hf rfl hx hl
   ·cases hc
 | index t x j=>
   simp only[bJ]at hc;split at hc
   ·next ht=>
    injection hc with hc
    subst hc;cases hr with
    |sidx hx hi h0 hb=>exact MS h ht hx hi h0 hb
   ·cases hc
 | slice t x lo hi mx=>
   cases mx with
   |some m=>simp only[bJ,reduceCtorEq]at hc
   | none=>
     simp only[bJ]at hc;split at hc
     ·next ht=>
      injection hc with hc
      subst hc;cases hr with
      |ssl hx h1 h2 h3=>exact PY h ht hx h1 h2 h3
     ·next e ht=>
      split at hc
      ·next inf hi=>
       injection hc with hc
       subst hc;cases hr with
       |lsl hx h1 h2 h3 h4=>exact P6 h ht hi hx h1 h2 h3 h4
       | lslO hx ho hv hs h1 h2 h3=>
         obtain⟨u,g1,g2⟩:=Gt (d:=d) (ty:=ty) (pos:=pos) (after:=after) (guard:=guard) h ht hi hx ho hv hs h1 h2 h3;exact bM h g1 ⟨g2,trivial⟩
      ·cases hc
     ·cases hc
 | extract x j=>
   simp only[bJ]at hc;injection hc with hc
   subst hc;cases hr with
   |ext hx hj=>exact P7 h hx hj
 | convert src dst x=>
   simp only[bJ]at hc;split at hc
   ·next hs hd=>
    injection hc with hc
    subst hc;cases hr with
    |cvi hx=>exact P8 h hs hd hx
   ·next e hs hd=>
    split at hc
    ·next he=>
     injection hc with hc
     subst hc;cases hr with
     |cvsS hx hb=>exact MX h hs he hd hx hb
     |cvsO hx ho hv hb=>exact MZ h hs he hd hx ho hv hb
    ·cases hc
   ·cases hc
 | call c=>
   obtain⟨callee,args,ats⟩:=c;simp only[bJ]at hc;split at hc
   ·next _ f=>
    split at hc
    ·next fn hf=>
     split at hc
     ·cases hc
     ·next hn=>
      injection hc with hc
      subst hc;have hn':(fn.name== "runtime.NumGoroutine" || fn.body.isNone)=false:=by
       cases hb:(fn.name== "runtime.NumGoroutine" || fn.body.isNone)with
       |true=>exact absurd hb hn
       |false=>rfl
      have hm:(args.toList.map opd).map (St.ev ⟨fr,os,bs⟩)=args.toList.map fun x=>St.ev ⟨fr,os,bs⟩ (opd x):=by simp
      cases hr with
      |call ha hcc hres=>exact Na h hf hn' (hm▸ha) hcc hres
      |callO ha hcc hl=>exact Jt h hf hn' (hm▸ha) hcc hl
      |callX ha hcc hres hlen=>exact Js h hf hn' (hm▸ha) hcc hres
      |callA ha hcc hres=>exact Ju h hf hn' (hm▸ha) hcc hres
    ·cases hc
   ·next _=>
    split at hc
    ·next x y t t' hargs hats=>
     have e1:args= #[x,y]:=by apply Array.toList_inj.1;simpa using hargs
     have e2:ats= #[t,t']:=by apply Array.toList_inj.1;simpa using hats
     subst e1 e2;split at hc
     ·next htt=>
      subst htt;split at hc
      ·next e s ht=>
       split at hc
       ·next he=>
        injection hc with hc
        subst hc;exact RF h (lX ht).1 he hr
       ·cases hc
      ·cases hc
     ·split at hc
      ·next e ht hu=>
       split at hc
       ·next he=>
        injection hc with hc
        subst hc;cases hr with
        |apps hx ho hv h1 h2 hy h3=>exact Nh h ht hu he hx ho hv h1 h2 hy h3
       ·cases hc
      ·cases hc
    ·cases hc
   ·next _=>
    split at hc
    ·next x t hargs hats=>
     have e1:args= #[x]:=by apply Array.toList_inj.1;simpa using hargs
     have e2:ats= #[t]:=by apply Array.toList_inj.1;simpa using hats
     subst e1 e2;split at hc
     ·next ht=>
      injection hc with hc
      subst hc;cases hr with
      |lenT hx=>exact MW h ht (bT h hx)
     ·next e ht=>
      injection hc with hc
      subst hc;exact OZ h ht hr
     ·cases hc
    ·cases hc
   ·injection hc with hc
    subst hc;cases hr
   ·cases hc
 |_=>simp[bJ]at hc
theorem D5{op:Op}{n k v j:Nat}{x y:Opd}{ow:Own}{dd:D}{K:Act→World→Prop}(hc:bJ P own op=some (.store n x y))(h:Rel B Xs G w0 ⟨fr,os,bs⟩ E a w)
 (hx:St.ev ⟨fr,os,bs⟩ x= .eptr k v j 0) (ho:os[k]? =some ow) (hv:ow.ver=v) (hs:ow.s=n) (hj:j<ow.l.length) (hy:(St.ev ⟨fr,os,bs⟩ y).toD=some dd) (hd:dd.sz=n)
 (hK:∀E' w',Rel B Xs G w0 (St.put ⟨fr,os.set k ⟨ow.l.set j dd,ow.e,ow.s,ow.ver,ow.nw.n && (St.ev ⟨fr,os,bs⟩ y).nw⟩,bs⟩ d .any) E' (a.put d undef) w'→K (a.put d undef) w'):
 u_ P ⟨d,op,ty,pos,after,guard⟩ a w K Q:=by
 have:∃t x' y' i,op= .store t x' y'∧P.info? t=some i∧i.size=n∧opd x'=x∧opd y'=y:=by
  cases op with
  | store t x' y'=>
    simp only[bJ]at hc;split at hc
    ·next i hi=>
     injection hc with hc
     injection hc with h1 h2 h3
     exact⟨t,x',y',i,rfl,hi,h1,h2,h3⟩
    ·cases hc
  | _=>
    simp only[bJ]at hc
    repeat' split at hc
    all_goals first|contradiction|(cases hc;done)
 obtain⟨t,x',y',i,rfl,hi,rfl,rfl,rfl⟩:=this;exact GU h hi hx ho hv hs hj hy hd hK
theorem DZ{op:Op}{n k v j off:Nat}{x y:Opd}{ow:Own}{dd d0:D}{K:Act→World→Prop}(hc:bJ P own op=some (.store n x y))(h:Rel B Xs G w0 ⟨fr,os,bs⟩ E a w)
 (hx:St.ev ⟨fr,os,bs⟩ x= .eptr k v j off) (ho:os[k]? =some ow) (hv:ow.ver=v) (hs:off+n≤ow.s) (hj:ow.l[j]? =some d0) (hy:(St.ev ⟨fr,os,bs⟩ y).toD=some dd) (hd:dd.sz=n)
 (hK:∀E' w',Rel B Xs G w0 (St.put ⟨fr,os.set k ⟨ow.l.set j (D.patch d0 off dd),ow.e,ow.s,ow.ver,ow.nw.n && (St.ev ⟨fr,os,bs⟩ y).nw⟩,bs⟩ d .any) E' (a.put d undef) w'→K (a.put d undef) w'):
 u_ P ⟨d,op,ty,pos,after,guard⟩ a w K Q:=by
 have:∃t x' y' i,op= .store t x' y'∧P.info? t=some i∧i.size=n∧opd x'=x∧opd y'=y:=by
  cases op with
  | store t x' y'=>
    simp only[bJ]at hc;split at hc
    ·next i hi=>
     injection hc with hc
     injection hc with h1 h2 h3
     exact⟨t,x',y',i,rfl,hi,h1,h2,h3⟩
    ·cases hc
  | _=>
    simp only[bJ]at hc
    repeat' split at hc
    all_goals first|contradiction|(cases hc;done)
 obtain⟨t,x',y',i,rfl,hi,rfl,rfl,rfl⟩:=this;exact GR h hi hx ho hv hs hj hy hd hK
theorem Jj{op:Op}{s k v p q:Nat}{x:Opd}{lo hi:Option Opd}{ow:Own}{lo' hi':Option Int}{K:Act→World→Prop}(hc:bJ P own op=some (.lsl s x lo hi))(h:Rel B Xs G w0 ⟨fr,os,bs⟩ E a w)
 (hx:St.ev ⟨fr,os,bs⟩ x= .c false [.own k v]) (ho:os[k]? =some ow) (hv:ow.ver=v) (hs:ow.s=s) (hlo:lo.map (fun y=>bI (St.ev ⟨fr,os,bs⟩ y))=lo'.map some) (hhi:hi.map (fun y=>bI (St.ev ⟨fr,os,bs⟩ y))=hi'.map some)
 (hb:jr lo' hi' ow.l.length=some (p,q))
 (hK:∀E' u,Rel B Xs G w0 (St.put ⟨fr,os.set k ⟨(ow.l.take q).drop p,ow.e,ow.s,ow.ver+1,ow.nw.n⟩,bs⟩ d (.c false [.own k (ow.ver+1)])) E' (a.put d u) w→K (a.put d u) w):
 u_ P ⟨d,op,ty,pos,after,guard⟩ a w K Q:=by
 have : ∃t x' lo2 hi2 e i,op= .slice t x' lo2 hi2 none∧P.underlying t=some (.slice e)∧P.info? e=some i∧i.size=s∧opd x'=x∧lo2.map opd=lo∧hi2.map opd=hi:=by
  cases op with
  | slice t x' lo2 hi2 mx=>
    cases mx with
    |some m=>simp only[bJ,reduceCtorEq]at hc
    | none=>
      simp only[bJ]at hc;split at hc
      ·cases hc
      ·next e ht=>
       split at hc
       ·next inf hi=>
        injection hc with hc
        injection hc with h1 h2 h3 h4
        exact⟨t,x',lo2,hi2,e,inf,rfl,ht,hi,h1,h2,h3,h4⟩
       ·cases hc
      ·cases hc
  | _=>
    simp only[bJ]at hc
    repeat' split at hc
    all_goals first|contradiction|(cases hc;done)
 obtain⟨t,x',lo2,hi2,e,i,rfl,ht,hi0,rfl,rfl,rfl,rfl⟩:=this;subst hv;obtain⟨u,g1,g2⟩:=Gt (d:=d) (ty:=ty) (pos:=pos) (after:=after) (guard:=guard) h ht hi0 hx ho rfl hs hlo hhi hb;obtain⟨q1,q2,pp,cs,f,q3,q4,q5,q6,q7,_⟩:=rJ h g2 ho rfl;obtain⟨cs',h5,h6,h7,h8⟩:=h.own k ow pp ho q3;refine oH g1 (hK _ u (h.grow (nw:=⟨ow.nw.n,false⟩) ho q3 (World.grownBy.refl w _) (e_ q7) q4 q5 (fun z hz=>h7 z (g_ (B_ hz))) (fun b hb=>⟨Rs.lt h6 b (q6 b hb),h8 b (q6 b hb)⟩) d))
end
structure IOp where
 d:Option Nat
 gd:Option (Nat×Bool)
 i:I
def MQ(ops:Array Oper)(d:Tmp):Bool:=ops.any fun p=>match p.op,p.dst with
 | .build _ ps,some d2=>(ps.any fun x=>match x.2 with| .tmp t=>t==d|_=>false) && (ops.any fun q=>match q.op with
   | .buildSlice _ _ qs=>qs.any fun x=>match x.2 with| .tmp t=>t==d2|_=>false
   |_=>false)
 |_,_=>false
def Mc(ops:Array Oper)(d:Tmp):Bool:=ops.any fun p=>match p.op with
 | .store _ (.tmp x) (.tmp y)=>y==d && (ops.any fun q=>q.dst==some x && (match q.op with
   | .indexAddr .. =>true
   | .fieldAddr _ (.tmp z) _=>ops.any fun r=>r.dst==some z && (match r.op with| .indexAddr .. =>true|_=>false)
   |_=>false))
 |_=>false
def KH(ops:Array Oper)(o:Oper):Bool:=match o.dst with
 | some d=> !MQ ops d && !Mc ops d && !(ops.any fun p=>match p.op with
   | .call c=>(match c.callee,c.args.toList with| .builtin .append,[_,.tmp t]=>t==d| .value (.func _),l=>l.any (fun x=>match x with| .tmp t=>t==d|_=>false)|_,_=>false)
   | .slice _ (.tmp t) _ _ _=>t==d
   |_=>false)
 |none=>false
def setOwn(b:Bool):I→I
 | .brow _ e s n g xs=> .brow b e s n g xs
 |i=>i
def xC(P:Program)(ops:Array Oper)(o:Oper):Option IOp:=match bJ P (KH ops o) o.op with
 | some i=>(match o.guard with
   |none=>some ⟨o.dst,none,i⟩
   |some (j,want)=>(match(ops[j]?).bind (·.dst)with|some g=>some ⟨o.dst,some (g,want),i⟩|none=>none))
 |none=>none
def jZ(P:Program)(ops:Array Oper):List Oper→Option (List IOp)
 | []=>some []
 |o::l=>match xC P ops o,jZ P ops l with|some i,some is=>some (i::is)|_,_=>none
def gdA(st:St):Option (Nat×Bool)→Option Bool
 |none=>some true
 | some (g,want)=>match st.fr.getD g .any with
   | .c false [.raw (.bool b)]=>some (b==want)
   | .c false [.raw (.tuple _)]=>some false
   |_=>none
def idx(l:List D)(z:Option Int):Option D:=match z with|some z=>if 0≤z then l[z.toNat]? else none|none=>none
def opI(ρ:Opd→AV):Option Opd→Option (Option Int)
 |none=>some none
 |some x=>match bI (ρ x)with|some z=>some (some z)|none=>none
def ex(ρ:Opd→AV)(os:List Own)(bs:List (List AC)):I→Option (AV×List Own×List (List AC))
 | .mov x=>some (ρ x,os,bs)
 | .pick c x y=>(match ρ c with| .c false [.raw (.bool b)]=>some (if b then ρ x else ρ y,os,bs)|_=>none)
 | .bin op x y=>(match ρ x,ρ y with| .c false [.raw u],.c false [.raw v]=>(match iE op u v with|some z=>some (.c false [.raw z],os,bs)|none=>none)|_,_=>none)
 | .beq ne x y=>(match ρ x,ρ y with| .c false [.raw (.bool u)],.c false [.raw (.bool v)]=>some (.c false [.raw (.bool (if ne then !(u==v)else u==v))],os,bs)|_,_=>none)
 | .not x=>(match ρ x with| .c false [.raw (.bool u)]=>some (.c false [.raw (.bool !u)],os,bs)|_=>none)
 | .load n g x=>(match ρ x with
   | .ptr xs=>if n≤xs.length then some (.c g (xs.take n),os,bs)else none
   | .bptr k off=>(match bs[k]? with|some xs=>if off+n≤xs.length then some (.c g ((xs.drop off).take n),os,bs)else none|none=>none)
   | .eptr k i j off=>(match os[k]? with
     |some o=>if o.ver=i then(match o.l[j]? with|some d=>if off+n≤(d.acs o.nw.n).length then some (.c g (((d.acs o.nw.n).drop off).take n),os,bs)else none|none=>none)else none
     |none=>none)
   |_=>none)
 | .fad off x=>(match ρ x with
   | .ptr xs=>if off≤xs.length then some (.ptr (xs.drop off),os,bs)else none
   | .bptr k z=>some (.bptr k (z+off),os,bs)
   | .eptr k i j z=>(match os[k]? with|some o=>if o.ver=i then some (.eptr k i j (z+off),os,bs)else none|none=>none)
   |_=>none)
 | .nck x=>(match ρ x with| .ptr xs=>some (.ptr xs,os,bs)| .bptr k z=>some (.bptr k z,os,bs)|_=>none)
 | .alloc zs=>some (.bptr bs.length 0,os,bs++ [zs.map .raw])
 | .box x=>(match ρ x with| .c g xs=>if xs.all AC.one then some (.bptr bs.length 0,os,bs++ [xs])else none|_=>none)
 | .store n x y=>(match ρ x,ρ y with
   | .bptr k off,.c g ys=>if ys.length=n && ys.all AC.one then(match bs[k]? with|some xs=>if off+n≤xs.length then some (.any,os,bs.set k (xs.take off++ys++xs.drop (off+n)))else none|none=>none)else none
   |_,_=>none)
 | .brow own e s n g xs=>(match gy (xs.map ρ)with
   |some ds=>if ds.all (fun d=>d.sz==s) && ds.length==n then
    (if own then some (.c false [.own os.length 0],os++ [⟨ds,e,s,0,(xs.map ρ).all AV.nw⟩],bs)else some (.c false [.sl ((xs.map ρ).all AV.nw) ds],os,bs))else none
   |none=>none)
 | .mk e z x=>(match bI (ρ x)with
   |some n=>if 0≤n then(if n.toNat≤4194304 then some (.c false [.own os.length 0],os++ [⟨G_ n.toNat (.leaf z),e,1,0,true⟩],bs)else none)else none
   |none=>none)
 | .bld zs ps=>(match bW ρ ps (zs.map .raw)with|some cs=>some (.c true cs,os,bs)|none=>none)
 | .fld off n g x=>(match ρ x with| .c true xs=>if off+n≤xs.length then some (.c g ((xs.drop off).take n),os,bs)else none|_=>none)
 | .sidx x i=>(match ρ x,bI (ρ i)with
   | .c false [.raw (.string s)],some z=>if 0≤z then(match s.data[z.toNat]? with|some b=>some (.c false [.raw (.int .u8 b.toNat)],os,bs)|none=>none)else none
   |_,_=>none)
 | .ssl x lo hi=>(match ρ x,opI ρ lo,opI ρ hi with
   | .c false [.raw (.string s)],some l,some h=>(match jr l h s.size with|some (p,q)=>some (.c false [.raw (.string (s.extract p q))],os,bs)|none=>none)
   |_,_,_=>none)
 | .ext j x=>(match ρ x with| .tup ys=>(match ys[j]? with|some (g,xs)=>some (.c g xs,os,bs)|none=>none)|_=>none)
 | .len str x=>(match str,ρ x with
   |false,.c false [.sl n l]=>some (.c false [.raw (.int .i64 l.length)],os,bs)
   |false,.c false [.own k i]=>(match os[k]? with|some o=>if o.ver=i then some (.c false [.raw (.int .i64 o.l.length)],os,bs)else none|none=>none)
   |false,.c false [.osub k i p q]=>(match os[k]? with|some o=>if o.ver=i then some (.c false [.raw (.int .i64 ((q - p:Nat):Int))],os,bs)else none|none=>none)
   |true,.c false [.raw (.string s)]=>some (.c false [.raw (.int .i64 s.size)],os,bs)
   |false,.c false [.raw (.slice none 0 0)]=>some (.c false [.raw (.int .i64 0)],os,bs)
   |_,_=>none)
 | .mkf f xs=>(match bn (xs.map ρ)with|some cs=>some (.c false [.cl f cs],os,bs)|none=>none)
 | .fnil ne x=>(match ρ x with| .c false [.cl _ _]=>some (.c false [.raw (.bool ne)],os,bs)| .c false [.raw .nilFunc]=>some (.c false [.raw (.bool (!ne))],os,bs)|_=>none)
 | .snil ne x=>(match ρ x with
   | .c false [.raw (.slice none 0 0)]=>some (.c false [.raw (.bool (!ne))],os,bs)
   | .c false [.own k i]=>(match os[k]? with|some o=>if o.ver=i then(if 0<o.l.length then some (.c false [.raw (.bool ne)],os,bs)else none)else none|none=>none)
   |_=>none)
 | .beqS ne ks x y=>(match ρ x,ρ y with| .c true xs,.c true ys=>(match uF xs,uF ys with|some us,some vs=>(match eqV ks us vs with|some b=>some (.c false [.raw (.bool (if ne then !b else b))],os,bs)|none=>none)|_,_=>none)|_,_=>none)
 | .cvi k x=>(match ρ x with| .c false [.raw (.int _ z)]=>some (.c false [.raw (.int k (k.wrap z))],os,bs)|_=>none)
 | .cvs x=>(match ρ x with
   | .c false [.sl n l]=>(match lJ l with|some b=>some (.c false [.raw (.string ⟨b.toArray⟩)],os,bs)|none=>none)
   | .c false [.own k i]=>(match os[k]? with|some o=>if o.ver=i then(match lJ o.l with|some b=>some (.c false [.raw (.string ⟨b.toArray⟩)],os,bs)|none=>none)else none|none=>none)
   |_=>none)
 | .apps e x y=>(match ρ x,ρ y with
   | .c false [.own k i],.c false [.raw (.string s)]=>(match os[k]? with
     |some o=>if o.ver=i then(if o.e=e then(if o.s=1 then(if o.l.length+s.size≤1073741824 then some (.c false [.own k (i+1)],os.set k ⟨o.l++DX s,e,1,i+1,o.nw.n⟩,bs)else none)else none)else none)else none
     |none=>none)
   |_,_=>none)
 | .iad .. =>none
 | .lsl .. =>none
 | .call .. =>none
 | .callv .. =>none
 | .app .. =>none
theorem jq{ρ:Opd→AV}{lo:Option Opd}{l:Option Int}(h:opI ρ lo=some l):lo.map (fun y=>bI (ρ y))=l.map some:=by
 cases lo with
 |none=>simp only[opI]at h;injection h with h;subst h;rfl
 | some x=>
   simp only[opI]at h;split at h
   ·next z hz=>injection h with h;subst h;simp[hz]
   ·cases h
theorem xq{P:Program}{ρ:Opd→AV}{os os':List Own}{bs bs':List (List AC)}{i:I}{r:AV}(h:ex ρ os bs i=some (r,os',bs')):Res P ρ os bs i r os' bs':=by
 have fin:∀{x y:AV×List Own×List (List AC)},some x=some y→x=y:=fun h=>Option.some.inj h
 cases i with
 |mov x=>cases fin h;exact .mov
 | pick c x y=>
   simp only[ex]at h;split at h
   ·next b hc=>cases fin h;exact .pick hc
   ·cases h
 | bin op x y=>
   simp only[ex]at h;split at h
   ·next u v hx hy=>
    split at h
    ·next z hz=>cases fin h;exact .bin hx hy hz
    ·cases h
   ·cases h
 | beq ne x y=>
   simp only[ex]at h;split at h
   ·next u v hx hy=>cases fin h;exact .beq hx hy
   ·cases h
 | not x=>
   simp only[ex]at h;split at h
   ·next u hx=>cases fin h;exact .not hx
   ·cases h
 | mkf f xs=>
   simp only[ex]at h;split at h
   ·next cs hc=>cases fin h;exact .mkf hc
   ·cases h
 | fnil ne x=>
   simp only[ex]at h;split at h
   ·next hx=>cases fin h;exact .fnilC hx
   ·next hx=>cases fin h;exact .fnilN hx
   ·cases h
 | snil ne x=>
   simp only[ex]at h;split at h
   ·next hx=>cases fin h;exact .snilZ hx
   ·next k i hx=>
    split at h
    ·next o ho=>
     split at h
     ·next hv=>
      split at h
      ·next hl=>cases fin h;exact .snilO hx ho hv hl
      ·cases h
     ·cases h
    ·cases h
   ·cases h
 | load n g x=>
   simp only[ex]at h;split at h
   ·next xs hx=>
    split at h
    ·next hl=>cases fin h;exact .loadP hx hl
    ·cases h
   ·next k off hx=>
    split at h
    ·next xs hk=>
     split at h
     ·next hl=>cases fin h;exact .loadB hx hk hl
     ·cases h
    ·cases h
   ·next k i j off hx=>
    split at h
    ·next o ho=>
     split at h
     ·next hv=>
      split at h
      ·next d hd=>
       split at h
       ·next hl=>cases fin h;exact .loadE hx ho hv hd hl
       ·cases h
      ·cases h
     ·cases h
    ·cases h
   ·cases h
 | fad off x=>
   simp only[ex]at h;split at h
   ·next xs hx=>
    split at h
    ·next hl=>cases fin h;exact .fadP hx hl
    ·cases h
   ·next k z hx=>cases fin h;exact .fadB hx
   ·next k i j z hx=>
    split at h
    ·next o ho=>
     split at h
     ·next hv=>cases fin h;exact .fadE hx ho hv
     ·cases h
    ·cases h
   ·cases h
 | nck x=>
   simp only[ex]at h;split at h
   ·next xs hx=>cases fin h;exact .nckP hx
   ·next k z hx=>cases fin h;exact .nckB hx
   ·cases h
 |alloc zs=>cases fin h;exact .alloc
 | box x=>
   simp only[ex]at h;split at h
   ·next g xs hx=>
    split at h
    ·next h1=>cases fin h;exact .box hx h1
    ·cases h
   ·cases h
 | store n x y=>
   simp only[ex]at h;split at h
   ·next k off g ys hx hy=>
    split at h
    ·next h1=>
     simp only[q_,decide_eq_true_eq]at h1;split at h
     ·next xs hk=>
      split at h
      ·next hl=>cases fin h;exact .store hx hy h1.1 h1.2 hk hl
      ·cases h
     ·cases h
    ·cases h
   ·cases h
 | brow own e s n g xs=>
   simp only[ex]at h;split at h
   ·next ds hd=>
    split at h
    ·next h1=>
     simp only[q_,beq_iff_eq,a_M]at h1;split at h
     ·next ho=>cases fin h;rw[ho];exact .bown hd h1.1 h1.2
     ·next ho=>cases fin h;rw[show own=false by simpa using ho];exact .brow hd h1.1 h1.2
    ·cases h
   ·cases h
 | beqS ne ks x y=>
   simp only[ex]at h;split at h
   ·next xs ys hx hy=>
    split at h
    ·next us vs hu hv=>
     split at h
     ·next b hb=>cases fin h;exact .beqS hx hy hu hv hb
     ·cases h
    ·cases h
   ·cases h
 | cvi k x=>
   simp only[ex]at h;split at h
   ·next hx=>cases fin h;exact .cvi hx
   ·cases h
 | cvs x=>
   simp only[ex]at h;split at h
   ·next n l hx=>
    split at h
    ·next b hb=>cases fin h;exact .cvsS hx hb
    ·cases h
   ·next k i hx=>
    split at h
    ·next o ho=>
     split at h
     ·next hv=>
      split at h
      ·next b hb=>cases fin h;exact .cvsO hx ho hv hb
      ·cases h
     ·cases h
    ·cases h
   ·cases h
 | apps e x y=>
   simp only[ex]at h;split at h
   ·next k i s hx hy=>
    split at h
    ·next o ho=>
     split at h
     ·next hv=>
      split at h
      ·next h1=>
       split at h
       ·next h2=>
        split at h
        ·next h3=>cases fin h;exact .apps hx ho hv h1 h2 hy h3
        ·cases h
       ·cases h
      ·cases h
     ·cases h
    ·cases h
   ·cases h
 | mk e z x=>
   simp only[ex]at h;split at h
   ·next n hn=>
    split at h
    ·next h0=>
     split at h
     ·next h1=>
      cases fin h;exact .mkO (k:=n.toNat) (by rw[hn];congr 1;omega) h1
     ·cases h
    ·cases h
   ·cases h
 | bld zs ps=>
   simp only[ex]at h;split at h
   ·next cs hf=>cases fin h;exact .bld hf
   ·cases h
 | fld off n g x=>
   simp only[ex]at h;split at h
   ·next xs hx=>
    split at h
    ·next hl=>cases fin h;exact .fld hx hl
    ·cases h
   ·cases h
 | sidx x i=>
   simp only[ex]at h;split at h
   ·next s z hx hz=>
    split at h
    ·next h0=>
     split at h
     ·next b hb=>cases fin h;exact .sidx hx hz h0 hb
     ·cases h
    ·cases h
   ·cases h
 | ssl x lo hi=>
   simp only[ex]at h;split at h
   ·next s l hh hx hlo hhi=>
    split at h
    ·next p q hs=>cases fin h;exact .ssl hx (jq hlo) (jq hhi) hs
    ·cases h
   ·cases h
 | ext j x=>
   simp only[ex]at h;split at h
   ·next ys hx=>
    split at h
    ·next g xs hj=>cases fin h;exact .ext hx hj
    ·cases h
   ·cases h
 | len str x=>
   simp only[ex]at h;split at h
   ·next n l hx=>cases fin h;exact .lenS hx
   ·next k i hx=>
    split at h
    ·next o ho=>
     split at h
     ·next hv=>cases fin h;exact .lenO hx ho hv
     ·cases h
    ·cases h
   ·next k i p q hx=>
    split at h
    ·next o ho=>
     split at h
     ·next hv=>cases fin h;exact .lenU hx ho hv
     ·cases h
    ·cases h
   ·next s hx=>cases fin h;exact .lenT hx
   ·next hx=>cases fin h;exact .lenN hx
   ·cases h
 |iad=>cases h
 |lsl=>cases h
 |call=>cases h
 |callv=>cases h
 |app=>cases h
def nO(l:List D):Prop:=∀w fp cs,Rs w l fp cs→fp= []
def aW(os:List Own)(k:Nat):Prop:=match os[k]? with|some o=>o.nw.n=true∧(o.nw.lin=true∨nO o.l)|none=>False
def aP(os:List Own)(k:Nat):List Own:=match os[k]? with|some o=>os.set k ⟨[],o.e,o.s,o.ver+1,true⟩|none=>os
def aV :List Nat→List Own→List Own
 | [],os=>os
 |k::ks,os=>aV ks (aP os k)
def Env.blks(E:Env)(k:Nat):List Nat:=match E.om[k]? with|some p=>p.1.ownBlock.toList++p.2|none=> []
def Env.seal(E:Env)(k:Nat):Env:={E with om:=E.om.set k (.slice none 0 0,[])}
def bg(os:List Own):AV→Option (Nat×Own)
 | .c false [.own m j]=>(match os[m]? with
   | some o=>(match o.nw.lin with
     |true=>if o.ver=j∧o.nw.n=true then some (m,o)else none
     |false=>none)
   |none=>none)
 |_=>none
theorem yw{os:List Own}{x:AV}{m:Nat}{o:Own}(h:bg os x=some (m,o)):∃j,x= .c false [.own m j]∧os[m]? =some o∧o.ver=j∧o.nw=⟨true,true⟩:=by
 unfold bg at h;split at h
 ·next m' j=>
  split at h
  ·next o' ho=>
   split at h
   ·next hl=>
    split at h
    ·next hv=>
     injection h with h
     injection h with h1 h2
     subst h1 h2;refine⟨j,rfl,ho,hv.1, ?_⟩;have h1:=hv.2
     revert hl h1
     generalize o'.nw=z;intro hl h1;cases z;simp only at hl h1;rw[hl,h1]
    ·cases h
   ·cases h
  ·cases h
 ·cases h
section
variable{P:Program}{B:Nat}{Xs:List Nat}{G:Org}{w0:World}{fr:List AV}{os:List Own}{bs:List (List AC)}{E:Env}{a:Act}{w:World}{d:Option Tmp}{K:Act→World→Prop}{Q:Exit→Act→World→Prop}
 {ty:TypeId} {pos:String} {after:Array Edge} {guard:Option (Nat×Bool)}
theorem PI{L:List (Value×List Nat)}(hn:(L.flatMap (fun p=>p.1.ownBlock.toList)).Nodup):∀{i j:Nat} {p q:Value×List Nat} {b:Nat},L[i]? =some p→L[j]? =some q→p.1.ownBlock=some b→q.1.ownBlock=some b→i=j:=by
 induction L with
 |nil=>intro i j p q b hi;simp at hi
 | cons z L ih=>
   intro i j p q b hi hj hpb hqb;rw[i_,j_]at hn;cases i with
   | zero=>
     cases j with
     |zero=>rfl
     | succ j=>
       simp at hi hj;subst hi;exact absurd rfl (hn.2.2 b (by simp[hpb]) b (O_.2 ⟨q,P_ hj,by simp[hqb]⟩))
   | succ i=>
     cases j with
     | zero=>
       simp at hi hj;subst hj;exact absurd rfl (hn.2.2 b (by simp[hqb]) b (O_.2 ⟨p,P_ hi,by simp[hpb]⟩))
     | succ j=>
       simp at hi hj;rw[ih hn.2.1 hi hj hpb hqb]
theorem CU :∀{L:List (Value×List Nat)} {k:Nat} {q:Value×List Nat},q.1.ownBlock=none→(L.flatMap (fun p=>p.1.ownBlock.toList)).Nodup→((L.set k q).flatMap (fun p=>p.1.ownBlock.toList)).Nodup∧∀b∈(L.set k q).flatMap (fun p=>p.1.ownBlock.toList),b∈L.flatMap (fun p=>p.1.ownBlock.toList)
 | [],k,q,_,_=>⟨by simp,fun b hb=>by simp at hb⟩
 | z::L,0,q,hq,hn=>by
   rw[i_,j_]at hn;rw[List.set_cons_zero,i_,i_,hq];exact⟨by simpa using hn.2.1,fun b hb=>N_ _ (by simpa using hb)⟩
 | z::L,k+1,q,hq,hn=>by
   rw[i_,j_]at hn;obtain⟨h1,h2⟩:=CU (L:=L) (k:=k) hq hn.2.1;rw[List.set_cons_succ,i_,i_];refine⟨j_.2 ⟨hn.1,h1,fun x hx y hy=>hn.2.2 x hx y (h2 y hy)⟩,fun b hb=> ?_⟩;rcases c_.1 hb with hb|hb
   ·exact a_a _ hb
   ·exact N_ _ (h2 b hb)
theorem qJ(hn:E.M.Nodup){k:Nat}:(E.seal k).M.Nodup∧∀b∈(E.seal k).M,b∈E.M:=by
 unfold Env.M at hn⊢;rw[j_]at hn;obtain⟨h1,h2⟩:=CU (L:=E.om) (k:=k) (q:=(.slice none 0 0,[])) rfl hn.2.1;refine⟨j_.2 ⟨hn.1,h1,fun x hx y hy=>hn.2.2 x hx y (h2 y hy)⟩,fun b hb=> ?_⟩;rcases c_.1 hb with hb|hb
 ·exact a_a _ hb
 ·exact N_ _ (h2 b hb)
theorem Rel.seal(h:Rel B Xs G w0 ⟨fr,os,bs⟩ E a w){k:Nat}{o:Own}(ho:os[k]? =some o):Rel B Xs G w0 ⟨fr,aP os k,bs⟩ (E.seal k) a w:=by
 have hkl:k<os.length:=(d_.1 ho).1;have hol:E.om.length=os.length:=h.olen;have hke:k<E.om.length:=by omega
 have e1:aP os k=os.set k ⟨[],o.e,o.s,o.ver+1,true⟩:=by unfold aP;rw[ho]
 rw[e1];obtain⟨hM1,hM2⟩:=qJ (k:=k) h.nodup;have hS:Sim E os w (E.seal k) (os.set k ⟨[],o.e,o.s,o.ver+1,true⟩) w:=
  { base:=rfl,size:=t_ _,blk:=fun _ _ _=>rfl,old:=fun b _ hm=>hM2 b hm,
    own:=fun j o' p' g1 g2=>by
     by_cases e:k=j
     ·subst e;rw[ho]at g1;injection g1 with g1
      subst g1;exact⟨⟨[],o.e,o.s,o.ver+1,true⟩,(.slice none 0 0,[]),by rw[k_ hkl],by unfold Env.seal;simp only;rw[k_ hke],Nat.le_succ _,fun e=>by simp only at e;omega⟩
     ·exact⟨o',p',by rw[E_ e];exact g1,by unfold Env.seal;simp only;rw[E_ e];exact g2,t_ _,fun _=>⟨rfl,rfl⟩⟩
    box:=fun j p hp=>hp}
 exact
  { eb:=h.eb
    ex:=h.ex
    sim:=h.sim.trans hS
    defers:=h.defers
    size:=h.size
    fr:=fun t y hy=>(h.fr t y hy).sim hS
    olen:=by simp[Env.seal,hol]
    own:=by
     intro j o' p' g1 g2;simp only[Env.seal]at g1 g2;by_cases e:k=j
     ·subst e;rw[k_ hkl]at g1;rw[k_ hke]at g2;injection g1 with g1
      injection g2 with g2
      subst g1 g2;exact⟨[],aS.nil,⟨rfl,rfl⟩,fun d hd=>by simp at hd,fun b hb=>by simp at hb⟩
     ·rw[E_ e]at g1 g2;obtain⟨cs,h5,h6,h7,h8⟩:=h.own j o' p' g1 g2;exact⟨cs,h5,h6,h7,fun b hb=>⟨fun hm=>(h8 b hb).1 (hM2 b hm),(h8 b hb).2⟩⟩
    blen:=h.blen
    box:=fun j ys q g1 g2=>by
     obtain⟨h5,us,h6,h7⟩:=h.box j ys q g1 g2;exact⟨h5,us,h6,h7.sim hS⟩
    nodup:=hM1
    lin:=h.lin.set (fun e=>by cases e)
    unf:=h.unf.set (fun e=>by cases e)
    below:=h.below
    base:=h.base}
theorem Rel.CV(h:Rel B Xs G w0 ⟨fr,os,bs⟩ E a w){k:Nat}(hk:aW os k):
 (E.blks k).Nodup∧(∀b∈E.blks k,b∉(E.seal k).M∧E.nw b)∧∀(j:Nat) (o':Own) (p':Value×List Nat),j≠k→os[j]? =some o'→E.om[j]? =some p'→(o'.nw.lin=true∨nO o'.l)→∀b∈E.blks k,b∉p'.2∧p'.1.ownBlock≠some b:=by
 unfold aW at hk;split at hk
 ·next o ho=>
  obtain⟨hn,hl⟩:=hk;have hol:E.om.length=os.length:=h.olen;have hke:k<E.om.length:=by have:=(d_.1 ho).1;omega
  have hp:=n_ hke;obtain⟨p,hpe⟩:∃p,E.om[k]=p:=⟨_,rfl⟩
  rw[hpe]at hp;obtain⟨cs,h5,h6,h7,h8⟩:=h.own k o p ho hp;have hb:E.blks k=p.1.ownBlock.toList++p.2:=by unfold Env.blks;rw[hp]
  have hfM:∀b,p.1.ownBlock=some b→b∈E.M:=fun b hb=>gV.2 (h_ ⟨k,p,hp,hb⟩)
  have hnd:p.2.Nodup:=by
   rcases hl with hl|hl
   ·exact h.lin.1 k o p ho hp hl
   ·rw[hl _ _ _ h6];exact a_u
  have hn2:=h.nodup;unfold Env.M at hn2;rw[j_]at hn2;rw[hb];refine⟨?_,fun b hbm=>⟨fun hm=> ?_, ?_⟩,fun j o' p' hjk g1 g2 g3 b hbm=>⟨fun hm=> ?_,fun e=> ?_⟩⟩
  ·rw[j_];refine⟨by cases p.1.ownBlock<;>simp,hnd,fun x hx y hy e=> ?_⟩;subst e;exact(h8 x hy).1 (hfM x (by simpa using hx))
  ·rcases c_.1 hbm with hbm|hbm
   ·have hbk:p.1.ownBlock=some b:=by simpa using hbm
    rcases gV.1 hm with⟨j,q,q1,q2⟩|⟨j,q,q1,q2⟩
    ·exact hn2.2.2 b (a_D.2 ⟨q,P_ q1,q2⟩) b (O_.2 ⟨p,P_ hp,hbm⟩) rfl
    ·simp only[Env.seal]at q1;rw[List.getElem?_set]at q1;split at q1
     ·try rw[if_pos hke]at q1
      injection q1 with q1
      subst q1;simp[A_]at q2
     ·next e=>exact e (PI hn2.2.1 hp q1 hbk q2)
   ·exact(h8 b hbm).1 ((qJ (k:=k) h.nodup).2 b hm)
  ·rcases c_.1 hbm with hbm|hbm
   ·exact h.qx (aS.lt h5 b (by simpa using hbm)).1
   ·exact(h8 b hbm).2 hn
  ·obtain⟨cs',_,q6,_,q8⟩:=h.own j o' p' g1 g2;rcases c_.1 hbm with hbm|hbm
   ·exact(q8 b hm).1 (hfM b (by simpa using hbm))
   ·rcases hl with hl|hl
    ·rcases g3 with g3|g3
     ·exact h.lin.2 k j o o' p p' (fun e=>hjk e.symm) ho g1 hp g2 hl g3 b hbm hm
     ·rw[g3 _ _ _ q6]at hm;simp at hm
    ·rw[hl _ _ _ h6]at hbm;simp at hbm
  ·rcases c_.1 hbm with hbm|hbm
   ·exact hjk (PI hn2.2.1 g2 hp e (by simpa using hbm))
   ·exact(h8 b hbm).1 (gV.2 (h_ ⟨j,p',g2,e⟩))
 ·exact hk.elim
theorem Jh{e s n:Nat}{v:Value}{cs:List Value}(h:aS w B e s v n cs):CB w v.ownBlock.toList:=fun b hb z=>by
 rcases h.2 with⟨rfl,_⟩|⟨g,zz,cap,cur,rfl,_,hh,_⟩
 ·simp[A_]at hb
 ·simp only[A_,Option.toList,List.mem_singleton]at hb;subst hb;simp only[World.frozen?,hh];simp
theorem Rel.A8(h:Rel B Xs G w0 ⟨fr,os,bs⟩ E a w){k:Nat}(hk:aW os k):CB w (E.blks k):=by
 unfold aW at hk;split at hk
 ·next o ho=>
  have hol:E.om.length=os.length:=h.olen;have hke:k<E.om.length:=by have:=(d_.1 ho).1;omega
  have hp:=n_ hke;obtain⟨cs,h5,h6,_⟩:=h.own k o _ ho hp;intro b hb z;unfold Env.blks at hb;rw[hp]at hb;rcases c_.1 hb with hb|hb
  ·exact Jh h5 b hb z
  ·rcases hk.2 with e|e
   ·exact h.unf k o _ ho hp e b hb z
   ·rw[e _ _ _ h6]at hb;simp at hb
 ·exact hk.elim
theorem jK{k j:Nat}(hj:j≠k):(aP os k)[j]? =os[j]? :=by
 unfold aP;split
 ·rw[E_ (fun e=>hj e.symm)]
 ·rfl
theorem CW{k:Nat}:(aP os k).length=os.length:=by
 unfold aP;split
 ·exact m_ ..
 ·rfl
theorem zQ :∀(ks:List Nat) (os:List Own),(aV ks os).length=os.length
 | [],_=>rfl
 |k::ks,os=>by rw[aV,zQ ks,CW]
theorem jX{k j:Nat}(hj:j≠k):(E.seal k).om[j]? =E.om[j]? :=by unfold Env.seal;simp only;rw[E_ (fun e=>hj e.symm)]
theorem Oj{k j:Nat}(hj:j≠k):(E.seal k).blks j=E.blks j:=by unfold Env.blks;rw[jX hj]
theorem Me{k j:Nat}(hj:j≠k)(h:aW os j):aW (aP os k) j:=by unfold aW at h⊢;rw[jK hj];exact h
theorem uy :∀(ks:List Nat) {os:List Own} {j:Nat} {o':Own},(∀o,os[j]? =some o→o.l= [])→(aV ks os)[j]? =some o'→o'.l= []
 | [],os,j,o',h,g=>h o' g
 | k ::ks,os,j,o',h,g=>by
   rw[aV]at g;refine uy ks (fun o ho=> ?_) g;by_cases e:j=k
   ·subst e;unfold aP at ho;split at ho
    ·next o1 h1=>
     rw[k_ (d_.1 h1).1]at ho;injection ho with ho
     rw[← ho]
    ·next h1=>rw[h1]at ho;cases ho
   ·rw[jK e]at ho;exact h o ho
theorem MB{k:Nat}:∀o,(aP os k)[k]? =some o→o.l= []:=fun o ho=>by
 unfold aP at ho;split at ho
 ·next o1 h1=>
  rw[k_ (d_.1 h1).1]at ho;injection ho with ho
  rw[← ho]
 ·next h1=>rw[h1]at ho;cases ho
theorem zN :∀(ks:List Nat) {os:List Own} {j:Nat} {o':Own},j∈ks→(aV ks os)[j]? =some o'→o'.l= []
 | k::ks,os,j,o',hj,g=>by
   rw[aV]at g;by_cases e:j=k
   ·subst e;exact uy ks (fun o ho=>MB o ho) g
   ·rcases Q_.1 hj with hj|hj
    ·exact absurd hj e
    ·exact zN ks hj g
theorem Rel.Oi :∀(ks:List Nat) {os:List Own} {E:Env},Rel B Xs G w0 ⟨fr,os,bs⟩ E a w→ks.Nodup→(∀k∈ks,aW os k)→
 ∃E':Env,Rel B Xs G w0 ⟨fr,aV ks os,bs⟩ E' a w∧(∀b∈E'.M,b∈E.M)∧E'.nw=E.nw∧(ks.flatMap E.blks).Nodup∧(∀b∈ks.flatMap E.blks,b∉E'.M∧E.nw b)∧
  (∀(j:Nat) (o':Own) (p':Value×List Nat),(aV ks os)[j]? =some o'→E'.om[j]? =some p'→(o'.nw.lin=true∨nO o'.l)→∀b∈ks.flatMap E.blks,b∉p'.2)∧
  ∀j,j∉ks→(aV ks os)[j]? =os[j]? ∧E'.om[j]? =E.om[j]?
 | [],os,E,h,_,_=>⟨E,h,fun b hb=>hb,rfl,a_u,fun b hb=>by simp at hb,fun j o' p' _ _ _ b hb=>by simp at hb,fun j _=>⟨rfl,rfl⟩⟩
 | k :: ks,os,E,h,hn,hk=>by
   rw[List.nodup_cons]at hn;have hk0:=hk k (by simp);have hk1:=hk0;unfold aW at hk1;split at hk1
   ·next o ho=>
    obtain⟨b1,b2,b3⟩:=h.CV hk0;have hne:∀j∈ks,j≠k:=fun j hj e=>hn.1 (e▸hj)
    have hbe:ks.flatMap (E.seal k).blks=ks.flatMap E.blks:=by
     rw[a_N,a_N];congr 1;exact List.map_congr_left fun j hj=>Oj (hne j hj)
    obtain⟨E',q1,q2,q3,q4,q5,q6,q7⟩:=Rel.Oi ks (h.seal ho) hn.2 (fun j hj=>Me (hne j hj) (hk j (by simp[hj])));rw[hbe]at q4 q5 q6;have hol:E.om.length=os.length:=h.olen;have dis:∀b∈E.blks k,b∉ks.flatMap E.blks:=fun b hb hm=>by
     obtain⟨j,hj,hjb⟩:=O_.1 hm;have hkj:=hk j (by simp[hj]);unfold aW at hkj;split at hkj
     ·next oj hoj=>
      have hje:j<E.om.length:=by have:=(d_.1 hoj).1;omega
      have hpj:=n_ hje;obtain⟨c1,c2⟩:=b3 j oj _ (hne j hj) hoj hpj hkj.2 b hb;unfold Env.blks at hjb;rw[hpj]at hjb;rcases c_.1 hjb with hjb|hjb
      ·exact c2 (by simpa using hjb)
      ·exact c1 hjb
     ·exact hkj.elim
    refine⟨E',q1,fun b hb=>(qJ (k:=k) h.nodup).2 b (q2 b hb),q3, ?_,fun b hb=> ?_,fun j o' p' g1 g2 g3 b hb=> ?_,fun j hj=> ?_⟩
    ·rw[i_];exact j_.2 ⟨b1,q4,fun x hx y hy e=>dis x hx (e▸hy)⟩
    ·rw[i_]at hb;rcases c_.1 hb with hb|hb
     ·exact⟨fun hm=>(b2 b hb).1 (q2 b hm),(b2 b hb).2⟩
     ·exact q5 b hb
    ·rw [i_]at hb;rcases c_.1 hb with hb|hb
     ·by_cases hjk:j=k
      ·subst hjk;obtain⟨e1,e2⟩:=q7 j hn.1;rw[e2]at g2;have hke:j<E.om.length:=by have:=(d_.1 ho).1;omega
       unfold Env.seal at g2;simp only at g2;rw[k_ hke]at g2;injection g2 with g2
       subst g2;simp
      ·by_cases hjs:j∈ks
       ·intro hm;have hmb:b∈ks.flatMap E.blks→False:=dis b hb
        
        obtain⟨cs,r1,r2,r3,r4⟩:=q1.own j o' p' g1 g2;rw[zN ks hjs g1]at r2;rw[r2.1]at hm;simp at hm
       ·obtain⟨e1,e2⟩:=q7 j hjs;rw[aV,e1,jK hjk]at g1;rw[e2,jX hjk]at g2;exact(b3 j o' p' hjk g1 g2 g3 b hb).1
     ·exact q6 j o' p' g1 g2 g3 b hb
    ·have hjk:j≠k:=fun e=>hj (by simp[e])
     obtain⟨e1,e2⟩:=q7 j (fun hm=>hj (by simp[hm]));exact⟨by rw[aV,e1,jK hjk],by rw[e2,jX hjk]⟩
   ·exact hk1.elim
def lcD(os:List Own):AC→Option D
 | .raw v=>if yO v then some (.sl [])else if v.oneCell' then some (.leaf v)else none
 | .own k i=>(match os[k]? with|some o=>if o.ver=i then some (.sl o.l)else none|none=>none)
 |_=>none
def lcK :AC→List Nat
 | .own k _=> [k]
 |_=> []
def iC(os:List Own):List AC→Option (List D)
 | []=>some []
 |x::xs=>match lcD os x,iC os xs with|some d,some ds=>some (d::ds)|_,_=>none
def lvD(os:List Own):AV→Option D
 | .c false [x]=>lcD os x
 | .c true xs=>(iC os xs).map .agg
 |_=>none
def lvK :AV→List Nat
 | .c _ xs=>xs.flatMap lcK
 |_=> []
def gG(os:List Own):List AV→Option (List D)
 | []=>some []
 |x::xs=>match lvD os x,gG os xs with|some d,some ds=>some (d::ds)|_,_=>none
theorem PV{st:St}(h:Rel B Xs G w0 st E a w){x:AC}{d:D}{v:Value}(hd:lcD st.owns x=some d)(hx:x.ok E st.owns w v):d.one∧d.sz=1∧v.cells= #[v]∧R w d ((lcK x).flatMap E.blks) [v]:=by
 cases x with
 | raw u=>
   simp only[lcD]at hd;split at hd
   ·next hz=>
    injection hd with hd
    subst hd;obtain rfl:=hx;obtain rfl:=wW hz;exact⟨trivial,rfl,rfl,Sl.kU (l:= []) (fp:= []) (base:=0) (e:=0) (s:=0) (v:= .slice none 0 0) aS.nil ⟨rfl,rfl⟩⟩
   ·split at hd
    ·next ho=>
     injection hd with hd
     subst hd;obtain rfl:=hx;exact⟨ho,rfl,by cases v<;>simp_all [a_J,Value.oneCell'],⟨rfl,rfl⟩⟩
    ·cases hd
 | own k i=>
   simp only[lcD]at hd;obtain⟨⟨A,n,c,hv⟩,o,p,h1,h2,h3,h4⟩:=hx;rw[h1]at hd;simp only at hd;split at hd
   ·next e=>
    injection hd with hd
    subst hd;have hvp:=h4 e;obtain⟨cs,h5,h6,h7,h8⟩:=h.own k o p h1 h2;refine⟨trivial,rfl,by rw[hv];rfl, ?_⟩;have:=Sl.kU h5 h6;rw[hvp];simp only[lcK,i_,List.flatMap_nil,a_S,Env.blks,h2];exact this
   ·cases hd
 |any=>simp[lcD]at hd
 |sl n l=>simp[lcD]at hd
 |osub k i p q=>simp[lcD]at hd
 |cl f caps=>simp[lcD]at hd
theorem Eu{st:St}(h:Rel B Xs G w0 st E a w):∀{xs:List AC} {ds:List D} {vs:List Value},iC st.owns xs=some ds→Oks E st.owns w xs vs→D.ones ds∧D.szs ds=xs.length∧Rs w ds ((xs.flatMap lcK).flatMap E.blks) vs
 | [],ds,[],hd,_=>by
   injection hd with hd
   subst hd;exact⟨trivial,rfl,rfl,rfl⟩
 | x::xs,ds,v::vs,hd,hx=>by
   rw[iC]at hd;split at hd
   ·next d ds' h1 h2=>
    injection hd with hd
    subst hd;obtain⟨o1,s1,_,r1⟩:=PV h h1 hx.1;obtain⟨o2,s2,r2⟩:=Eu h h2 hx.2;refine⟨⟨o1,o2⟩,by rw[D.szs,s1,s2,a_l];omega, ?_⟩;rw[i_,a_C];exact⟨_,_,[v],vs,rfl,rfl,r1,r2⟩
   ·cases hd
 | [],_,_::_,_,hx=>hx.elim
 |_::_,_,[],_,hx=>hx.elim
theorem TT{st:St}(h:Rel B Xs G w0 st E a w){x:AV}{d:D}{v:Value}(hd:lvD st.owns x=some d)(hx:x.ok E st.owns w v):d.one∧d.sz=v.cells.size∧R w d ((lvK x).flatMap E.blks) v.cells.toList:=by
 unfold lvD at hd;split at hd
 ·next y=>
  have hx':y.ok E st.owns w v:=hx.1;obtain⟨h1,h2,h3,h4⟩:=PV h hd hx';rw[h3];exact⟨h1,by rw[h2];rfl,by simpa[lvK]using h4⟩
 ·next xs=>
  obtain⟨vs,rfl,hxs⟩:=hx;obtain⟨ds,h1,h2⟩:=Option.map_eq_some_iff.1 hd;subst h2;obtain⟨o1,s1,r1⟩:=Eu h h1 hxs;exact⟨o1,by rw[D.sz,s1,hxs.len];simp[a_J],by rw[dK];simpa[a_J,lvK]using r1⟩
 ·cases hd
theorem KO{st:St}(h:Rel B Xs G w0 st E a w):∀(xs:List Operand) (ds:List D),gG st.owns (xs.map fun x=>st.ev (opd x))=some ds→
 D.ones ds∧ds.length=xs.length∧(∀s,(∀d∈ds,d.sz=s)→∀x∈xs,(a.eval x).cells.size=s)∧Rs w ds (((xs.map fun x=>st.ev (opd x)).flatMap lvK).flatMap E.blks) (xs.flatMap fun x=>(a.eval x).cells.toList)
 | [],ds,hd=>by
   injection hd with hd
   subst hd;exact⟨trivial,rfl,fun _ _ x hx=>by simp at hx,rfl,rfl⟩
 | x ::xs,ds,hd=>by
   rw[J_,gG]at hd;split at hd
   ·next d ds' h1 h2=>
    injection hd with hd
    subst hd;obtain⟨o1,s1,r1⟩:=TT h h1 (dM h x);obtain⟨o2,l2,s2,r2⟩:=KO h xs ds' h2;refine⟨⟨o1,o2⟩,by simp[l2],fun s hs y hy=> ?_, ?_⟩
    ·rcases Q_.1 hy with rfl|hy
     ·rw[← s1];exact hs d (by simp)
     ·exact s2 s (fun z hz=>hs z (by simp[hz])) y hy
    ·rw[J_,i_,a_C,i_];exact⟨_,_,_,_,rfl,rfl,r1,r2⟩
   ·cases hd
theorem P9{t e s n:Nat}{ps:Array (Nat×Operand)}{ds:List D}(h:Rel B Xs G w0 ⟨fr,os,bs⟩ E a w)(ht:jw P t=some (e,s))(he:pW P e s=true)(hn:n*s≤2 ^ 24)(hp:ps.toList.map (·.1)=Z_ n)
 (hd:gG os ((ps.toList.map fun p=>opd p.2).map (St.ev ⟨fr,os,bs⟩))=some ds) (hs:∀d∈ds,d.sz=s) (hl:ds.length=n)
 (hnd:(((ps.toList.map fun p=>opd p.2).map (St.ev ⟨fr,os,bs⟩)).flatMap lvK).Nodup) (hk:∀k∈((ps.toList.map fun p=>opd p.2).map (St.ev ⟨fr,os,bs⟩)).flatMap lvK,aW os k):
 gI P B Xs G w0 fr a w ⟨d,.buildSlice t n ps,ty,pos,after,guard⟩ Q (.c false [.own os.length 0]) (aV (((ps.toList.map fun p=>opd p.2).map (St.ev ⟨fr,os,bs⟩)).flatMap lvK) os++ [⟨ds,e,s,0,⟨true,true⟩⟩]) bs:=by
 have e1:(ps.toList.map fun p=>opd p.2).map (St.ev ⟨fr,os,bs⟩)=(ps.toList.map (·.2)).map fun x=>St.ev ⟨fr,os,bs⟩ (opd x):=by simp
 rw[e1]at hd hnd hk⊢;obtain⟨o1,l1,s1,r1⟩:=KO h _ ds hd;obtain⟨ks,hks⟩:∃ks,(((ps.toList.map (·.2)).map fun x=>St.ev ⟨fr,os,bs⟩ (opd x)).flatMap lvK)=ks:=⟨_,rfl⟩
 rw[hks]at hnd hk r1⊢;have hrun:=I4 (P:=P) (w:=w) (a:=a) ht he hn hp (s1 s hs);have hb:Below w.heap.size w (w.alloc (.cells ((ps.toList.map (·.2)).flatMap fun x=>(a.eval x).cells.toList).toArray e)):=(U_ _ _).alloc (t_ _) _;have hs9:0<s:=by obtain⟨_,_,_,_,_,_,_,h9⟩:=mZ he;exact h9
 have hnm:n≤maxLen:=by
  have:n*1≤n*s:=a_f n hs9;unfold maxLen;omega
 have hfl:=Ht (a:=a) (s1 s hs);obtain⟨E',q1,q2,q3,q4,q5,q6,q7⟩:=Rel.Oi ks h hnd hk;intro K hK;have hlen:os.length=(aV ks os).length:=(zQ ks os).symm;rw[hlen]at hK;refine oH (v:= .slice (some ⟨w.heap.size,0,none⟩) n n) ?_ (hK {E' with om:=E'.om++ [(.slice (some ⟨w.heap.size,0,none⟩) n n,ks.flatMap E.blks)]} _ _ (q1.Ad hb (o:=⟨ds,e,s,0,⟨true,true⟩⟩) (cs:=(ps.toList.map (·.2)).flatMap fun x=>(a.eval x).cells.toList) ?_ (r1.below hb) (fun z hz=>⟨D.ones_mem o1 z hz,hs z hz⟩) (fun b hbm=> ?_) rfl d (fun _=>⟨q4,fun j o' p' _ g1 g2 g3 b hb1=>q6 j o' p' g1 g2 (e_ g3) b hb1⟩) (fun _ b hb1 z=> ?_)))
 ·simp only[execOp,Sem.run_bind,hrun,V_];rfl
 ·have:=aS.of (a_k (base:=w.heap.size) (e:=e) (size:=s) w ((ps.toList.map (·.2)).flatMap fun x=>(a.eval x).cells.toList).toArray n (t_ _) hnm (by simp only[M_];rw[hfl,← l1,hl]));simpa[hl]using this
 ·refine⟨(q5 b hbm).1,fun e2=> ?_,fun _=>by rw[q3];exact(q5 b hbm).2⟩;simp only[A_,w_]at e2;have:=Rs.lt r1 b hbm;omega
 ·rw[L_ (w:=w) (hb.block b (Rs.lt r1 b hb1))];obtain⟨k,hk1,hk2⟩:=O_.1 hb1;exact h.A8 (hk k hk1) b hk2 z
theorem Np{t e s:Nat}{x y:Operand}{k i m j:Nat}{o om':Own}(h:Rel B Xs G w0 ⟨fr,os,bs⟩ E a w)(ht:P.underlying t=some (.slice e))(he:pW P e s=true)(hx:St.ev ⟨fr,os,bs⟩ (opd x)= .c false [.own k i])
 (hy:St.ev ⟨fr,os,bs⟩ (opd y)= .c false [.own m j]) (hkm:k≠m) (ho:os[k]? =some o) (hv:o.ver=i) (hoe:o.e=e) (hos:o.s=s) (hm:os[m]? =some om') (hmv:om'.ver=j) (hmn:om'.nw=⟨true,true⟩) (hol:o.nw.lin=true∨nO o.l) (hl:El s om'.l) (hn:o.l.length+om'.l.length≤jH s):
 gI P B Xs G w0 fr a w ⟨d,.call {callee:= .builtin .append,args:= #[x,y],argTypes:= #[t,t]},ty,pos,after,guard⟩ Q (.c false [.own k (i+1)]) ((aP os m).set k ⟨o.l++om'.l,e,s,i+1,⟨o.nw.n,true⟩⟩) bs:=by
 subst hv hoe hos hmv;intro K hK;have hev:=dM h x;rw[hx]at hev;obtain⟨⟨_,o',p,h1,h2,_,h4⟩,_⟩:=hev;simp only at h1;rw[ho]at h1;injection h1 with h1
 subst h1;have hxv:=h4 rfl;have hev:=dM h y;rw[hy]at hev;obtain⟨⟨_,o',pm,m1,m2,_,m4⟩,_⟩:=hev;simp only at m1;rw[hm]at m1;injection m1 with m1
 subst m1;have hyv:=m4 rfl;obtain⟨cs0,h5,h6,h7,h8⟩:=h.own k o p ho h2;obtain⟨csm,n5,n6,n7,n8⟩:=h.own m om' pm hm m2;obtain⟨v',w',cs,hrun,hr,hown,hg,hat⟩:=jC (P:=P) ty ht he E.B p.1 _ cs0 h5 om'.l pm.2 _ (D6 n5 n6) hl hn h.base;have hpM:∀b,p.1.ownBlock=some b→b∈E.M:=fun b hb=>gV.2 (h_ ⟨k,p,h2,hb⟩)
 have r0:=h6.grown hg (fun g hgv hmm=>(h8 g hmm).1 (hpM g hgv));have r1:=hr.grown hg (fun g hgv hmm=>(n8 g hmm).1 (hpM g hgv));have hs':=h.seal hm;have ho':(aP os m)[k]? =some o:=by rw[jK hkm];exact ho
 have h2':(E.seal m).om[k]? =some p:=by rw[jX hkm];exact h2
 have hM:=(qJ (k:=m) h.nodup).2;have hml:om'.nw.lin=true:=by rw[hmn]
 refine zJ (by rw[hxv,hyv];exact hrun) (hK _ v' w' (hs'.grow (nw:=⟨o.nw.n,true⟩) ho' h2' (f:=p.2++pm.2) hg hat (l:=o.l++om'.l) (by rw[b_];exact hown) (Rs.append r1 r0) (h7.append hl) (fun b hb=> ?_) d (fun _=>⟨?_,fun j' o' p' hjk g1 g2 g3 b hb=> ?_⟩) (fun _ b hb z=> ?_)))
 ·rcases c_.1 hb with hb|hb
  ·exact⟨Rs.lt h6 b hb,fun hmm=>(h8 b hb).1 (hM b hmm),fun e=>(h8 b hb).2 e⟩
  ·exact⟨Rs.lt n6 b hb,fun hmm=>(n8 b hb).1 (hM b hmm),fun _=>(n8 b hb).2 (by rw[hmn])⟩
 ·rw[j_];refine⟨?_,h.lin.1 m om' pm hm m2 hml,fun x hx y hy e=> ?_⟩
  ·rcases hol with hol|hol
   ·exact h.lin.1 k o p ho h2 hol
   ·rw[hol _ _ _ h6];exact a_u
  ·subst e;rcases hol with hol|hol
   ·exact h.lin.2 k m o om' p pm hkm ho hm h2 m2 hol hml x hx hy
   ·rw[hol _ _ _ h6]at hx;simp at hx
 ·by_cases hjm:j'=m
  ·subst hjm;unfold aP at g1;rw[hm]at g1;simp only at g1;rw[k_ (d_.1 hm).1]at g1;injection g1 with g1
   subst g1;cases g3
  ·rw[jK hjm]at g1;rw[jX hjm]at g2;rcases c_.1 hb with hb|hb
   ·rcases hol with hol|hol
    ·exact h.lin.2 k j' o o' p p' (fun e=>hjk e.symm) ho g1 h2 g2 hol g3 b hb
    ·rw[hol _ _ _ h6]at hb;simp at hb
   ·exact h.lin.2 m j' om' o' pm p' (fun e=>hjm e.symm) hm g1 m2 g2 hml g3 b hb
 ·have hlt:b<w.heap.size∧b∉E.M∧w.frozen? ⟨b,z,none⟩=false:=by
   rcases c_.1 hb with hb|hb
   ·refine⟨Rs.lt h6 b hb,(h8 b hb).1, ?_⟩;rcases hol with hol|hol
    ·exact h.unf k o p ho h2 hol b hb z
    ·rw[hol _ _ _ h6]at hb;simp at hb
   ·exact⟨Rs.lt n6 b hb,(n8 b hb).1,h.unf m om' pm hm m2 hml b hb z⟩
  rw[L_ (w:=w) (hg.block b hlt.1 (fun e=>hlt.2.1 (hpM b e.symm)))];exact hlt.2.2
theorem Jv{t e s:Nat}{x y:Operand}{m j:Nat}{om':Own}(h:Rel B Xs G w0 ⟨fr,os,bs⟩ E a w)(ht:P.underlying t=some (.slice e))(he:pW P e s=true)(hx:St.ev ⟨fr,os,bs⟩ (opd x)= .c false [.raw (.slice none 0 0)])
 (hy:St.ev ⟨fr,os,bs⟩ (opd y)= .c false [.own m j]) (hm:os[m]? =some om') (hmv:om'.ver=j) (hmn:om'.nw=⟨true,true⟩) (hl:El s om'.l) (hn:om'.l.length≤jH s):
 gI P B Xs G w0 fr a w ⟨d,.call {callee:= .builtin .append,args:= #[x,y],argTypes:= #[t,t]},ty,pos,after,guard⟩ Q (.c false [.own os.length 0]) (aP os m++ [⟨om'.l,e,s,0,⟨true,true⟩⟩]) bs:=by
 subst hmv;intro K hK;have hxv:=bT h hx;have hev:=dM h y;rw[hy]at hev;obtain⟨⟨_,o',pm,m1,m2,_,m4⟩,_⟩:=hev;simp only at m1;rw[hm]at m1;injection m1 with m1
 subst m1;have hyv:=m4 rfl;obtain⟨csm,n5,n6,n7,n8⟩:=h.own m om' pm hm m2;obtain⟨v',w',cs,hrun,hr,hown,hg,hat⟩:=jC (P:=P) ty ht he w.heap.size (.slice none 0 0) 0 [] aS.nil om'.l pm.2 _ (D6 n5 n6) hl (by simpa using hn) (t_ _);have hb:Below w.heap.size w w':=(U_ _ _).grown hg (t_ _) (fun b hb=>by simp[A_]at hb);have hs':=h.seal hm;have hM:=(qJ (k:=m) h.nodup).2;have hml:om'.nw.lin=true:=by rw[hmn]
 have hlen:os.length=(aP os m).length:=CW.symm;rw[hlen]at hK;refine zJ (by rw[hxv,hyv];exact hrun) (hK _ v' w' (hs'.Ad hb (o:=⟨om'.l,e,s,0,⟨true,true⟩⟩) (f:=pm.2) (cs:=cs) (by simpa using hown) (hr.below hb) hl (fun b hbm=>⟨fun hmm=>(n8 b hbm).1 (hM b hmm),fun e2=> ?_,fun _=>(n8 b hbm).2 (by rw[hmn])⟩) rfl d (fun _=>⟨h.lin.1 m om' pm hm m2 hml,fun j' o' p' hjk g1 g2 g3 b hb=> ?_⟩) (fun _ b hb1 z=> ?_)))
 ·rcases hat with h'|h'
  ·rw[h']at e2;simp[A_]at e2
  ·rw[h']at e2;injection e2 with e2
   have:=Rs.lt n6 b hbm;omega
 ·by_cases hjm:j'=m
  ·subst hjm;unfold aP at g1;rw[hm]at g1;simp only at g1;rw[k_ (d_.1 hm).1]at g1;injection g1 with g1
   subst g1;cases g3
  ·rw[jK hjm]at g1;rw[jX hjm]at g2;exact h.lin.2 m j' om' o' pm p' (fun e=>hjm e.symm) hm g1 m2 g2 hml g3 b hb
 ·rw[L_ (w:=w) (hb.block b (Rs.lt n6 b hb1))];exact h.unf m om' pm hm m2 hml b hb1 z
theorem R.patchN{w:World}{d y:D}{off:Nat}{fd fy:List Nat}{cd cy:List Value}(h:R w d fd cd)(k:R w y fy cy)(ho:off+y.sz≤d.sz):
 ∃f1 f2 f3,fd=f1++f2++f3∧R w (d.patch off y) (f1++fy++f3) (cd.take off++cy++cd.drop (off+y.sz)):=by
 have h1:=jS.1 h;have h2:=jS.1 k;have e:d.flat=d.flat.take off++(d.flat.drop off):=(o_ _ _).symm;rw[e]at h1;obtain⟨f1,f2,c1,c2,rfl,rfl,g1,g2⟩:=Rs.split h1;have e2:d.flat.drop off=(d.flat.drop off).take y.sz++d.flat.drop (off+y.sz):=by
  rw[← v_,o_]
 rw[e2]at g2;obtain⟨f3,f4,c3,c4,rfl,rfl,g3,g4⟩:=Rs.split g2;have fl:=xA d;have l1:c1.length=off:=by
  rw[g1.len,lu _ (fun x hx=>iV d x (g_ hx)),a_];omega
 have l3:c3.length=y.sz:=by
  rw[g3.len,lu _ (fun x hx=>iV d x (B_ (g_ hx))),a_,l_];omega
 refine⟨f1,f3,f4,by rw[f_], ?_⟩;unfold D.patch;rw[R,a_b l1,show(c1++(c3++c4)).drop (off+y.sz)=c4 from by rw[← v_,p_ l1,p_ l3],f_,f_,f_];exact Rs.append (Rs.append g4 h2) g1
theorem Rs.patchN{w:World}{s:Nat}{y:D}{fy:List Nat}{cy:List Value}(hy:R w y fy cy){j off:Nat}{l:List D}{f:List Nat}{cs:List Value}(h:Rs w l f cs)(hs:∀x∈l,x.sz=s)(hj:j<l.length)(ho:off+y.sz≤s):
 ∃f1 f2 f3,f=f1++f2++f3∧Rs w (l.set j (D.patch l[j] off y)) (f1++fy++f3) (cs.take (j*s+off)++cy++cs.drop (j*s+off+y.sz)):=by
 have e:l=l.take j++([l[j]]++l.drop (j+1)):=by rw[Y_,← S_,o_]
 have e2:l.set j (D.patch l[j] off y)=l.take j++([D.patch l[j] off y]++l.drop (j+1)):=by rw[F_,if_pos hj];rfl
 have hsj:(l[j]).sz=s:=hs _ (s_ hj);rw[e2];rw[e]at h;obtain⟨f1,f2,c1,c2,rfl,rfl,h1,h2⟩:=Rs.split h;obtain⟨g1,g2,e3,e4,rfl,rfl,h3,h4⟩:=Rs.split h2;have l1:c1.length=j*s:=by
  rw[h1.len,fH (s:=s) _ (fun x hx=>hs x (g_ hx)),a_,x_ (by omega)]
 have l2:e3.length=s:=by rw[h3.len,D.szs,D.szs,hsj];omega
 obtain⟨a1,a2,a3,rfl,q1⟩:=(Rs.Aa h3).patchN hy (off:=off) (by rw[hsj];exact ho);refine⟨f1++a1,a2,a3++g2,by simp[f_], ?_⟩;have t1:(c1++(e3++e4)).take (j*s+off)=c1++e3.take off:=by
  rw[z_,r_ (by omega),l1,show j*s+off - j*s=off by omega,a_d (by omega)]
 have t2:(c1++(e3++e4)).drop (j*s+off+y.sz)=e3.drop (off+y.sz)++e4:=by
  rw[show j*s+off+y.sz=j*s+(off+y.sz) by omega,← v_,p_ l1,a_e (by omega)]
 rw[t1,t2];have:=Rs.append (Rs.append h4 (Rs.one q1)) h1;simpa[f_]using this
theorem GN{t:TypeId}{x y:Operand}{i:TypeInfo}{k v j off m vm:Nat}{o om':Own}{d0:D}(h:Rel B Xs G w0 ⟨fr,os,bs⟩ E a w)(hi:P.info? t=some i)
 (hx:St.ev ⟨fr,os,bs⟩ (opd x)= .eptr k v j off) (ho:os[k]? =some o) (hv:o.ver=v) (hon:o.nw=⟨true,true⟩) (hi1:i.size=1) (hs1:off+1≤o.s) (hj0:o.l[j]? =some d0) (hkm:k≠m) (hy:St.ev ⟨fr,os,bs⟩ (opd y)= .c false [.own m vm]) (hm:os[m]? =some om') (hmv:om'.ver=vm) (hmn:om'.nw=⟨true,true⟩)
 (hK:∀E' w',Rel B Xs G w0 (St.put ⟨fr,(aP os m).set k ⟨o.l.set j (D.patch d0 off (.sl om'.l)),o.e,o.s,o.ver,⟨true,true⟩⟩,bs⟩ d .any) E' (a.put d undef) w'→K (a.put d undef) w'):
 u_ P ⟨d,.store t x y,ty,pos,after,guard⟩ a w K Q:=by
 have hs:off+i.size≤o.s:=by omega
 have hd:(D.sl om'.l).sz=i.size:=by rw[hi1,D.sz]
 obtain⟨hj,hjd⟩:=d_.1 hj0;have hex:=dM h x;rw[hx]at hex;obtain⟨o',p,h1,h2,h3,h4⟩:=hex;simp only at h1;rw[ho]at h1;injection h1 with h1
 subst h1;obtain⟨b,z0,he,hb⟩:=h4 hv;have hevy:=dM h y;rw[hy]at hevy;obtain⟨⟨_,o2,pm,m1,m2',_,m4⟩,_⟩:=hevy;simp only at m1;rw[hm]at m1;injection m1 with m1
 subst m1;have hyv:a.eval y=pm.1:=m4 hmv;obtain⟨csm,n5,n6,n7,n8⟩:=h.own m om' pm hm m2';have hblk:E.blks m=pm.1.ownBlock.toList++pm.2:=by unfold Env.blks;rw[m2']
 obtain⟨A9,c9,hform⟩:=jE n5;have hcl:(a.eval y).cells= #[a.eval y]:=by rw[hyv,hform];rfl
 have rd:R w (.sl om'.l) (E.blks m) (a.eval y).cells.toList:=by
  rw[hcl,hyv,hblk];exact Sl.kU n5 n6
 have one1:(D.sl om'.l).one:=by rw[D.one];trivial
 have sz1:(D.sl om'.l).sz=(a.eval y).cells.size:=by rw[hcl,D.sz];rfl
 have hok:aW os m:=by unfold aW;rw[hm];simp only;rw[hmn];exact⟨rfl,e_ rfl⟩
 obtain⟨sb1,sb2,sb3⟩:=h.CV hok;have sb4:=h.A8 hok;have hs':=h.seal hm;have hsM:=(qJ (k:=m) h.nodup).2;obtain⟨cs,h5,h6,h7,h8⟩:=h.own k o p ho h2;have h5':=h5;obtain⟨hl,h9⟩:=h5;rcases h9 with⟨hv',h9⟩|⟨g,zz,cap,cur,hv',hg,hh,hn',hm,hsz,htk⟩
 ·omega
 rw[hv']at hb;simp only[ug,w_,Prod.mk.injEq]at hb;obtain⟨rfl,rfl⟩:=hb;have hcs:cs.length=o.l.length*o.s:=hl;have hys:(a.eval y).cells.size=i.size:=by rw[← sz1,hd]
 obtain⟨q,hq⟩:∃q,j*o.s+off=q:=⟨_,rfl⟩
 have hjs:j*o.s+o.s≤o.l.length*o.s:=by
  have:(j+1)*o.s≤o.l.length*o.s:=C_ _ hj;rw[a_h]at this;omega
 have hqs:q+i.size≤o.l.length*o.s:=by omega
 have hcap0:o.l.length*o.s≤cap*o.s:=C_ _ hn';have hcap:zz+o.l.length*o.s≤cur.size:=by omega
 have hrun:=run_storeCells_at (P:=P) g (zz+q) o.e (a.eval y).cells.toList 0 cur w hh (by simp;rw[hys];omega) ((Rs.one rd).one_ (D.ones_of fun z hz=>by simp at hz;subst hz;exact one1));have hrun2:(execOp a.eval ⟨d,.store t x y,ty,pos,after,guard⟩).run P w= .ok .skip (w.setRow g (cur.toList.take (zz+q)++(a.eval y).cells.toList++cur.toList.drop (zz+q+i.size)).toArray):=by
  simp only[a_o]at hrun;rw[hq]at he;simp[execOp,a_y,he,a_r,storeVar,sizeOf,typeInfo,hi,hys]at hrun⊢;rw[hrun];simp
 unfold u_;rw[hrun2];obtain⟨f1,f2,f3,hp2,r2⟩:=h6.patchN rd (s:=o.s) (fun z hz=>(h7 z hz).2) hj (by rw[hd];exact hs);rw[hq,hd,hjd]at r2;have hw':(w.setRow g (cur.toList.take (zz+q)++(a.eval y).cells.toList++cur.toList.drop (zz+q+i.size)).toArray).heap.size=w.heap.size:=by simp
 have hm3:∀b∈f1++E.blks m++f3,b∈p.2∨b∈E.blks m:=fun b hb=>by
  rw[hp2];simp only[c_]at hb⊢;rcases hb with(hb|hb)|hb
  ·exact e_ (e_ (e_ hb))
  ·exact h_ hb
  ·exact e_ (h_ hb)
 have hpl:p.2.Nodup:=h.lin.1 k o p ho h2 (by rw[hon]);have hdis:∀b∈E.blks m,b∉p.2:=fun b hb=>(sb3 k o p hkm ho h2 (e_ (by rw[hon])) b hb).1
 have hnd:(f1++E.blks m++f3).Nodup:=by
  rw[hp2]at hpl hdis;rw[f_]at hpl⊢;rw[j_]at hpl⊢;obtain⟨q1,q2,q3⟩:=hpl;rw[j_]at q2;refine⟨q1,j_.2 ⟨sb1,q2.2.1,fun x hx y hy e=> ?_⟩,fun x hx y hy e=> ?_⟩
  ·subst e;exact hdis x hx (by simp[hy])
  ·subst e;rcases c_.1 hy with hy|hy
   ·exact hdis x hy (by simp[hx])
   ·exact q3 x hx x (by simp[hy]) rfl
 have hgM:g∈E.M:=gV.2 (h_ ⟨k,p,h2,by rw[hv'];rfl⟩);have hne:∀b∈f1++E.blks m++f3,b≠g:=fun b hb e=>by
  rcases hm3 b hb with hb|hb
  ·exact(h8 b hb).1 (e▸hgM)
  ·have h10:g∈(E.seal m).M:=gV.2 (h_ ⟨k,p,by rw[jX hkm];exact h2,by rw[hv'];rfl⟩);exact(sb2 b hb).1 (e▸h10)
 refine hK _ _ (hs'.setOwn (l:=o.l.set j (D.patch d0 off (.sl om'.l))) (nw:=⟨true,true⟩) (f:=f1++E.blks m++f3) (cs:=cs.take q++(a.eval y).cells.toList++cs.drop (q+i.size)) (by rw[jK hkm];exact ho) (by rw[jX hkm];exact h2) (b:=g) (by rw[hv'];rfl) hw' ⟨rfl,rfl,rfl⟩ (fun b hb=>setRow_other _ _ _ _ hb) ⟨?_,h_ ⟨g,zz,cap,_,by rw[m_];exact hv',hg,setRow_heap _ _ _ _ _ _ hh,by rw[m_];exact hn',hm, ?_, ?_⟩⟩ ?_ ?_ ?_ d (fun _=>⟨hnd,fun j' o' p' hjk g1 g2 g3 b hb=> ?_⟩) (fun _ b hb z=> ?_))
 ·rw[b_,b_,a_,l_,m_,hcs,Array.length_toList,hys];omega
 ·rw[M_,b_,b_,a_,l_,Array.length_toList,Array.length_toList,hys];omega
 ·rw[m_];subst htk;simp only[a_g];have e2:(a.eval y).cells.toList.length=i.size:=by simp[hys]
  have hzl:(cur.toList.take zz).length=zz:=by rw[a_,Array.length_toList];omega
  have e3:cur.toList.drop (zz+q+i.size)=(cur.toList.drop zz).drop (q+i.size):=by rw[v_,K_]
  rw[a_z,e3,f_,f_,p_ hzl];have e1:(cur.toList.drop zz).length=cur.size - zz:=by simp
  generalize cur.toList.drop zz=rest at e1;rw[← f_,z_,z_,r_ (l:=a_U q rest) (by rw[a_];omega),r_ (l:=(a.eval y).cells.toList) (by rw[a_,e2];omega),a_s,x_ (by omega)];congr 1;rw[b_,a_,e2,e1,a_t];congr 1;omega
 ·exact r2.same (fun b hb=>setRow_other _ _ _ _ (hne b hb)) (a_H hw'.symm)
 ·intro z hz;rcases T_ hz with hz|rfl
  ·exact h7 z hz
  ·exact⟨Dh (h7 _ (by rw[← hjd];exact s_ hj)).1 one1,by rw[Gg (by rw[(h7 d0 (by rw[← hjd];exact s_ hj)).2,hd];exact hs),(h7 d0 (by rw[← hjd];exact s_ hj)).2]⟩
 ·intro b hb;rcases hm3 b hb with hb|hb
  ·exact⟨fun e=>(h8 b hb).1 (hsM b e),fun _=>(h8 b hb).2 (by rw[hon])⟩
  ·exact⟨(sb2 b hb).1,fun _=>(sb2 b hb).2⟩
 ·by_cases hjm:j'=m
  ·subst hjm;have h11:(E.seal j').om[j']? =some (.slice none 0 0,[]):=by
    unfold Env.seal;simp only;rw[k_ (d_.1 m2').1]
   rw[h11]at g2;injection g2 with g2
   subst g2;simp
  ·rw[jK hjm]at g1;rw[jX hjm]at g2;rcases hm3 b hb with hb|hb
   ·exact h.lin.2 k j' o o' p p' (fun e=>hjk e.symm) ho g1 h2 g2 (by rw[hon]) g3 b hb
   ·exact(sb3 j' o' p' hjm g1 g2 (e_ g3) b hb).1
 ·rw[L_ (w:=w) (setRow_other _ _ _ _ (hne b hb))];rcases hm3 b hb with hb|hb
  ·exact h.unf k o p ho h2 (by rw[hon]) b hb z
  ·exact sb4 b hb z
theorem DY{op:Op}{own:Bool}{n k v j off m vm:Nat}{x y:Opd}{ow om':Own}{d0:D}{K:Act→World→Prop}(hc:bJ P own op=some (.store n x y))(h:Rel B Xs G w0 ⟨fr,os,bs⟩ E a w)
 (hx:St.ev ⟨fr,os,bs⟩ x= .eptr k v j off) (ho:os[k]? =some ow) (hv:ow.ver=v) (hon:ow.nw=⟨true,true⟩) (hn1:n=1) (hs:off+1≤ow.s) (hj:ow.l[j]? =some d0) (hkm:k≠m) (hy:St.ev ⟨fr,os,bs⟩ y= .c false [.own m vm]) (hm:os[m]? =some om') (hmv:om'.ver=vm) (hmn:om'.nw=⟨true,true⟩)
 (hK:∀E' w',Rel B Xs G w0 (St.put ⟨fr,(aP os m).set k ⟨ow.l.set j (D.patch d0 off (.sl om'.l)),ow.e,ow.s,ow.ver,⟨true,true⟩⟩,bs⟩ d .any) E' (a.put d undef) w'→K (a.put d undef) w'):
 u_ P ⟨d,op,ty,pos,after,guard⟩ a w K Q:=by
 have:∃t x' y' i,op= .store t x' y'∧P.info? t=some i∧i.size=n∧opd x'=x∧opd y'=y:=by
  cases op with
  | store t x' y'=>
    simp only[bJ]at hc;split at hc
    ·next i hi=>
     injection hc with hc
     injection hc with h1 h2 h3
     exact⟨t,x',y',i,rfl,hi,h1,h2,h3⟩
    ·cases hc
  | _=>
    simp only[bJ]at hc
    repeat' split at hc
    all_goals first|contradiction|(cases hc;done)
 obtain⟨t,x',y',i,rfl,hi,rfl,rfl,rfl⟩:=this;exact GN h hi hx ho hv hon hn1 hs hj hkm hy hm hmv hmn hK
theorem SB{op:Op}{own own' g:Bool}{e s n:Nat}{xs:List Opd}(hc:bJ P own op=some (.brow own' e s n g xs)):
 ∃t ps,op= .buildSlice t n ps∧jw P t=some (e,s)∧pW P e s=true∧n*s≤2 ^ 24∧ps.toList.map (·.1)=Z_ n∧(ps.toList.map fun p=>opd p.2)=xs:=by
 cases op with
 | buildSlice t n' ps=>
   simp only[bJ]at hc;split at hc
   ·next e' s' ht=>
    split at hc
    ·next hk=>
     simp only[q_,decide_eq_true_eq]at hk;injection hc with hc
     injection hc with h1 h2 h3 h4 h5 h6
     subst h2 h3 h4;exact⟨t,ps,rfl,ht,hk.1.1,hk.1.2,hk.2,h6⟩
    ·cases hc
   ·cases hc
 | _=>
   simp only[bJ]at hc
   repeat' split at hc
   all_goals first|contradiction|(cases hc;done)
theorem QS{op:Op}{own:Bool}{e s:Nat}{x y:Opd}(hc:bJ P own op=some (.app e s x y)):
 ∃t x' y',op= .call {callee:= .builtin .append,args:= #[x',y'],argTypes:= #[t,t]}∧P.underlying t=some (.slice e)∧pW P e s=true∧opd x'=x∧opd y'=y:=by
 cases op with
 | call c=>
   obtain⟨callee,args,ats⟩:=c;simp only[bJ]at hc;split at hc
   case h_2=>
    split at hc
    ·next x' y' t t' hargs hats=>
     have e1:args= #[x',y']:=by apply Array.toList_inj.1;simpa using hargs
     have e2:ats= #[t,t']:=by apply Array.toList_inj.1;simpa using hats
     subst e1 e2;split at hc
     ·next htt=>
      subst htt;split at hc
      ·next e' s' ht=>
       split at hc
       ·next he=>
        injection hc with hc
        injection hc with h1 h2 h3 h4
        subst h1 h2;exact⟨t,x',y',rfl,(lX ht).1,he,h3,h4⟩
       ·cases hc
      ·cases hc
     ·repeat' split at hc
      all_goals first|contradiction|(cases hc;done)
    ·cases hc
   all_goals(repeat' split at hc)
   all_goals first|contradiction|(cases hc;done)
 | _=>
   simp only[bJ]at hc
   repeat' split at hc
   all_goals first|contradiction|(cases hc;done)
theorem NG{op:Op}{own own' g:Bool}{e s n:Nat}{xs:List Opd}{ds:List D}(hc:bJ P own op=some (.brow own' e s n g xs))(h:Rel B Xs G w0 ⟨fr,os,bs⟩ E a w)
 (hd:gG os (xs.map (St.ev ⟨fr,os,bs⟩))=some ds) (hs:∀d∈ds,d.sz=s) (hl:ds.length=n) (hnd:((xs.map (St.ev ⟨fr,os,bs⟩)).flatMap lvK).Nodup) (hk:∀k∈(xs.map (St.ev ⟨fr,os,bs⟩)).flatMap lvK,aW os k)
 (hK:∀E' v w',Rel B Xs G w0 (St.put ⟨fr,aV ((xs.map (St.ev ⟨fr,os,bs⟩)).flatMap lvK) os++ [⟨ds,e,s,0,⟨true,true⟩⟩],bs⟩ d (.c false [.own os.length 0])) E' (a.put d v) w'→K (a.put d v) w'):u_ P ⟨d,op,ty,pos,after,guard⟩ a w K Q:=by
 obtain⟨t,ps,rfl,h1,h2,h3,h4,rfl⟩:=SB hc;exact P9 h h1 h2 h3 h4 hd hs hl hnd hk K hK
theorem JG{op:Op}{own:Bool}{e s k i m j:Nat}{x y:Opd}{o om':Own}(hc:bJ P own op=some (.app e s x y))(h:Rel B Xs G w0 ⟨fr,os,bs⟩ E a w)(hx:St.ev ⟨fr,os,bs⟩ x= .c false [.own k i])
 (hy:St.ev ⟨fr,os,bs⟩ y= .c false [.own m j]) (hkm:k≠m) (ho:os[k]? =some o) (hv:o.ver=i) (hoe:o.e=e) (hos:o.s=s) (hm:os[m]? =some om') (hmv:om'.ver=j) (hmn:om'.nw=⟨true,true⟩) (hol:o.nw.lin=true∨nO o.l) (hl:El s om'.l) (hn:o.l.length+om'.l.length≤jH s)
 (hK:∀E' v w',Rel B Xs G w0 (St.put ⟨fr,(aP os m).set k ⟨o.l++om'.l,e,s,i+1,⟨o.nw.n,true⟩⟩,bs⟩ d (.c false [.own k (i+1)])) E' (a.put d v) w'→K (a.put d v) w'):u_ P ⟨d,op,ty,pos,after,guard⟩ a w K Q:=by
 obtain⟨t,x',y',rfl,h1,h2,rfl,rfl⟩:=QS hc;exact Np h h1 h2 hx hy hkm ho hv hoe hos hm hmv hmn hol hl hn K hK
theorem Il{op:Op}{own:Bool}{e s m j:Nat}{x y:Opd}{om':Own}(hc:bJ P own op=some (.app e s x y))(h:Rel B Xs G w0 ⟨fr,os,bs⟩ E a w)(hx:St.ev ⟨fr,os,bs⟩ x= .c false [.raw (.slice none 0 0)])
 (hy:St.ev ⟨fr,os,bs⟩ y= .c false [.own m j]) (hm:os[m]? =some om') (hmv:om'.ver=j) (hmn:om'.nw=⟨true,true⟩) (hl:El s om'.l) (hn:om'.l.length≤jH s)
 (hK:∀E' v w',Rel B Xs G w0 (St.put ⟨fr,aP os m++ [⟨om'.l,e,s,0,⟨true,true⟩⟩],bs⟩ d (.c false [.own os.length 0])) E' (a.put d v) w'→K (a.put d v) w'):u_ P ⟨d,op,ty,pos,after,guard⟩ a w K Q:=by
 obtain⟨t,x',y',rfl,h1,h2,rfl,rfl⟩:=QS hc;exact Jv h h1 h2 hx hy hm hmv hmn hl hn K hK
end
def nP(E:Env)(os:List Own)(w:World):List AV→List Value→Prop
 | [],[]=>True
 |x::xs,v::vs=>x.ok E os w v∧nP E os w xs vs
 |_,_=>False
def kJ(P:Program)(f:Nat)(avs:List AV)(os:List Own)(bs:List (List AC))(r:AV)(os':List Own)(bs':List (List AC)):Prop:=
 ∀(B:Nat) (Xs:List Nat) (G:Org) (w0:World) (fr:List AV) (E:Env) (a:Act) (w:World) (vs:List Value),Rel B Xs G w0 ⟨fr,os,bs⟩ E a w→nP E os w avs vs→
  Calls P f vs.toArray w fun e w'=>∃v E',e= .returned v∧Rel B Xs ⟨E,os,w⟩ w0 ⟨[],os',bs'⟩ E' {tmps:= #[],defers:= []} w'∧r.ok E' os' w' v
def kK(P:Program)(f:Nat)(avs:List AV)(os:List Own)(bs:List (List AC))(post:AV→List Own→List (List AC)→Prop):Prop:=
 ∀(B:Nat) (Xs:List Nat) (G:Org) (w0:World) (fr:List AV) (E:Env) (a:Act) (w:World) (vs:List Value),Rel B Xs G w0 ⟨fr,os,bs⟩ E a w→nP E os w avs vs→
  Calls P f vs.toArray w fun e w'=>∃v E' r os' bs',post r os' bs'∧e= .returned v∧Rel B Xs ⟨E,os,w⟩ w0 ⟨[],os',bs'⟩ E' {tmps:= #[],defers:= []} w'∧r.ok E' os' w' v
theorem kJ.toE{P:Program}{f:Nat}{avs:List AV}{os os':List Own}{bs bs':List (List AC)}{r:AV}(h:kJ P f avs os bs r os' bs'):kK P f avs os bs (fun r2 os2 bs2=>r2=r∧os2=os'∧bs2=bs'):=
 fun B Xs G w0 fr E a w vs hR hv=>(h B Xs G w0 fr E a w vs hR hv).mono fun e w' ⟨v,E',h1,h2,h3⟩=>⟨v,E',r,os',bs',⟨rfl,rfl,rfl⟩,h1,h2,h3⟩
theorem kK.mono{P:Program}{f:Nat}{avs:List AV}{os:List Own}{bs:List (List AC)}{p q:AV→List Own→List (List AC)→Prop}(h:kK P f avs os bs p)(hq:∀r os' bs',p r os' bs'→q r os' bs'):kK P f avs os bs q:=
 fun B Xs G w0 fr E a w vs hR hv=>(h B Xs G w0 fr E a w vs hR hv).mono fun e w' ⟨v,E',r,os',bs',h0,h1,h2,h3⟩=>⟨v,E',r,os',bs',hq _ _ _ h0,h1,h2,h3⟩
def AQ(P:Program)(f:Nat):Bool:=match P.funcs[f]? with|some fn=> !(fn.name== "runtime.NumGoroutine" || fn.body.isNone)|none=>false
inductive Step (P:Program) (o:IOp) (st:St):St→Prop
 |run {r os' bs'}:gdA st o.gd=some true→Res P st.ev st.owns st.boxes o.i r os' bs'→Step P o st (St.put ⟨st.fr,os',bs'⟩ o.d r)
 |skip:gdA st o.gd=some false→Step P o st (st.put o.d (.c false [.raw undef]))
 |storeE {n x y k v j ow dd}:gdA st o.gd=some true→o.i= .store n x y→st.ev x= .eptr k v j 0→st.owns[k]? =some ow→ow.ver=v→ow.s=n→j<ow.l.length→(st.ev y).toD=some dd→dd.sz=n→
  Step P o st (St.put ⟨st.fr,st.owns.set k ⟨ow.l.set j dd,ow.e,ow.s,ow.ver,ow.nw.n && (st.ev y).nw⟩,st.boxes⟩ o.d .any)
 |storeF {n x y k v j off ow dd d0}:gdA st o.gd=some true→o.i= .store n x y→st.ev x= .eptr k v j off→st.owns[k]? =some ow→ow.ver=v→off+n≤ow.s→ow.l[j]? =some d0→(st.ev y).toD=some dd→dd.sz=n→
  Step P o st (St.put ⟨st.fr,st.owns.set k ⟨ow.l.set j (D.patch d0 off dd),ow.e,ow.s,ow.ver,ow.nw.n && (st.ev y).nw⟩,st.boxes⟩ o.d .any)
 |storeL {n x y k v j off ow d0 m om'}:gdA st o.gd=some true→o.i= .store n x y→st.ev x= .eptr k v j off→st.owns[k]? =some ow→ow.ver=v→ow.nw=⟨true,true⟩→n=1→off+1≤ow.s→ow.l[j]? =some d0→k≠m→bg st.owns (st.ev y)=some (m,om')→
  Step P o st (St.put ⟨st.fr,(aP st.owns m).set k ⟨ow.l.set j (D.patch d0 off (.sl om'.l)),ow.e,ow.s,ow.ver,⟨true,true⟩⟩,st.boxes⟩ o.d .any)
 |callS {f xs r os' bs'}:gdA st o.gd=some true→o.i= .call f xs→kJ P f (xs.map st.ev) st.owns st.boxes r os' bs'→Step P o st (St.put ⟨st.fr,os',bs'⟩ o.d r)
 |lslR {s x lo hi k v ow lo' hi' p q}:gdA st o.gd=some true→o.i= .lsl s x lo hi→st.ev x= .c false [.own k v]→st.owns[k]? =some ow→ow.ver=v→ow.s=s→lo.map (fun y=>bI (st.ev y))=lo'.map some→hi.map (fun y=>bI (st.ev y))=hi'.map some→jr lo' hi' ow.l.length=some (p,q)→
  Step P o st (St.put ⟨st.fr,st.owns.set k ⟨(ow.l.take q).drop p,ow.e,ow.s,v+1,ow.nw.n⟩,st.boxes⟩ o.d (.c false [.own k (v+1)]))
 |brl {own e s n g xs ds}:gdA st o.gd=some true→o.i= .brow own e s n g xs→gG st.owns (xs.map st.ev)=some ds→(∀d∈ds,d.sz=s)→ds.length=n→((xs.map st.ev).flatMap lvK).Nodup→(∀k∈(xs.map st.ev).flatMap lvK,aW st.owns k)→
  Step P o st (St.put ⟨st.fr,aV ((xs.map st.ev).flatMap lvK) st.owns++ [⟨ds,e,s,0,⟨true,true⟩⟩],st.boxes⟩ o.d (.c false [.own st.owns.length 0]))
 |appL {e s x y k v m j ow om'}:gdA st o.gd=some true→o.i= .app e s x y→st.ev x= .c false [.own k v]→st.ev y= .c false [.own m j]→k≠m→st.owns[k]? =some ow→ow.ver=v→ow.e=e→ow.s=s→st.owns[m]? =some om'→om'.ver=j→om'.nw=⟨true,true⟩→(ow.nw.lin=true∨nO ow.l)→El s om'.l→ow.l.length+om'.l.length≤jH s→
  Step P o st (St.put ⟨st.fr,(aP st.owns m).set k ⟨ow.l++om'.l,e,s,v+1,⟨ow.nw.n,true⟩⟩,st.boxes⟩ o.d (.c false [.own k (v+1)]))
 |appLN {e s x y m j om'}:gdA st o.gd=some true→o.i= .app e s x y→st.ev x= .c false [.raw (.slice none 0 0)]→st.ev y= .c false [.own m j]→st.owns[m]? =some om'→om'.ver=j→om'.nw=⟨true,true⟩→El s om'.l→om'.l.length≤jH s→
  Step P o st (St.put ⟨st.fr,aP st.owns m++ [⟨om'.l,e,s,0,⟨true,true⟩⟩],st.boxes⟩ o.d (.c false [.own st.owns.length 0]))
 |callV {x xs f caps r os' bs'}:gdA st o.gd=some true→o.i= .callv x xs→st.ev x= .c false [.cl f caps]→AQ P f=true→kJ P f (xs.map st.ev++caps.map fun k=> .bptr k 0) st.owns st.boxes r os' bs'→Step P o st (St.put ⟨st.fr,os',bs'⟩ o.d r)
def Fh(x y:Prop):Prop:=x∨y
theorem zH{x y:Prop}(h:x):Fh x y:=e_ h
section
variable(P:Program)(K:St→Prop)
def sw : List IOp→St→Prop
 | [],st=>K st
 | o ::rest,st=>match gdA st o.gd with
   |none=>False
   |some false=>sw rest (st.put o.d (.c false [.raw undef]))
   | some true=>match o.i with
     | .iad s x j=>(match st.ev x with
       | .c false [.sl n l]=>El s l∧(match idx l (bI (st.ev j))with|some dd=>sw rest (st.put o.d (.ptr (dd.acs n)))|none=>False)
       | .c false [.own k v]=>(match st.owns[k]?,bI (st.ev j)with|some ow,some z=>ow.ver=v∧ow.s=s∧0≤z∧z.toNat<ow.l.length∧sw rest (st.put o.d (.eptr k v z.toNat 0))|_,_=>False)
       | .c false [.osub k v p q]=>(match st.owns[k]?,bI (st.ev j)with|some ow,some z=>ow.ver=v∧ow.s=s∧0≤z∧z.toNat<q - p∧sw rest (st.put o.d (.eptr k v (p+z.toNat) 0))|_,_=>False)
       |_=>False)
     | .lsl s x lo hi=>(match st.ev x,opI st.ev lo,opI st.ev hi with
       | .c false [.sl n l],some a,some b=>El s l∧(match jr a b l.length with|some (p,q)=>sw rest (st.put o.d (.c false [.sl n ((l.take q).drop p)]))|none=>False)
       | .c false [.own k v],some a,some b=>(match st.owns[k]? with
         | some ow=>ow.ver=v∧ow.s=s∧(match jr a b ow.l.length with
           |some (p,q)=>Fh (sw rest (st.put o.d (.c false [.osub k v p q]))) (sw rest (St.put ⟨st.fr,st.owns.set k ⟨(ow.l.take q).drop p,ow.e,ow.s,v+1,ow.nw.n⟩,st.boxes⟩ o.d (.c false [.own k (v+1)])))
           |none=>False)
         |none=>False)
       |_,_,_=>False)
     | .call f xs=>(∃ds r,aO st.owns (xs.map st.ev) ds∧aJ P f ds r∧r.res∧sw rest (st.put o.d r))∨
      (∃ds g l e s,aO st.owns (xs.map st.ev) ds∧ni P f ds g l e s∧El s l∧sw rest (St.put ⟨st.fr,st.owns++ [⟨l,e,s,0,true⟩],st.boxes⟩ o.d (.c g [.own st.owns.length 0])))∨
      (∃ds r,aO [] (xs.map st.ev) ds∧mg P f ds r∧r.old=true∧sw rest (st.put o.d r))∨
      (∃ds r os',aO st.owns (xs.map st.ev) ds∧dH P f ds r os'∧r.out=true∧0<os'.length∧sw rest (St.put ⟨st.fr,st.owns++os',st.boxes⟩ o.d (r.shift st.owns.length)))∨
      (∃r os' bs',kJ P f (xs.map st.ev) st.owns st.boxes r os' bs'∧sw rest (St.put ⟨st.fr,os',bs'⟩ o.d r))∨
      (∃post:AV→List Own→List (List AC)→Prop,kK P f (xs.map st.ev) st.owns st.boxes post∧∀r os' bs',post r os' bs'→sw rest (St.put ⟨st.fr,os',bs'⟩ o.d r))
     | .callv x xs=>(∃f caps r os' bs',st.ev x= .c false [.cl f caps]∧AQ P f=true∧kJ P f (xs.map st.ev++caps.map fun k=> .bptr k 0) st.owns st.boxes r os' bs'∧sw rest (St.put ⟨st.fr,os',bs'⟩ o.d r))
     | .brow own e s n g xs=>(match gy (xs.map st.ev)with
       |some _=>(match ex st.ev st.owns st.boxes (.brow own e s n g xs)with|some (r,os',bs')=>sw rest (St.put ⟨st.fr,os',bs'⟩ o.d r)|none=>False)
       | none=>(match gG st.owns (xs.map st.ev)with
         |some ds=>(ds.all (fun d=>d.sz==s) && ds.length==n)=true∧((xs.map st.ev).flatMap lvK).Nodup∧(∀k∈(xs.map st.ev).flatMap lvK,aW st.owns k)∧sw rest (St.put ⟨st.fr,aV ((xs.map st.ev).flatMap lvK) st.owns++ [⟨ds,e,s,0,⟨true,true⟩⟩],st.boxes⟩ o.d (.c false [.own st.owns.length 0]))
         |none=>False))
     | .app e s x y=>(match bg st.owns (st.ev y)with
       | some (m,o2)=>(match st.ev x with
         | .c false [.own k v]=>(match st.owns[k]? with
           |some ow=>(ow.ver=v∧ow.e=e∧ow.s=s∧k≠m)∧(ow.nw.lin=true∨nO ow.l)∧El s o2.l∧ow.l.length+o2.l.length≤jH s∧sw rest (St.put ⟨st.fr,(aP st.owns m).set k ⟨ow.l++o2.l,e,s,v+1,⟨ow.nw.n,true⟩⟩,st.boxes⟩ o.d (.c false [.own k (v+1)]))
           |none=>False)
         | .c false [.raw (.slice none 0 0)]=>El s o2.l∧o2.l.length≤jH s∧sw rest (St.put ⟨st.fr,aP st.owns m++ [⟨o2.l,e,s,0,⟨true,true⟩⟩],st.boxes⟩ o.d (.c false [.own st.owns.length 0]))
         |_=>False)
       |none=>(match st.ev x,bV st.owns (st.ev y)with
       | .c false [.own k v],some (l,n)=>(match st.owns[k]? with
         |some ow=>ow.ver=v∧ow.e=e∧ow.s=s∧El s l∧ow.l.length+l.length≤jH s∧sw rest (St.put ⟨st.fr,st.owns.set k ⟨ow.l++l,e,s,v+1,ow.nw.n && n⟩,st.boxes⟩ o.d (.c false [.own k (v+1)]))
         |none=>False)
       | .c false [.osub k v p q],some (l,n)=>(match st.owns[k]? with
         |some ow=>ow.ver=v∧ow.e=e∧ow.s=s∧El s l∧ow.l.length+l.length≤jH s∧sw rest (St.put ⟨st.fr,st.owns.set k ⟨(ow.l.take q).drop p++l,e,s,v+1,ow.nw.n && n⟩,st.boxes⟩ o.d (.c false [.own k (v+1)]))
         |none=>False)
       | .c false [.raw (.slice none 0 0)],some (l,n)=>El s l∧l.length≤jH s∧sw rest (St.put ⟨st.fr,st.owns++ [⟨l,e,s,0,n⟩],st.boxes⟩ o.d (.c false [.own st.owns.length 0]))
       |_,_=>False))
     | .store n x y=>(match st.ev x with
       | .eptr k v j off=>(match st.owns[k]?,(st.ev y).toD with
         | some ow,some dd=>ow.ver=v∧dd.sz=n∧(if ow.s=n then off=0∧j<ow.l.length∧sw rest (St.put ⟨st.fr,st.owns.set k ⟨ow.l.set j dd,ow.e,ow.s,ow.ver,ow.nw.n && (st.ev y).nw⟩,st.boxes⟩ o.d .any)
           else off+n≤ow.s∧(match ow.l[j]? with
            |some d0=>sw rest (St.put ⟨st.fr,st.owns.set k ⟨ow.l.set j (D.patch d0 off dd),ow.e,ow.s,ow.ver,ow.nw.n && (st.ev y).nw⟩,st.boxes⟩ o.d .any)
            |none=>False))
         | some ow,none=>(match bg st.owns (st.ev y)with
           | some (m,om')=>ow.ver=v∧ow.nw=⟨true,true⟩∧n=1∧off+1≤ow.s∧k≠m∧(match ow.l[j]? with
             |some d0=>sw rest (St.put ⟨st.fr,(aP st.owns m).set k ⟨ow.l.set j (D.patch d0 off (.sl om'.l)),ow.e,ow.s,ow.ver,⟨true,true⟩⟩,st.boxes⟩ o.d .any)
             |none=>False)
           |none=>False)
         |_,_=>False)
       |_=>(match ex st.ev st.owns st.boxes (.store n x y)with|some (r,os',bs')=>sw rest (St.put ⟨st.fr,os',bs'⟩ o.d r)|none=>False))
     |i=>(match ex st.ev st.owns st.boxes i with|some (r,os',bs')=>sw rest (St.put ⟨st.fr,os',bs'⟩ o.d r)|none=>False)
def jV(d:Option Nat)(f:Nat)(avs:List AV)(rest:List IOp)(st:St):Prop:=
 (∃ds r,aO st.owns avs ds∧aJ P f ds r∧r.res∧sw P K rest (st.put d r))∨
 (∃ds g l e s,aO st.owns avs ds∧ni P f ds g l e s∧El s l∧sw P K rest (St.put ⟨st.fr,st.owns++ [⟨l,e,s,0,true⟩],st.boxes⟩ d (.c g [.own st.owns.length 0])))∨
 (∃ds r,aO [] avs ds∧mg P f ds r∧r.old=true∧sw P K rest (st.put d r))∨
 (∃ds r os',aO st.owns avs ds∧dH P f ds r os'∧r.out=true∧0<os'.length∧sw P K rest (St.put ⟨st.fr,st.owns++os',st.boxes⟩ d (r.shift st.owns.length)))∨
 (∃r os' bs',kJ P f avs st.owns st.boxes r os' bs'∧sw P K rest (St.put ⟨st.fr,os',bs'⟩ d r))∨
 (∃post:AV→List Own→List (List AC)→Prop,kK P f avs st.owns st.boxes post∧∀r os' bs',post r os' bs'→sw P K rest (St.put ⟨st.fr,os',bs'⟩ d r))
def DT(d:Option Nat)(x:AV)(avs:List AV)(rest:List IOp)(st:St):Prop:=
 ∃f caps r os' bs',x= .c false [.cl f caps]∧AQ P f=true∧kJ P f (avs++caps.map fun k=> .bptr k 0) st.owns st.boxes r os' bs'∧sw P K rest (St.put ⟨st.fr,os',bs'⟩ d r)
end
section
variable{P:Program}{K:St→Prop}
theorem Gz{l:List D}{z:Option Int}{d:D}(h:idx l z=some d):∃y,z=some y∧0≤y∧l[y.toNat]? =some d:=by
 unfold idx at h;split at h
 ·next y=>
  split at h
  ·next h0=>exact⟨y,rfl,h0,h⟩
  ·cases h
 ·cases h
theorem JV{o:IOp}{rest:List IOp}{st:St}(h:sw P K (o::rest) st):(∃st',Step P o st st'∧sw P K rest st')∨(∃f xs post,gdA st o.gd=some true∧o.i= .call f xs∧kK P f (xs.map st.ev) st.owns st.boxes post∧∀r os' bs',post r os' bs'→sw P K rest (St.put ⟨st.fr,os',bs'⟩ o.d r)):=by
 obtain⟨d,gd,i⟩:=o;unfold sw at h;split at h
 ·exact h.elim
 ·next hg=>exact e_ ⟨_,.skip hg,h⟩
 ·next hg=>
  simp only at h hg;split at h
  ·next s x j=>
   split at h
   ·next n l hx=>
    obtain⟨hel,h⟩:=h;split at h
    ·next dd hi=>
     obtain⟨y,h1,h2,h3⟩:=Gz hi;exact e_ ⟨_,.run hg (.iadS hx h1 h2 h3 hel),h⟩
    ·exact h.elim
   ·next k v hx=>
    split at h
    ·next ow z ho hz=>
     obtain⟨h1,h2,h3,h4,h⟩:=h;exact e_ ⟨_,.run hg (.iadO hx hz h3 ho h1 h4 h2),h⟩
    ·exact h.elim
   ·next k v p q hx=>
    split at h
    ·next ow z ho hz=>
     obtain⟨h1,h2,h3,h4,h⟩:=h;exact e_ ⟨_,.run hg (.iadU hx hz h3 ho h1 h4 h2),h⟩
    ·exact h.elim
   ·exact h.elim
  ·next s x lo hi=>
   split at h
   ·next n l a b hx hlo hhi=>
    obtain⟨hel,h⟩:=h;split at h
    ·next p q hs=>exact e_ ⟨_,.run hg (.lsl hx (jq hlo) (jq hhi) hs hel),h⟩
    ·exact h.elim
   ·next k v a b hx hlo hhi=>
    split at h
    ·next ow ho=>
     obtain⟨h1,h2,h⟩:=h;split at h
     ·next p q hs=>
      rcases h with h|h
      ·exact e_ ⟨_,.run hg (.lslO hx ho h1 h2 (jq hlo) (jq hhi) hs),h⟩
      ·exact e_ ⟨_,.lslR hg rfl hx ho h1 h2 (jq hlo) (jq hhi) hs,h⟩
     ·exact h.elim
    ·exact h.elim
   ·exact h.elim
  ·next f xs=>
   rcases h with⟨ds,r,h1,h2,h3,h4⟩|⟨ds,g,l,e,s,h1,h2,h3,h4⟩|⟨ds,r,h1,h2,h3,h4⟩|⟨ds,r,os',h1,h2,h3,h5,h4⟩|⟨r,os',bs',h1,h4⟩|⟨post,h1,h4⟩
   ·exact e_ ⟨_,.run hg (.call h1 h2 h3),h4⟩
   ·exact e_ ⟨_,.run hg (.callO h1 h2 h3),h4⟩
   ·exact e_ ⟨_,.run hg (.callA h1 h2 h3),h4⟩
   ·exact e_ ⟨_,.run hg (.callX h1 h2 h3 h5),h4⟩
   ·exact e_ ⟨_,.callS hg rfl h1,h4⟩
   ·exact h_ ⟨f,xs,post,hg,rfl,h1,h4⟩
  ·next x xs=>
   obtain⟨f,caps,r,os',bs',h1,h2,h3,h4⟩:=h;exact e_ ⟨_,.callV hg rfl h1 h2 h3,h4⟩
  ·next own e s n g xs=>
   split at h
   ·split at h
    ·next r os' bs' he=>exact e_ ⟨_,.run hg (xq he),h⟩
    ·exact h.elim
   ·split at h
    ·next ds hd=>
     obtain⟨h1,h2,h3,h⟩:=h;simp only[q_,a_M,beq_iff_eq]at h1;exact e_ ⟨_,.brl hg rfl hd h1.1 h1.2 h2 h3,h⟩
    ·exact h.elim
  ·next e s x y=>
   split at h
   ·next m o2 hlin=>
    obtain⟨j,hy,hm,hmv,hmn⟩:=yw hlin;split at h
    ·next k v hx=>
     split at h
     ·next ow ho=>
      obtain⟨⟨h1,h2,h3,h4⟩,h5,h6,h7,h⟩:=h;exact e_ ⟨_,.appL hg rfl hx hy h4 ho h1 h2 h3 hm hmv hmn h5 h6 h7,h⟩
     ·exact h.elim
    ·next hx=>
     obtain⟨h1,h2,h⟩:=h;exact e_ ⟨_,.appLN hg rfl hx hy hm hmv hmn h1 h2,h⟩
    ·exact h.elim
   ·split at h
    ·next k v l n hx hs=>
     split at h
     ·next ow ho=>
      obtain⟨h1,h2,h3,h4,h5,h⟩:=h;exact e_ ⟨_,.run hg (.appO hx ho h1 h2 h3 hs h4 h5),h⟩
     ·exact h.elim
    ·next k v p q l n hx hs=>
     split at h
     ·next ow ho=>
      obtain⟨h1,h2,h3,h4,h5,h⟩:=h;exact e_ ⟨_,.run hg (.appU hx ho h1 h2 h3 hs h4 h5),h⟩
     ·exact h.elim
    ·next l n hx hs=>
     obtain⟨h1,h2,h⟩:=h;exact e_ ⟨_,.run hg (.appN hx hs h1 h2),h⟩
    ·exact h.elim
  ·next n x y=>
   split at h
   ·next k v j off hx=>
    split at h
    ·next ow dd ho hd=>
     obtain⟨h1,h4,h⟩:=h;split at h
     ·next h2=>
      obtain⟨rfl,h3,h⟩:=h;exact e_ ⟨_,.storeE hg rfl hx ho h1 h2 h3 hd h4,h⟩
     ·obtain⟨h2,h⟩:=h;split at h
      ·next d0 h3=>exact e_ ⟨_,.storeF hg rfl hx ho h1 h2 h3 hd h4,h⟩
      ·exact h.elim
    ·next ow ho hd=>
     split at h
     ·next m om' hl=>
      obtain⟨h1,h2,h3,h4,h5,h⟩:=h;split at h
      ·next d0 h6=>exact e_ ⟨_,.storeL hg rfl hx ho h1 h2 h3 h4 h6 h5 hl,h⟩
      ·exact h.elim
     ·exact h.elim
    ·exact h.elim
   ·split at h
    ·next r os' bs' he=>exact e_ ⟨_,.run hg (xq he),h⟩
    ·exact h.elim
  ·split at h
   ·next r os' bs' he=>exact e_ ⟨_,.run hg (xq he),h⟩
   ·exact h.elim
theorem Oa{st:St}:sw P K [] st=K st:=rfl
theorem FI{d:Option Nat}{g:Nat×Bool}{i:I}{rest:List IOp}{st:St}:sw P K (⟨d,some g,i⟩::rest) st=(match gdA st (some g)with
 |none=>False
 |some false=>sw P K rest (st.put d (.c false [.raw undef]))
 |some true=>sw P K (⟨d,none,i⟩::rest) st):=by
 rw[sw.eq_2];simp only;cases gdA st (some g)with
 |none=>rfl
 | some b=>cases b with
   |false=>rfl
   |true=>rfl
theorem Oc{d:Option Nat}{s:Nat}{x j:Opd}{rest:List IOp}{st:St}:sw P K (⟨d,none,.iad s x j⟩::rest) st=(match st.ev x with
 | .c false [.sl n l]=>El s l∧(match idx l (bI (st.ev j))with|some dd=>sw P K rest (st.put d (.ptr (dd.acs n)))|none=>False)
 | .c false [.own k v]=>(match st.owns[k]?,bI (st.ev j)with|some ow,some z=>ow.ver=v∧ow.s=s∧0≤z∧z.toNat<ow.l.length∧sw P K rest (st.put d (.eptr k v z.toNat 0))|_,_=>False)
 | .c false [.osub k v p q]=>(match st.owns[k]?,bI (st.ev j)with|some ow,some z=>ow.ver=v∧ow.s=s∧0≤z∧z.toNat<q - p∧sw P K rest (st.put d (.eptr k v (p+z.toNat) 0))|_,_=>False)
 |_=>False):=rfl
theorem Ob{d:Option Nat}{s:Nat}{x:Opd}{lo hi:Option Opd}{rest:List IOp}{st:St}:sw P K (⟨d,none,.lsl s x lo hi⟩::rest) st=(match st.ev x,opI st.ev lo,opI st.ev hi with
 | .c false [.sl n l],some a,some b=>El s l∧(match jr a b l.length with|some (p,q)=>sw P K rest (st.put d (.c false [.sl n ((l.take q).drop p)]))|none=>False)
 | .c false [.own k v],some a,some b=>(match st.owns[k]? with
   | some ow=>ow.ver=v∧ow.s=s∧(match jr a b ow.l.length with
     |some (p,q)=>Fh (sw P K rest (st.put d (.c false [.osub k v p q]))) (sw P K rest (St.put ⟨st.fr,st.owns.set k ⟨(ow.l.take q).drop p,ow.e,ow.s,v+1,ow.nw.n⟩,st.boxes⟩ d (.c false [.own k (v+1)])))
     |none=>False)
   |none=>False)
 |_,_,_=>False):=rfl
theorem JW{d:Option Nat}{f:Nat}{xs:List Opd}{rest:List IOp}{st:St}:sw P K (⟨d,none,.call f xs⟩::rest) st=jV P K d f (xs.map st.ev) rest st:=rfl
theorem FK{d:Option Nat}{x:Opd}{xs:List Opd}{rest:List IOp}{st:St}:sw P K (⟨d,none,.callv x xs⟩::rest) st=DT P K d (st.ev x) (xs.map st.ev) rest st:=rfl
theorem callV{d:Option Nat}{f:Nat}{caps:List Nat}{avs:List AV}{rest:List IOp}{st:St}{r:AV}{os':List Own}{bs':List (List AC)}(hf:AQ P f=true)(hc:kJ P f (avs++caps.map fun k=> .bptr k 0) st.owns st.boxes r os' bs')
 (h:sw P K rest (St.put ⟨st.fr,os',bs'⟩ d r)):DT P K d (.c false [.cl f caps]) avs rest st:=⟨f,caps,r,os',bs',rfl,hf,hc,h⟩
theorem JX{d:Option Nat}{own g:Bool}{e s n:Nat}{xs:List Opd}{rest:List IOp}{st:St}:sw P K (⟨d,none,.brow own e s n g xs⟩::rest) st=(match gy (xs.map st.ev)with
 |some _=>(match ex st.ev st.owns st.boxes (.brow own e s n g xs)with|some (r,os',bs')=>sw P K rest (St.put ⟨st.fr,os',bs'⟩ d r)|none=>False)
 | none=>(match gG st.owns (xs.map st.ev)with
   |some ds=>(ds.all (fun d=>d.sz==s) && ds.length==n)=true∧((xs.map st.ev).flatMap lvK).Nodup∧(∀k∈(xs.map st.ev).flatMap lvK,aW st.owns k)∧sw P K rest (St.put ⟨st.fr,aV ((xs.map st.ev).flatMap lvK) st.owns++ [⟨ds,e,s,0,⟨true,true⟩⟩],st.boxes⟩ d (.c false [.own st.owns.length 0]))
   |none=>False)):=rfl
theorem Oe{d:Option Nat}{e s:Nat}{x y:Opd}{rest:List IOp}{st:St}:sw P K (⟨d,none,.app e s x y⟩::rest) st=(match bg st.owns (st.ev y)with
 | some (m,o2)=>(match st.ev x with
   | .c false [.own k v]=>(match st.owns[k]? with
     |some ow=>(ow.ver=v∧ow.e=e∧ow.s=s∧k≠m)∧(ow.nw.lin=true∨nO ow.l)∧El s o2.l∧ow.l.length+o2.l.length≤jH s∧sw P K rest (St.put ⟨st.fr,(aP st.owns m).set k ⟨ow.l++o2.l,e,s,v+1,⟨ow.nw.n,true⟩⟩,st.boxes⟩ d (.c false [.own k (v+1)]))
     |none=>False)
   | .c false [.raw (.slice none 0 0)]=>El s o2.l∧o2.l.length≤jH s∧sw P K rest (St.put ⟨st.fr,aP st.owns m++ [⟨o2.l,e,s,0,⟨true,true⟩⟩],st.boxes⟩ d (.c false [.own st.owns.length 0]))
   |_=>False)
 |none=>(match st.ev x,bV st.owns (st.ev y)with
 | .c false [.own k v],some (l,n)=>(match st.owns[k]? with
   |some ow=>ow.ver=v∧ow.e=e∧ow.s=s∧El s l∧ow.l.length+l.length≤jH s∧sw P K rest (St.put ⟨st.fr,st.owns.set k ⟨ow.l++l,e,s,v+1,ow.nw.n && n⟩,st.boxes⟩ d (.c false [.own k (v+1)]))
   |none=>False)
 | .c false [.osub k v p q],some (l,n)=>(match st.owns[k]? with
   |some ow=>ow.ver=v∧ow.e=e∧ow.s=s∧El s l∧ow.l.length+l.length≤jH s∧sw P K rest (St.put ⟨st.fr,st.owns.set k ⟨(ow.l.take q).drop p++l,e,s,v+1,ow.nw.n && n⟩,st.boxes⟩ d (.c false [.own k (v+1)]))
   |none=>False)
 | .c false [.raw (.slice none 0 0)],some (l,n)=>El s l∧l.length≤jH s∧sw P K rest (St.put ⟨st.fr,st.owns++ [⟨l,e,s,0,n⟩],st.boxes⟩ d (.c false [.own st.owns.length 0]))
 |_,_=>False)):=rfl
theorem FH{d:Option Nat}{n:Nat}{x y:Opd}{rest:List IOp}{st:St}:sw P K (⟨d,none,.store n x y⟩::rest) st=(match st.ev x with
 | .eptr k v j off=>(match st.owns[k]?,(st.ev y).toD with
   | some ow,some dd=>ow.ver=v∧dd.sz=n∧(if ow.s=n then off=0∧j<ow.l.length∧sw P K rest (St.put ⟨st.fr,st.owns.set k ⟨ow.l.set j dd,ow.e,ow.s,ow.ver,ow.nw.n && (st.ev y).nw⟩,st.boxes⟩ d .any)
     else off+n≤ow.s∧(match ow.l[j]? with
      |some d0=>sw P K rest (St.put ⟨st.fr,st.owns.set k ⟨ow.l.set j (D.patch d0 off dd),ow.e,ow.s,ow.ver,ow.nw.n && (st.ev y).nw⟩,st.boxes⟩ d .any)
      |none=>False))
   | some ow,none=>(match bg st.owns (st.ev y)with
     | some (m,om')=>ow.ver=v∧ow.nw=⟨true,true⟩∧n=1∧off+1≤ow.s∧k≠m∧(match ow.l[j]? with
       |some d0=>sw P K rest (St.put ⟨st.fr,(aP st.owns m).set k ⟨ow.l.set j (D.patch d0 off (.sl om'.l)),ow.e,ow.s,ow.ver,⟨true,true⟩⟩,st.boxes⟩ d .any)
       |none=>False)
     |none=>False)
   |_,_=>False)
 |_=>(match ex st.ev st.owns st.boxes (.store n x y)with|some (r,os',bs')=>sw P K rest (St.put ⟨st.fr,os',bs'⟩ d r)|none=>False)):=rfl
def I.plainW :I→Bool
 | .iad .. =>false
 | .lsl .. =>false
 | .callv .. =>false
 | .call .. =>false
 | .app .. =>false
 | .store .. =>false
 | .brow .. =>false
 |_=>true
def I.plain :I→Bool
 | .iad .. =>false
 | .lsl .. =>false
 | .callv .. =>false
 | .call .. =>false
 | .app .. =>false
 |_=>true
theorem SN{d:Option Nat}{i:I}{rest:List IOp}{st:St}(hi:i.plainW=true):sw P K (⟨d,none,i⟩::rest) st=(match ex st.ev st.owns st.boxes i with|some (r,os',bs')=>sw P K rest (St.put ⟨st.fr,os',bs'⟩ d r)|none=>False):=by
 cases i<;>first|rfl|cases hi
theorem QK{d:Option Nat}{f:Nat}{avs:List AV}{rest:List IOp}{st:St}{ds:List D}{r:AV}(hc:aJ P f ds r)(hr:r.res)(ha:aO st.owns avs ds)(h:sw P K rest (st.put d r)):jV P K d f avs rest st:=
 e_ ⟨ds,r,ha,hc,hr,h⟩
theorem vN{d:Option Nat}{f:Nat}{avs:List AV}{rest:List IOp}{st:St}{ds l:List D}{g:Bool}{e s:Nat}(hc:ni P f ds g l e s)(hl:El s l)(ha:aO st.owns avs ds)
 (h:sw P K rest (St.put ⟨st.fr,st.owns++ [⟨l,e,s,0,true⟩],st.boxes⟩ d (.c g [.own st.owns.length 0]))):jV P K d f avs rest st:=
 h_ (e_ ⟨ds,g,l,e,s,ha,hc,hl,h⟩)
theorem gW{d:Option Nat}{f:Nat}{avs:List AV}{rest:List IOp}{st:St}{ds:List D}{r:AV}{os':List Own}(hc:dH P f ds r os')(hr:r.out=true)(hl:0<os'.length)(ha:aO st.owns avs ds)
 (h:sw P K rest (St.put ⟨st.fr,st.owns++os',st.boxes⟩ d (r.shift st.owns.length))):jV P K d f avs rest st:=
 h_ (h_ (h_ (e_ ⟨ds,r,os',ha,hc,hr,hl,h⟩)))
theorem callS{d:Option Nat}{f:Nat}{avs:List AV}{rest:List IOp}{st:St}{r:AV}{os':List Own}{bs':List (List AC)}(hc:kJ P f avs st.owns st.boxes r os' bs')
 (h:sw P K rest (St.put ⟨st.fr,os',bs'⟩ d r)):jV P K d f avs rest st:=
 h_ (h_ (h_ (h_ (e_ ⟨r,os',bs',hc,h⟩))))
theorem UA{d:Option Nat}{f:Nat}{avs:List AV}{rest:List IOp}{st:St}{post:AV→List Own→List (List AC)→Prop}(hc:kK P f avs st.owns st.boxes post)
 (h:∀r os' bs',post r os' bs'→sw P K rest (St.put ⟨st.fr,os',bs'⟩ d r)):jV P K d f avs rest st:=
 h_ (h_ (h_ (h_ (h_ ⟨post,hc,h⟩))))
end
section
variable{P:Program}{B:Nat}{Xs:List Nat}{G:Org}{w0:World}{E:Env}{a:Act}{w:World}
theorem oD{ops:Array Oper}{o:Oper}{io:IOp}(h:xC P ops o=some io):bJ P (KH ops o) o.op=some io.i∧io.d=o.dst∧
 ((o.guard=none∧io.gd=none)∨∃j want g,o.guard=some (j,want)∧(ops[j]?).bind (·.dst)=some g∧io.gd=some (g,want)):=by
 unfold xC at h;split at h
 ·next i hi=>
  split at h
  ·next hg=>
   injection h with h
   subst h;exact⟨hi,rfl,e_ ⟨hg,rfl⟩⟩
  ·next j want hg=>
   split at h
   ·next g hd=>
    injection h with h
    subst h;exact⟨hi,rfl,h_ ⟨j,want,g,hg,hd,rfl⟩⟩
   ·cases h
 ·cases h
theorem iw{st:St}{ops:Array Oper}{o:Oper}{io:IOp}(h:Rel B Xs G w0 st E a w)(hc:xC P ops o=some io){b:Bool}(hg:gdA st io.gd=some b):R_ o (yielded ops a.tmps)=b:=by
 obtain⟨_,_,hgd⟩:=oD hc;rcases hgd with⟨h1,h2⟩|⟨j,want,g,h1,h2,h3⟩
 ·rw[h2]at hg;simp only[gdA]at hg;injection hg with hg
  rw[← hg];simp[R_,h1]
 ·rw[h3]at hg;simp only[gdA]at hg;have hlen:=h.size;split at hg
  ·next b' hb=>
   injection hg with hg
   have hlt:g<st.fr.length:=by
    rcases a_X g st.fr.length with hlt|hge
    ·exact hlt
    ·rw[y_,a_v hge]at hb;cases hb
   have hlt':g<a.tmps.size:=by rw[hlen];exact hlt
   have hv:=h.fr g _ (n_ hlt);have e1:st.fr[g]= .c false [.raw (.bool b')]:=by rw[← hb,y_,n_ hlt];rfl
   rw[e1]at hv;have hv':a.tmps.getD g undef= .bool b':=hv.1;have ht:a.tmps[g]? =some (.bool b'):=by
    rw[Array.getElem?_eq_getElem hlt'];rw[Array.getD_eq_getD_getElem?,Array.getElem?_eq_getElem hlt']at hv';simpa using hv'
   simp[R_,h1,yielded,h2,ht,← hg]
  ·next vs hb=>
   injection hg with hg
   have hlt:g<st.fr.length:=by
    rcases a_X g st.fr.length with hlt|hge
    ·exact hlt
    ·rw[y_,a_v hge]at hb;cases hb
   have hlt':g<a.tmps.size:=by rw[hlen];exact hlt
   have hv:=h.fr g _ (n_ hlt);have e1:st.fr[g]= .c false [.raw (.tuple vs)]:=by rw[← hb,y_,n_ hlt];rfl
   rw[e1]at hv;have hv':a.tmps.getD g undef= .tuple vs:=hv.1;have ht:a.tmps[g]? =some (.tuple vs):=by
    rw[Array.getElem?_eq_getElem hlt'];rw[Array.getD_eq_getD_getElem?,Array.getElem?_eq_getElem hlt']at hv';simpa using hv'
   simp[R_,h1,yielded,h2,ht,← hg]
  ·cases hg
theorem vS{st:St}(h:Rel B Xs G w0 st E a w):∀(xs:List Operand),nP E st.owns w (xs.map fun x=>st.ev (opd x)) (xs.map a.eval)
 | []=>trivial
 |x::xs=>⟨dM h x,vS h xs⟩
theorem Rel.after{fr:List AV}{os os':List Own}{bs bs':List (List AC)}{E':Env}{a0:Act}{w':World}{d:Option Nat}{r:AV}{v:Value}(h:Rel B Xs G w0 ⟨fr,os,bs⟩ E a w)(h':Rel B Xs ⟨E,os,w⟩ w0 ⟨[],os',bs'⟩ E' a0 w')(hr:r.ok E' os' w' v):
 Rel B Xs G w0 (St.put ⟨fr,os',bs'⟩ d r) E' (a.put d v) w' where
 eb:=h'.eb
 ex:=h'.ex
 sim:=by rw[aA];exact h.sim.trans h'.sim
 defers:=by rw[jD];exact h.defers
 size:=by rw[lS,kL];exact h.size
 fr:=by
  rw[aA];exact qP (st:=⟨fr,os',bs'⟩) h.size (fun t y hy=>(h.fr t y hy).sim h'.sim) hr
 olen:=by rw[aA];exact h'.olen
 own:=by rw[aA];exact h'.own
 blen:=by rw[aU];exact h'.blen
 box:=by rw[aU,aA];exact h'.box
 nodup:=h'.nodup
 lin:=by rw[aA];exact h'.lin
 unf:=by rw[aA];exact h'.unf
 below:=h'.below
 base:=h'.base
theorem Ih{st:St}{op:Op}{own:Bool}{f:Nat}{xs:List Opd}{r:AV}{os':List Own}{bs':List (List AC)}{d:Option Nat}{ty:TypeId}{pos:String}{after:Array Edge}{guard:Option (Nat×Bool)}{K:Act→World→Prop}{Q:Exit→Act→World→Prop}
 (hc:bJ P own op=some (.call f xs)) (h:Rel B Xs G w0 st E a w) (hs:kJ P f (xs.map st.ev) st.owns st.boxes r os' bs')
 (hK:∀E' v w',Rel B Xs G w0 (St.put ⟨st.fr,os',bs'⟩ d r) E' (a.put d v) w'→K (a.put d v) w'):u_ P ⟨d,op,ty,pos,after,guard⟩ a w K Q:=by
 have :∃args ats fn,op= .call {callee:= .value (.func f),args:=args,argTypes:=ats}∧P.funcs[f]? =some fn∧(fn.name== "runtime.NumGoroutine" || fn.body.isNone)=false∧args.toList.map opd=xs:=by
  cases op with
  | call c=>
    obtain⟨callee,args,ats⟩:=c;simp only[bJ]at hc;split at hc
    ·next _ f'=>
     split at hc
     ·next fn hf=>
      split at hc
      ·cases hc
      ·next hn=>
       injection hc with hc
       injection hc with h1 h2
       subst h1;exact⟨args,ats,fn,rfl,hf,by cases hb:(fn.name== "runtime.NumGoroutine" || fn.body.isNone)<;>simp_all,h2⟩
     ·cases hc
    all_goals(repeat' split at hc)
    all_goals first|contradiction|(cases hc;done)
  | _=>
    simp only[bJ]at hc
    repeat' split at hc
    all_goals first|contradiction|(cases hc;done)
 obtain⟨args,ats,fn,rfl,hf,hn,rfl⟩:=this;refine rC hf hn ((hs B Xs G w0 st.fr E a w _ h (by rw[a_I];exact vS h args.toList)).mono ?_);rintro e w' ⟨v,E',rfl,h1,h2⟩;exact⟨v,rfl,hK E' v w' (h.after h1 h2)⟩
theorem yG{st:St}{op:Op}{own:Bool}{f:Nat}{xs:List Opd}{post:AV→List Own→List (List AC)→Prop}{d:Option Nat}{ty:TypeId}{pos:String}{after:Array Edge}{guard:Option (Nat×Bool)}{K:Act→World→Prop}{Q:Exit→Act→World→Prop}
 (hc:bJ P own op=some (.call f xs)) (h:Rel B Xs G w0 st E a w) (hs:kK P f (xs.map st.ev) st.owns st.boxes post)
 (hK:∀r os' bs',post r os' bs'→∀E' v w',Rel B Xs G w0 (St.put ⟨st.fr,os',bs'⟩ d r) E' (a.put d v) w'→K (a.put d v) w'):u_ P ⟨d,op,ty,pos,after,guard⟩ a w K Q:=by
 have :∃args ats fn,op= .call {callee:= .value (.func f),args:=args,argTypes:=ats}∧P.funcs[f]? =some fn∧(fn.name== "runtime.NumGoroutine" || fn.body.isNone)=false∧args.toList.map opd=xs:=by
  cases op with
  | call c=>
    obtain⟨callee,args,ats⟩:=c;simp only[bJ]at hc;split at hc
    ·next _ f'=>
     split at hc
     ·next fn hf=>
      split at hc
      ·cases hc
      ·next hn=>
       injection hc with hc
       injection hc with h1 h2
       subst h1;exact⟨args,ats,fn,rfl,hf,by cases hb:(fn.name== "runtime.NumGoroutine" || fn.body.isNone)<;>simp_all,h2⟩
     ·cases hc
    all_goals(repeat' split at hc)
    all_goals first|contradiction|(cases hc;done)
  | _=>
    simp only[bJ]at hc
    repeat' split at hc
    all_goals first|contradiction|(cases hc;done)
 obtain⟨args,ats,fn,rfl,hf,hn,rfl⟩:=this;refine rC hf hn ((hs B Xs G w0 st.fr E a w _ h (by rw[a_I];exact vS h args.toList)).mono ?_);rintro e w' ⟨v,E',r,os',bs',h0,rfl,h1,h2⟩;exact⟨v,rfl,hK r os' bs' h0 E' v w' (h.after h1 h2)⟩
theorem NV{o:Oper}{f:Nat}{vs:Array Value}{K:Act→World→Prop}{Q:Exit→Act→World→Prop}(hrun:(execOp a.eval o).run P w= .ok (.enter f vs) w)
 (h:Calls P f vs w fun e w'=>∃v,e= .returned v∧K (a.put o.dst v) w'):o.wp P a w K Q:=by
 unfold u_;rw[hrun,a_O];refine h.mono ?_;rintro e w' ⟨v,rfl,hK⟩;exact hK
theorem Dy{os:List Own}:∀{caps:List Nat} {ps:List (Nat×TypeId)},caps.map (fun k=>E.bm[k]?)=ps.map some→nP E os w (caps.map fun k=> .bptr k 0) (ps.map fun p=> .pointer (some ⟨p.1,0,none⟩))
 | [],[],_=>trivial
 | k::caps,p::ps,h=>by
   simp only[J_,List.cons.injEq]at h;exact⟨⟨p,h.1,rfl⟩,Dy h.2⟩
 | [],_::_,h=>by simp at h
 |_::_,[],h=>by simp at h
theorem Bd{os:List Own}{ys:List AV}{us:List Value}(h2:nP E os w ys us):∀{xs:List AV} {vs:List Value},nP E os w xs vs→nP E os w (xs++ys) (vs++us)
 | [],[],_=>h2
 |x::xs,v::vs,h=>⟨h.1,Bd h2 h.2⟩
 | [],_::_,h=>h.elim
 |_::_,[],h=>h.elim
theorem Ig{st:St}{op:Op}{own:Bool}{f:Nat}{caps:List Nat}{x:Opd}{xs:List Opd}{r:AV}{os':List Own}{bs':List (List AC)}{d:Option Nat}{ty:TypeId}{pos:String}{after:Array Edge}{guard:Option (Nat×Bool)}{K:Act→World→Prop}{Q:Exit→Act→World→Prop}
 (hc:bJ P own op=some (.callv x xs)) (h:Rel B Xs G w0 st E a w) (hx:st.ev x= .c false [.cl f caps]) (hf:AQ P f=true) (hs:kJ P f (xs.map st.ev++caps.map fun k=> .bptr k 0) st.owns st.boxes r os' bs')
 (hK:∀E' v w',Rel B Xs G w0 (St.put ⟨st.fr,os',bs'⟩ d r) E' (a.put d v) w'→K (a.put d v) w'):u_ P ⟨d,op,ty,pos,after,guard⟩ a w K Q:=by
 have:∃args ats t,op= .call {callee:= .value (.tmp t),args:=args,argTypes:=ats}∧x= .t t∧args.toList.map opd=xs:=by
  cases op with
  | call c=>
    obtain⟨callee,args,ats⟩:=c;simp only[bJ]at hc;split at hc
    case h_4 t=>
     injection hc with hc
     injection hc with h1 h2
     exact⟨args,ats,_,rfl,h1.symm,h2⟩
    all_goals(repeat' split at hc)
    all_goals first|contradiction|(cases hc;done)
  | _=>
    simp only[bJ]at hc
    repeat' split at hc
    all_goals first|contradiction|(cases hc;done)
 obtain⟨args,ats,t,rfl,rfl,rfl⟩:=this;have hv:=dM h (.tmp t);simp only[opd]at hv;rw[hx]at hv;obtain⟨ps,h1,h2⟩:=hv.1;simp only[Act.eval]at h2;unfold AQ at hf;split at hf
 ·next fn hfn=>
  simp only[Bool.not_eq_true',a_w]at hf;have hn1:¬fn.name= "runtime.NumGoroutine" :=by simpa using hf.1
  have hn2:¬fn.body=none:=by intro e0;have:=hf.2;rw[e0]at this;simp at this
  have hrun:(execOp a.eval ⟨d,.call {callee:= .value (.tmp t),args:=args,argTypes:=ats},ty,pos,after,guard⟩).run P w= .ok (.enter f (args.toList.map a.eval++ps.map fun p=>Value.pointer (some ⟨p.1,0,none⟩)).toArray) w:=by
   have e1:args.map a.eval=(args.toList.map a.eval).toArray:=by apply Array.ext';simp
   simp[execOp,resolve,Deferred.ofValue,invoke,callFunc,Act.eval,h2,hfn,hn1,hn2,e1]
  have hc2:=hs B Xs G w0 st.fr E a w _ h (Bd (Dy h1) (by rw[a_I];exact vS h args.toList));exact NV hrun (hc2.mono fun e w' ⟨v,E',he,h3,h4⟩=>⟨v,he,hK E' v w' (h.after h3 h4)⟩)
 ·cases hf
theorem zy{st st':St}{ops:Array Oper}{o:Oper}{io:IOp}{K:Act→World→Prop}{Q:Exit→Act→World→Prop}(h:Rel B Xs G w0 st E a w)(hc:xC P ops o=some io)(hs:Step P io st st')
 (hK:∀E' a' w',Rel B Xs G w0 st' E' a' w'→K a' w'):if R_ o (yielded ops a.tmps)then o.wp P a w K Q else K (a.put o.dst undef) w:=by
 obtain⟨h1,h2,_⟩:=oD hc;obtain⟨fr,os,bs⟩:=st;cases hs with
 | run hg hr=>
   rw[iw h hc hg,if_pos rfl];obtain⟨dst,op,ty,pos,after,guard⟩:=o;refine IW h1 h hr K (fun E' v w' hR=>hK E' _ w' ?_);rw[h2];exact hR
 | storeE hg hi hx ho hv hs hj hy hd=>
   rw[iw h hc hg,if_pos rfl];obtain⟨dst,op,ty,pos,after,guard⟩:=o;simp only at h2;rw[hi]at h1;refine D5 h1 h hx ho hv hs hj hy hd (fun E' w' hR=>hK E' _ w' ?_);rw[h2];exact hR
 | storeF hg hi hx ho hv hs hj hy hd=>
   rw[iw h hc hg,if_pos rfl];obtain⟨dst,op,ty,pos,after,guard⟩:=o;simp only at h2;rw[hi]at h1;refine DZ h1 h hx ho hv hs hj hy hd (fun E' w' hR=>hK E' _ w' ?_);rw[h2];exact hR
 | storeL hg hi hx ho hv hon hn hs hj hkm hl=>
   rw[iw h hc hg,if_pos rfl];obtain⟨dst,op,ty,pos,after,guard⟩:=o;simp only at h2;rw[hi]at h1;obtain⟨vm,hy,hm,hmv,hmn⟩:=yw hl;refine DY h1 h hx ho hv hon hn hs hj hkm hy hm hmv hmn (fun E' w' hR=>hK E' _ w' ?_);rw[h2];exact hR
 | callS hg hi hs=>
   rw[iw h hc hg,if_pos rfl];obtain⟨dst,op,ty,pos,after,guard⟩:=o;simp only at h2;rw[hi]at h1;refine Ih h1 h hs (fun E' v w' hR=>hK E' _ w' ?_);rw[h2];exact hR
 | lslR hg hi hx ho hv hs hlo hhi hb=>
   rw[iw h hc hg,if_pos rfl];obtain⟨dst,op,ty,pos,after,guard⟩:=o;simp only at h2;rw[hi]at h1;subst hv;refine Jj h1 h hx ho rfl hs hlo hhi hb (fun E' u hR=>hK E' _ w ?_);rw[h2];exact hR
 | brl hg hi hd hs hl hnd hk=>
   rw[iw h hc hg,if_pos rfl];obtain⟨dst,op,ty,pos,after,guard⟩:=o;simp only at h2;rw[hi]at h1;refine NG h1 h hd hs hl hnd hk (fun E' v w' hR=>hK E' _ w' ?_);rw[h2];exact hR
 | appL hg hi hx hy hkm ho hv hoe hos hm hmv hmn hol hl hn=>
   rw[iw h hc hg,if_pos rfl];obtain⟨dst,op,ty,pos,after,guard⟩:=o;simp only at h2;rw[hi]at h1;refine JG h1 h hx hy hkm ho hv hoe hos hm hmv hmn hol hl hn (fun E' v w' hR=>hK E' _ w' ?_);rw[h2];exact hR
 | appLN hg hi hx hy hm hmv hmn hl hn=>
   rw[iw h hc hg,if_pos rfl];obtain⟨dst,op,ty,pos,after,guard⟩:=o;simp only at h2;rw[hi]at h1;refine Il h1 h hx hy hm hmv hmn hl hn (fun E' v w' hR=>hK E' _ w' ?_);rw[h2];exact hR
 | callV hg hi hx hf hs=>
   rw[iw h hc hg,if_pos rfl];obtain⟨dst,op,ty,pos,after,guard⟩:=o;simp only at h2;rw[hi]at h1;refine Ig h1 h hx hf hs (fun E' v w' hR=>hK E' _ w' ?_);rw[h2];exact hR
 | skip hg=>
   rw[iw h hc hg,if_neg (by simp)];refine hK E _ w ?_;rw[h2];exact h.lK (U_ _ _) ⟨rfl,trivial⟩
theorem wJ{ops:Array Oper}{K:St→Prop}{Q:Exit→Act→World→Prop}(hQ:∀st' E' a' w',Rel B Xs G w0 st' E' a' w'→K st'→Q .normal a' w'):
 ∀(l:List Oper) (is:List IOp) (st:St) (E:Env) (a:Act) (w:World),jZ P ops l=some is→Rel B Xs G w0 st E a w→sw P K is st→wpList P ops Q l a w
 | [],is,st,E,a,w,hc,h,hs=>by
   injection hc with hc
   subst hc;exact hQ st E a w h hs
 | o ::l,is,st,E,a,w,hc,h,hs=>by
   rw[jZ]at hc;split at hc
   ·next i is' h1 h2=>
    injection hc with hc
    subst hc;have go:(if R_ o (yielded ops a.tmps)then o.wp P a w (wpList P ops Q l) Q else wpList P ops Q l (a.put o.dst undef) w)→wpList P ops Q (o::l) a w:=by
     intro this;unfold wpList;split
     ·next hw=>rw[if_pos hw]at this;exact e_ this
     ·next hw=>rw[if_neg hw]at this;exact this
    rcases JV hs with⟨st',h3,h4⟩|⟨f,xs,post,hg,hi,hc,h4⟩
    ·exact go (zy (Q:=Q) (K:=wpList P ops Q l) h h1 h3 (fun E' a' w' hR=>wJ hQ l is' st' E' a' w' h2 hR h4))
    ·refine go ?_;obtain⟨c1,c2,_⟩:=oD h1;rw[iw h h1 hg,if_pos rfl];obtain⟨dst,op,ty,pos,after,guard⟩:=o;simp only at c2;rw[hi]at c1;refine yG c1 h hc (fun r os' bs' h0 E' v w' hR=> ?_);refine wJ hQ l is' (St.put ⟨st.fr,os',bs'⟩ i.d r) E' _ w' h2 ?_ (h4 r os' bs' h0);rw[c2];exact hR
   ·cases hc
end
end Go.Proofs.Ytagaefgglphkgaa
