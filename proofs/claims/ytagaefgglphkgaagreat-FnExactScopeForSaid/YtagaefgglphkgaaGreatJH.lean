/-
  Texts joined: RowC RowF Copy LawO CopyF Tp.
-/
import Derived.Test.YtagaefgglphkgaaGreatJE
import Derived.Test.YtagaefgglphkgaaGreatJA
import Derived.Test.YtagaefgglphkgaaGreatJG
set_option maxHeartbeats 8000000
set_option maxRecDepth 20000
set_option linter.unusedSimpArgs false
set_option linter.unusedVariables false
namespace Go.Proofs.YtagaefgglphkgaaGreat
open Go.RowKit
section
open Value renaming oneCell'→a_,ownBlock→B_
open Bool renaming false_eq_true→b_
open List renaming flatMap_cons→c_,flatMap_nil→d_,append_nil→e_,length_map→l_,take_append_getElem→m_,length_cons→n_,length_nil→o_,eq_nil_of_length_eq_zero→p_,length_append→q_,getElem_mem→s_,length_take→t_,take_length→x_,map_cons→E_,getElem?_cons_zero→G_,mem_map_of_mem→I_,map_nil→K_,set_cons_zero→N_,map_toArray→Q_,cons_append→R_,nil_append→T_,nodup_nil→W_,mem_map→Z_
open Nat renaming reduceLeDiff→f_,reduceEqDiff→g_,reduceAdd→h_,reduceSub→i_,le_refl→k_,zero_le→A_,le_succ→H_,le_trans→J_,succ_pos→M_,one_pos→P_,lt_succ_self→S_,mul_le_mul→U_
open Below renaming refl→j_,alloc→r_,drew→u_,setCell→F_,heap_setCell→L_
open Builtin renaming append_→v_,nextslicecap→w_,firstCells→z_,lenOf→D_
open Region renaming wanted→y_
open Or renaming inl→C_
attribute [local irreducible] sw sd sn
theorem dQ.none{w:World}{base:Nat}{e:TypeId}{s:Nat}:dQ w base e s [] [] (.slice none 0 0):=⟨[],World.ownsRow_nil w base e s,⟨rfl,rfl⟩,aV.nil,fun g hg=>by simp[B_]at hg⟩
theorem Jp{P:Program}{w:World}(k:EK P)(ty:TypeId)(ad:Addr)(l:List D)(vx:Value)(hsrc:Src w l [] vx)(h1:∀d∈l,d.one)(hds:∀d∈l,d.sz=k.s)(hn:l.length≤4194304):
 ∃v' w',(v_ #[k.t,k.t] ty #[.slice (some ad) 0 0,vx]).run P w= .ok v' w'∧(∃f,Sl w' l f v'∧∀b∈f,w.heap.size≤b)∧Below w.heap.size w w':=by
 obtain⟨i,z,hi,hz,hsz,hby,hzs⟩:=k.info;by_cases h0:l= []
 ·subst h0;obtain⟨A,c,cs,rfl,hr,hcs⟩:=hsrc;refine⟨.slice (some ad) 0 0,w, ?_,⟨[], ?_,by simp⟩,j_ _ _⟩
  ·cases A<;>simp[v_,run_underlying k.ht,sizeOf,typeInfo,hi,D_,z_,loadCells,loadCellsFrom,storeCells]
  ·unfold Sl;rw[R];exact⟨some ad,0,by simp,by simp,by simp,C_ ⟨rfl,rfl⟩⟩
 ·obtain⟨v',w',hrun,h2,h3,_⟩:=sF (P:=P) (w:=w) k ty w.heap.size (.slice none 0 0) [] [] dQ.none l [] vx hsrc h1 hds lq (by simp) (by simpa using hn) (k_ _);refine⟨v',w', ?_,⟨_,h2.sl,fun b hb=>(h2.free.2 b hb).1⟩,iy (j_ _ _) h3 (k_ _) (fun g hg=>by simp[B_]at hg)⟩;obtain⟨A,c,cs,rfl,hr,hcs⟩:=hsrc;rw[← hrun];have hm:l.length≠0:=fun e=>h0 (p_ e)
  have hbytes:w_ l.length 0*i.bytes≤281474976710656:=growslice_fits (by omega) (J_ (U_ hn hby) (by decide));have h63:¬(9223372036854775807<(l.length:Int)):=by omega
  have h48:¬(281474976710656<w_ l.length 0*i.bytes):=by omega
  simp[v_,run_underlying k.ht,sizeOf,typeInfo,hi,D_,z_,loadCells,loadCellsFrom,hm,h63,h48]
theorem wY{P:Program}{w:World}{ops:Array Oper}{o:Oper}{a:Act}{K:Act→World→Prop}{Q:Exit→Act→World→Prop}{E:Prop}(hgd:o.guard=none)(k:EK P)(s x:Operand)
 (ho:o.op= .call {callee:= .builtin .append,args:= #[s,x],argTypes:= #[k.t,k.t]})
 (ad:Addr) (hs:a.eval s= .slice (some ad) 0 0) (l:List D) (vx:Value) (hx:a.eval x=vx) (hsrc:Src w l [] vx) (h1:∀d∈l,d.one) (hds:∀d∈l,d.sz=k.s) (hn:l.length≤4194304)
 (h:∀v' w',(∃f,Sl w' l f v'∧∀b∈f,w.heap.size≤b)→Below w.heap.size w w'→K (a.put o.dst v') w'):
 if y_ o (yielded ops a.tmps)=true then Oper.wp P o a w K Q else E:=by
 have hw:y_ o (yielded ops a.tmps)=true:=by simp[y_,hgd]
 rw[if_pos hw];obtain⟨v',w',hrun,h2,h3⟩:=Jp (P:=P) (w:=w) k o.type ad l vx hsrc h1 hds hn;unfold Oper.wp execOp;simp only[ho,resolve,invoke,builtin,Sem.run_bind,Sem.run_pure,Result.andThen_ok,Q_,E_,K_,hs,hx,hrun];exact h v' w' h2 h3
theorem YX{w w1 w2:World}{l:List D}{v:Value}{B:Nat}(h:∃f,Sl w l f v∧∀b∈f,B≤b)(h1:Below w.heap.size w w1)(h2:Below w1.heap.size w1 w2):∃f,Sl w2 l f v∧∀b∈f,B≤b:=by
 obtain⟨f,g1,g2⟩:=h;exact⟨f,(g1.below h1).below h2,g2⟩
theorem YZ{w:World}{l:List D}{v:Value}{B:Nat}(h:∃f,Sl w l f v∧∀b∈f,B≤b):∃A n c,v= .slice A n c:=by
 obtain⟨f,g1,_⟩:=h;obtain⟨A,c,e,_,_⟩:=g1.form;exact⟨A,_,c,e⟩
theorem Qd{w:World}{g:Nat}{e:TypeId}{xs:List Value}(h:Row w g e xs)(i:Nat):w.frozen? ⟨g,i,none⟩=false:=by
 unfold Row at h;simp[World.frozen?,h]
theorem U5{w:World}{l:List D}{v:Value}{B B2:Nat}(h:∃f,Sl w l f v∧∀b∈f,B≤b)(hb:B2≤B):∃f,Sl w l f v∧∀b∈f,B2≤b:=by
 obtain⟨f,g1,g2⟩:=h;exact⟨f,g1,fun b hm=>J_ hb (g2 b hm)⟩
theorem ZQ{w:World}{l:List D}{v:Value}{B:Nat}(h:∃f,Sl w l f v∧∀b∈f,B+2≤b)(i j:Nat)(u u':Value):∃f,Sl ((w.setCell ⟨B+1,i,none⟩ u).setCell ⟨B+1,j,none⟩ u') l f v∧∀b∈f,B≤b:=by
 obtain⟨f,g1,g2⟩:=h;have hno:B+1∉f:=fun hm=>by have:=g2 _ hm;omega
 exact⟨f,R.setCell (R.setCell g1 (p:=⟨B+1,i,none⟩) hno u) (p:=⟨B+1,j,none⟩) hno u',fun b hm=>by have:=g2 b hm;omega⟩
theorem LX{l:List Int}:∀d∈l.map li,d.one:=fun d h=>by obtain⟨x,_,rfl⟩:=Z_.1 h;rfl
theorem QM{l:List Int}:∀d∈l.map li,d.sz=1:=fun d h=>by obtain⟨x,_,rfl⟩:=Z_.1 h;rfl
theorem Q5(l:List Int){w:World}:∀(f:List Nat) (cs:List Value),Rs w (l.map li) f cs→f= []:=fun f cs h=>TL l w f cs h
theorem QZ(l:List GOrigin){w:World}:∀(f:List Nat) (cs:List Value),Rs w (l.map GOrigin.toD) f cs→f= []:=fun f cs h=>GOrigin.QY l w f cs h
def RN(xs:List Int)(ys:List GOrigin)(w:World)(e:Ending)(w':World):Prop:=∃v0 v1,e= .returned (.agg #[v0,v1])∧(∃f,Sl w' (xs.map li) f v0∧∀b∈f,w.heap.size≤b)∧(∃f,Sl w' (ys.map GOrigin.toD) f v1∧∀b∈f,w.heap.size≤b)∧Below w.heap.size w w'
theorem J6(xs:List Int)(ys:List GOrigin)(w:World)(f0 f1:List Nat)(v0 v1:Value)(h0:Sl w (xs.map li) f0 v0)(h1:Sl w (ys.map GOrigin.toD) f1 v1)(hn0:xs.length≤4194304)(hn1:ys.length≤4194304):
 Calls Tryz.prog 80 #[.agg #[v0,v1]] w (RN xs ys w):=by
 obtain⟨A0,c0,e0,_,_⟩:=h0.au;obtain⟨A1,c1,e1,_,_⟩:=h1.au;clear e0 e1;have tok1:True:=trivial;have tok2:True:=trivial
 go_enter Tryz.func80,Tryz.ntmps80
 go_wp2_with fail
 go_region_held3 (fun w'=>w'.cell? ⟨w.heap.size,0,none⟩=some v0∧w'.cell? ⟨w.heap.size,1,none⟩=some v1) (go_keep)
  (first
  |(have _t:=tok1;refine wY rfl WV (.tmp 3) (.tmp 5) rfl _ (by rfl) (xs.map li) _ (by rfl) (Src.of_flat (h0.below ((by repeat' (first|exact j_ _ _|exact k_ _|exact hlA|exact hlB|exact hlA.size|exact hlB.size|apply u_|apply r_|(simp;done)|(simp;omega)):Below w.heap.size w _))) (Q5 _)) LX QM (by simp;try omega) ?_;intro uA wA huA hcA;obtain⟨XA,nA,cA,rfl⟩:=YZ huA;have huA:=U5 (B2:=w.heap.size+2) huA (by first|(simp;done)|(simp;omega)|(have:=hbB.size;simp at this⊢;omega));have hbA:Below ((w.alloc (.cells #[v0,v1] 95)).alloc (.cells #[.slice none 0 0,.slice none 0 0] 95)).heap.size ((w.alloc (.cells #[v0,v1] 95)).alloc (.cells #[.slice none 0 0,.slice none 0 0] 95)) wA:=((by repeat' (first|exact j_ _ _|exact k_ _|exact hbA|exact hbB|exact hbA.size|exact hbB.size|apply u_|apply r_|(simp;done)|(simp;omega))):Below _ _ _).trans (hcA.mono (by first|exact k_ _|exact hbA.size|exact hbB.size|(simp;done)|(simp;omega)|(have:=hbB.size;simp at this⊢;omega)));(first|have huB:=YX huB (by repeat' (first|exact j_ _ _|exact k_ _|exact j_ _ _|exact j_ _ _|exact j_ _ _.size|exact j_ _ _.size|apply u_|apply r_|(simp;done)|(simp;omega))) hcA|skip);obtain⟨raA,rbA,hzA,hlA⟩:=yT hbA;have kaA:=raA.cell;have kbA:=rbA.cell;have fzA:=Qd rbA;clear tok1 hcA)
  |(have _t:=tok2;refine wY rfl Iz (.tmp 7) (.tmp 9) rfl _ (by rfl) (ys.map GOrigin.toD) _ (by rfl) (Src.of_flat (h1.below ((by repeat' (first|exact j_ _ _|exact k_ _|exact hlA|exact hlB|exact hlA.size|exact hlB.size|apply u_|apply r_|(simp;done)|(simp;omega)):Below w.heap.size w _))) (QZ _)) GOrigin.BF GOrigin.szs (by simp;try omega) ?_;intro uB wB huB hcB;obtain⟨XB,nB,cB,rfl⟩:=YZ huB;have huB:=U5 (B2:=w.heap.size+2) huB (by first|(simp;done)|(simp;omega)|(have:=hbA.size;simp at this⊢;omega));have hbB:Below ((w.alloc (.cells #[v0,v1] 95)).alloc (.cells #[.slice none 0 0,.slice none 0 0] 95)).heap.size ((w.alloc (.cells #[v0,v1] 95)).alloc (.cells #[.slice none 0 0,.slice none 0 0] 95)) wB:=((by repeat' (first|exact j_ _ _|exact k_ _|exact hbA|exact hbB|exact hbA.size|exact hbB.size|apply u_|apply r_|(simp;done)|(simp;omega))):Below _ _ _).trans (hcB.mono (by first|exact k_ _|exact hbA.size|exact hbB.size|(simp;done)|(simp;omega)|(have:=hbA.size;simp at this⊢;omega)));(first|have huA:=YX huA (by repeat' (first|exact j_ _ _|exact k_ _|exact j_ _ _|exact j_ _ _|exact j_ _ _.size|exact j_ _ _.size|apply u_|apply r_|(simp;done)|(simp;omega))) hcB|skip);obtain⟨raB,rbB,hzB,hlB⟩:=yT hbB;have kaB:=raB.cell;have kbB:=rbB.cell;have fzB:=Qd rbB;clear tok2 hcB))
 all_goals
  go_wp2_with fail
  refine bodyPost_ret (v:= .agg #[.slice XA nA cA,.slice XB nB cB]) (by first|(simp[results,Tryz.results80,go_sem,kbB];done)|(simp[results,Tryz.results80,go_sem,kbA];done)) rfl ?_;exact⟨_,_,rfl,ZQ huA _ _ _ _,ZQ huB _ _ _ _,F_ (F_ (by first|exact hlA|exact hlB) (H_ _) _) (H_ _) _⟩
def ZB(w:World)(g:Nat)(e:TypeId):Prop:=Row w g e []
theorem ZB.here{w:World}{g:Nat}{e e':TypeId}(he:e=e')(h:g=w.heap.size):ZB (w.alloc (.cells #[] e)) g e':=by subst h he;exact Row.new w e #[]
theorem ZB.next{w:World}{g:Nat}{e:TypeId}{o:Obj}(h:ZB w g e):ZB (w.alloc o) g e:=Row.below h ((j_ _ _).alloc (k_ _) _)
theorem ZB.drew{w:World}{g:Nat}{e:TypeId}(h:ZB w g e):ZB w.drew g e:=h
theorem ZB.far{w w':World}{g n:Nat}{e:TypeId}(hb:Below n w w')(hg:g<n)(h:ZB w g e):ZB w' g e:=(hb.block g hg).trans h
def zN(w:World)(base:Nat)(e:TypeId)(s:Nat)(l:List D)(v:Value):Prop:=∃cs,aK w base e s v l.length cs∧Rs w l [] cs
theorem zN.form{w:World}{base e s:Nat}{l:List D}{v:Value}(h:zN w base e s l v):∃A n c,v= .slice A n c:=by
 obtain⟨cs,h1,_⟩:=h;obtain⟨A,c,h2⟩:=lW h1;exact⟨A,_,c,h2⟩
theorem zN.keep{w w1 w2:World}{base e s:Nat}{l:List D}{v:Value}(h:zN w base e s l v)(h1:Below w.heap.size w w1)(h2:Below w1.heap.size w1 w2):zN w2 base e s l v:=by
 obtain⟨cs,g1,g2⟩:=h;have g3:=kM g1 h1;exact⟨cs,kM g3 h2,(g2.below h1).below h2⟩
theorem zN.set{w:World}{B e s:Nat}{l:List D}{v:Value}(h:zN w (B+2) e s l v)(i j:Nat)(u u':Value):zN ((w.setCell ⟨B+1,i,none⟩ u).setCell ⟨B+1,j,none⟩ u') B e s l v:=by
 obtain⟨cs,g1,g2⟩:=h;refine⟨cs,lV (g1.same fun g hg=> ?_) (by omega),Rs.setCell (Rs.setCell g2 (p:=⟨B+1,i,none⟩) (by simp) u) (p:=⟨B+1,j,none⟩) (by simp) u'⟩;have h2:=(g1.lt g hg).1;have hne:g≠B+1:=by omega
 exact(L_ _ _ _ _ hne).trans (L_ _ _ _ _ hne)
theorem Jq{P:Program}{w:World}(k:EK P)(ty:TypeId)(ad:Addr)(base:Nat)(hz:ad=⟨ad.block,0,none⟩)(hZ:ZB w ad.block k.e)(hb:base≤ad.block)(l:List D)(vx:Value)(hsrc:Src w l [] vx)(h1:∀d∈l,d.one)(hds:∀d∈l,d.sz=k.s)(hn:l.length≤4194304):
 ∃v' w',(v_ #[k.t,k.t] ty #[.slice (some ad) 0 0,vx]).run P w= .ok v' w'∧zN w' base k.e k.s l v'∧Below w.heap.size w w':=by
 obtain⟨i,z,hi,hz',hsz,hby,hzs⟩:=k.info;by_cases h0:l= []
 ·subst h0;obtain⟨A,c,cs,rfl,hr,hcs⟩:=hsrc;refine⟨.slice (some ad) 0 0,w, ?_,⟨[],⟨by simp,Or.inr ⟨ad.block,0,0, #[],by rw[← hz];rfl,hb,hZ,by simp,by simp,by simp,by simp⟩⟩,⟨rfl,rfl⟩⟩,j_ _ _⟩;cases A<;>simp[v_,run_underlying k.ht,sizeOf,typeInfo,hi,D_,z_,loadCells,loadCellsFrom,storeCells]
 ·obtain⟨v',w',hrun,h2,h3,_⟩:=sF (P:=P) (w:=w) k ty w.heap.size (.slice none 0 0) [] [] dQ.none l [] vx hsrc h1 hds lq (by simp) (by simpa using hn) (k_ _);have hlt:ad.block<w.heap.size:=(Array.getElem?_eq_some_iff.1 hZ).1;refine⟨v',w', ?_, ?_,iy (j_ _ _) h3 (k_ _) (fun g hg=>by simp[B_]at hg)⟩
  ·obtain⟨A,c,cs,rfl,hr,hcs⟩:=hsrc;rw[← hrun];have hm:l.length≠0:=fun e=>h0 (p_ e)
   have hbytes:w_ l.length 0*i.bytes≤281474976710656:=growslice_fits (by omega) (J_ (U_ hn hby) (by decide));have h63:¬(9223372036854775807<(l.length:Int)):=by omega
   have h48:¬(281474976710656<w_ l.length 0*i.bytes):=by omega
   simp[v_,run_underlying k.ht,sizeOf,typeInfo,hi,D_,z_,loadCells,loadCellsFrom,hm,h63,h48]
  ·obtain⟨cs,o1,o2,o3,o4⟩:=h2;exact⟨cs,lV (aK.of o1) (by omega),by simpa using o2⟩
theorem wZ{P:Program}{w:World}{ops:Array Oper}{o:Oper}{a:Act}{K:Act→World→Prop}{Q:Exit→Act→World→Prop}{E:Prop}(hgd:o.guard=none)(k:EK P)(s x:Operand)
 (ho:o.op= .call {callee:= .builtin .append,args:= #[s,x],argTypes:= #[k.t,k.t]})
 (ad:Addr) (base:Nat) (hs:a.eval s= .slice (some ad) 0 0) (hz:ad=⟨ad.block,0,none⟩) (l:List D) (vx:Value) (hx:a.eval x=vx) (hZ:ZB w ad.block k.e) (hb:base≤ad.block) (hsrc:Src w l [] vx) (h1:∀d∈l,d.one) (hds:∀d∈l,d.sz=k.s) (hn:l.length≤4194304)
 (h:∀v' w',zN w' base k.e k.s l v'→Below w.heap.size w w'→K (a.put o.dst v') w'):
 if y_ o (yielded ops a.tmps)=true then Oper.wp P o a w K Q else E:=by
 have hw:y_ o (yielded ops a.tmps)=true:=by simp[y_,hgd]
 rw[if_pos hw];obtain⟨v',w',hrun,h2,h3⟩:=Jq (P:=P) (w:=w) k o.type ad base hz hZ hb l vx hsrc h1 hds hn;unfold Oper.wp execOp;simp only[ho,resolve,invoke,builtin,Sem.run_bind,Sem.run_pure,Result.andThen_ok,Q_,E_,K_,hs,hx,hrun];exact h v' w' h2 h3
theorem Y0{w:World}{base e s n:Nat}{v:Value}{cs:List Value}(h:aK w base e s v n cs):∃A n c,v=Value.slice A n c:=by
 obtain⟨A,c,h2⟩:=lW h;exact⟨A,n,c,h2⟩
def XK(xs:List Int)(ys:List GOrigin)(e0 e1:TypeId)(w:World)(e:Ending)(w':World):Prop:=∃v0 v1,e= .returned (.agg #[v0,v1])∧zN w' w.heap.size e0 1 (xs.map li) v0∧zN w' w.heap.size e1 2 (ys.map GOrigin.toD) v1∧Below w.heap.size w w'
theorem TS(xs:List Int)(ys:List GOrigin)(w:World)(f0 f1:List Nat)(v0 v1:Value)(h0:Sl w (xs.map li) f0 v0)(h1:Sl w (ys.map GOrigin.toD) f1 v1)(hn0:xs.length≤4194304)(hn1:ys.length≤4194304):
 Calls Tryz.prog 71 #[.agg #[v0,v1]] w (XK xs ys 3 119 w):=by
 obtain⟨A0,c0,e0,_,_⟩:=h0.au;obtain⟨A1,c1,e1,_,_⟩:=h1.au;clear e0 e1;have tok1:True:=trivial;have tok2:True:=trivial
 go_enter Tryz.func71,Tryz.ntmps71
 go_wp2_with fail
 go_region_held3 (fun w'=>w'.cell? ⟨w.heap.size,0,none⟩=some v0∧w'.cell? ⟨w.heap.size,1,none⟩=some v1) (go_keep)
  (first
  |(have _t:=tok1;refine wZ rfl WV (.tmp 3) (.tmp 5) rfl _ (w.heap.size+2) (by rfl) (by rfl) (xs.map li) _ (by rfl) (by repeat' (first|((with_reducible refine ZB.here ?_ ?_);(rfl);(first|rfl|(simp;done)|(simp;omega)))|(with_reducible refine ZB.drew ?_)|(with_reducible refine ZB.next ?_)|((with_reducible refine ZB.far hcB ?_ ?_);(simp)))) (by first|(simp;done)|(simp;omega)|(have:=hbB.size;simp at this⊢;omega)) (Src.of_flat (h0.below ((by repeat' (first|exact j_ _ _|exact k_ _|exact hlA|exact hlB|exact hlA.size|exact hlB.size|apply u_|apply r_|(simp;done)|(simp;omega)):Below w.heap.size w _))) (Q5 _)) LX QM (by simp;try omega) ?_;intro uA wA huA hcA;obtain⟨XA,nA,cA,rfl⟩:=huA.form;have hbA:Below ((w.alloc (.cells #[v0,v1] 95)).alloc (.cells #[.slice none 0 0,.slice none 0 0] 95)).heap.size ((w.alloc (.cells #[v0,v1] 95)).alloc (.cells #[.slice none 0 0,.slice none 0 0] 95)) wA:=((by repeat' (first|exact j_ _ _|exact k_ _|exact hbA|exact hbB|exact hbA.size|exact hbB.size|apply u_|apply r_|(simp;done)|(simp;omega))):Below _ _ _).trans (hcA.mono (by first|exact k_ _|exact hbA.size|exact hbB.size|(simp;done)|(simp;omega)|(have:=hbB.size;simp at this⊢;omega)));(first|have huB:=huB.keep (by repeat' (first|exact j_ _ _|exact k_ _|exact j_ _ _|exact j_ _ _|exact j_ _ _.size|exact j_ _ _.size|apply u_|apply r_|(simp;done)|(simp;omega))) hcA|skip);obtain⟨raA,rbA,hzA,hlA⟩:=yT hbA;have kaA:=raA.cell;have kbA:=rbA.cell;have fzA:=Qd rbA;clear tok1)
  |(have _t:=tok2;refine wZ rfl Iz (.tmp 7) (.tmp 9) rfl _ (w.heap.size+2) (by rfl) (by rfl) (ys.map GOrigin.toD) _ (by rfl) (by repeat' (first|((with_reducible refine ZB.here ?_ ?_);(rfl);(first|rfl|(simp;done)|(simp;omega)))|(with_reducible refine ZB.drew ?_)|(with_reducible refine ZB.next ?_)|((with_reducible refine ZB.far hcA ?_ ?_);(simp)))) (by first|(simp;done)|(simp;omega)|(have:=hbA.size;simp at this⊢;omega)) (Src.of_flat (h1.below ((by repeat' (first|exact j_ _ _|exact k_ _|exact hlA|exact hlB|exact hlA.size|exact hlB.size|apply u_|apply r_|(simp;done)|(simp;omega)):Below w.heap.size w _))) (QZ _)) GOrigin.BF GOrigin.szs (by simp;try omega) ?_;intro uB wB huB hcB;obtain⟨XB,nB,cB,rfl⟩:=huB.form;have hbB:Below ((w.alloc (.cells #[v0,v1] 95)).alloc (.cells #[.slice none 0 0,.slice none 0 0] 95)).heap.size ((w.alloc (.cells #[v0,v1] 95)).alloc (.cells #[.slice none 0 0,.slice none 0 0] 95)) wB:=((by repeat' (first|exact j_ _ _|exact k_ _|exact hbA|exact hbB|exact hbA.size|exact hbB.size|apply u_|apply r_|(simp;done)|(simp;omega))):Below _ _ _).trans (hcB.mono (by first|exact k_ _|exact hbA.size|exact hbB.size|(simp;done)|(simp;omega)|(have:=hbA.size;simp at this⊢;omega)));(first|have huA:=huA.keep (by repeat' (first|exact j_ _ _|exact k_ _|exact j_ _ _|exact j_ _ _|exact j_ _ _.size|exact j_ _ _.size|apply u_|apply r_|(simp;done)|(simp;omega))) hcB|skip);obtain⟨raB,rbB,hzB,hlB⟩:=yT hbB;have kaB:=raB.cell;have kbB:=rbB.cell;have fzB:=Qd rbB;clear tok2))
 all_goals
  go_wp2_with fail
  refine bodyPost_ret (v:= .agg #[.slice XA nA cA,.slice XB nB cB]) (by first|(simp[results,Tryz.results71,go_sem,kbB];done)|(simp[results,Tryz.results71,go_sem,kbA];done)) rfl ?_;exact⟨_,_,rfl,huA.set _ _ _ _,huB.set _ _ _ _,F_ (F_ (by first|exact hlA|exact hlB) (H_ _) _) (H_ _) _⟩
theorem zN.apart{w:World}{base e e' s s' n n':Nat}{u v:Value}{cs cs':List Value}(he:e≠e')(h:aK w base e s u n cs)(h':aK w base e' s' v n' cs'):∀g g',u.ownBlock=some g→v.ownBlock=some g'→g≠g':=by
 rintro g g' hg hg' rfl;rcases h.2 with⟨rfl,_⟩|⟨k,z,cap,cur,rfl,_,hh,_⟩
 ·cases hg
 ·rcases h'.2 with⟨rfl,_⟩|⟨k',z',cap',cur',rfl,_,hh',_⟩
  ·cases hg'
  ·simp[B_]at hg hg';subst hg hg';rw[hh]at hh';simp at hh';exact he hh'.2
theorem Zz(l:List GOrigin):El 2 (l.map GOrigin.toD):=fun d hd=>⟨GOrigin.BF d hd,GOrigin.szs d hd⟩
theorem TR(x:GRow)(h0:x.cells.length≤4194304)(h1:x.src.length≤4194304):dX Tryz.prog 71 [x.toD] (.c true [.own 0 0,.own 1 0]) [⟨x.cells.map li,3,1,0,⟨true,true⟩⟩,⟨x.src.map GOrigin.toD,119,2,0,⟨true,true⟩⟩]:=fun w vs hr _=>by
 obtain⟨v,rfl,g1⟩:=U6 hr;obtain⟨fp,cs,rfl,g2⟩:=U7 (GRow.aH x) g1;obtain⟨v0,v1,f0,f1,rfl,rfl,g3,g4⟩:=GRow.opened.1 g2;refine(TS x.cells x.src w f0 f1 v0 v1 g3 g4 h0 h1).mono ?_;rintro e w' ⟨u0,u1,rfl,⟨c0,p1,p2⟩,⟨c1,q1,q2⟩,hb⟩;refine⟨_,[(u0,[]),(u1,[])],rfl,⟨rfl,fun k o p hk hp=> ?_, ?_,⟨fun k o p hk hp _=> ?_,fun j k o o' p p' hjk h1 h2 h3 h4 _ _ b hb=> ?_⟩,fun k o p hk hp _ b hb=> ?_⟩,⟨[u0,u1],rfl,⟨Y0 p1,_,_,rfl,rfl,k_ _,fun _=>rfl⟩,⟨Y0 q1,_,_,rfl,rfl,k_ _,fun _=>rfl⟩,trivial⟩,hb⟩
 ·have hf:∀b∈p.2,False:=fun b hm=>by
   match k,hp with
   |0,hp=>simp at hp;subst hp;simp at hm
   |1,hp=>simp at hp;subst hp;simp at hm
   |k+2,hp=>simp at hp
  match k,hk,hp with
  | 0,hk,hp=>
    simp at hk hp;subst hk hp;exact⟨c0,p1,p2,iI _,fun b hm=>(hf b hm).elim⟩
  | 1,hk,hp=>
    simp at hk hp;subst hk hp;exact⟨c1,q1,q2,Zz _,fun b hm=>(hf b hm).elim⟩
  |k+2,hk,hp=>simp at hk
 ·have h9:=zN.apart (by decide) p1 q1;simp only[c_,d_,e_];cases h5:u0.ownBlock<;>cases h6:u1.ownBlock<;>simp[Option.toList]
  exact h9 _ _ h5 h6
 ·match k,hp with
  |0,hp=>simp at hp;subst hp;exact W_
  |1,hp=>simp at hp;subst hp;exact W_
  |k+2,hp=>simp at hp
 ·match j,h3 with
  |0,h3=>simp at h3;subst h3;simp at hb
  |1,h3=>simp at h3;subst h3;simp at hb
  |k+2,h3=>simp at h3
 ·match k,hp with
  |0,hp=>simp at hp;subst hp;simp at hb
  |1,hp=>simp at hp;subst hp;simp at hb
  |k+2,hp=>simp at hp
theorem dh{α:Type}(g:α→D)(l:List α){k:Nat}(h:k<l.length):(l.map g)[k]? =some (g l[k]):=by rw[List.getElem?_map,List.getElem?_eq_getElem h];rfl
theorem pkV :type_of% (aaA @dh (aaA @GVal.aF (aaA @GVal.aA (aaA @GVal.aH (aaA @GVal.el (aaA @GRow.aF (aaA @GRow.aA (aaA @GRow.aH (aaA @GRow.el (aaA @GRead.aF (aaA @GRead.aA (aaA @GRead.aH (@GRead.el))))))))))))):=aaA @dh (aaA @GVal.aF (aaA @GVal.aA (aaA @GVal.aH (aaA @GVal.el (aaA @GRow.aF (aaA @GRow.aA (aaA @GRow.aH (aaA @GRow.el (aaA @GRead.aF (aaA @GRead.aA (aaA @GRead.aH (@GRead.el))))))))))))
theorem OB{P:Program}{f:Nat}{x:GRow}(h:∀(w:World) (f0 f1:List Nat) (v0 v1:Value),Sl w (x.cells.map li) f0 v0→Sl w (x.src.map GOrigin.toD) f1 v1→Calls P f #[.agg #[v0,v1]] w (RN x.cells x.src w)):
 aB P f [x.toD] (.c true (x.toD.acs true)):=fun w vs hr _=>by
 obtain⟨v,rfl,h1⟩:=U6 hr;obtain⟨fp,cs,rfl,h2⟩:=U7 (GRow.aH x) h1;obtain⟨v0,v1,f0,f1,rfl,rfl,h3,h4⟩:=GRow.opened.1 h2;refine(h w f0 f1 v0 v1 h3 h4).mono ?_;rintro e w' ⟨u0,u1,rfl,⟨g0,s0,b0⟩,⟨g1,s1,b1⟩,hb⟩;refine⟨_,rfl,⟨[u0,u1],rfl, ?_⟩,hb⟩;rw[GRow.aF];exact⟨⟨g0,s0,fun b hm=>⟨mO.2 (b0 b hm),fun _=>C_ (b0 b hm)⟩⟩,⟨g1,s1,fun b hm=>⟨mO.2 (b1 b hm),fun _=>C_ (b1 b hm)⟩⟩,trivial⟩
theorem lH(x:GRow)(h0:x.cells.length≤4194304)(h1:x.src.length≤4194304):aB Tryz.prog 80 [x.toD] (.c true (x.toD.acs true)):=OB fun w f0 f1 v0 v1 s0 s1=>J6 x.cells x.src w f0 f1 v0 v1 s0 s1 h0 h1
theorem DZ(x:GVal){r:GRow}(h:r∈x.rows):r.cells.length≤x.toD.wt∧r.src.length≤x.toD.wt:=by
 have h1:=D.l9 (I_ (f:=GRow.toD) h);have h2:=GVal.iW x;have h3:=GRow.iW r;rw[l_]at h2 h3;simp only[l_]at h2 h3;omega
theorem Dq(x:GVal){y:GVal}(h:y∈x.list):y.toD.wt<x.toD.wt:=by
 have h1:=D.l9 (I_ (f:=GVal.toD) h);have h2:=GVal.iW x;have h3:0<x.list.length:=List.length_pos_of_mem h;simp only[l_]at h2;omega
theorem DI(x:GVal):x.list.length≤x.toD.wt∧x.cols.length≤x.toD.wt∧x.rows.length≤x.toD.wt:=by
 have h2:=GVal.iW x;simp only[l_]at h2;omega
theorem kH{α:Type}(l:List α){k:Nat}(h:k<l.length):l.take (k+1)=l.take k++ [l[k]]:=List.take_succ_eq_append_getElem h
def Ic :IC:=(zd_ [zz_ 1 (.box (.t 0)),zz_ 2 (.alloc [(.int .i64 0),(.int .i64 0),(.int .i64 0),(.string ⟨#[]⟩),(.slice none 0 0),(.slice none 0 0),(.slice none 0 0)])] (.seq (.reg true [zt_ 6 0 1,zs_ 7 1 6,zt_ 8 1 1,zs_ 9 1 8,zt_ 10 2 1,zs_ 11 1 10,zt_ 12 3 1,zs_ 13 1 12,zz_ 14 (.brow true 9 1 0 false []),zt_ 15 5 1,zs_ 16 1 15,zz_ 17 (.app 9 1 (.t 14) (.t 16)),zz_ 18 (.bld [(.int .i64 0),(.int .i64 0),(.int .i64 0),(.string ⟨#[]⟩),(.slice none 0 0),(.slice none 0 0),(.slice none 0 0)] [(0,1,(.t 7)),(1,1,(.t 9)),(2,1,(.t 11)),(3,1,(.t 13)),(5,1,(.t 17))]),zz_ 3 (.alloc [(.int .i64 0),(.int .i64 0),(.int .i64 0),(.string ⟨#[]⟩),(.slice none 0 0),(.slice none 0 0),(.slice none 0 0)]),⟨none,none,.store 7 (.t 3) (.t 18)⟩]) (.seq (zd_ [zk_ 4 0] (.block 0 (.loop (.seq (zd_ [zw_ 19 4,zt_ 20 4 1,zs_ 21 1 20,zf_ 22 false 21,zl_ 23 .lss 19 22] (.cond (.t 23) .skip (.exit 0))) (.seq (.block 1 (.regN true true [] [zt_ 26 4 3,zs_ 27 1 26,zt_ 28 4 1,zs_ 29 1 28,zw_ 30 4,ze_ 31 7 29 30,zr_ 32 7 31,zq_ 33 55 32,zz_ 34 (.brow false 42 7 1 false [(.t 33)]),zz_ 35 (.app 42 7 (.t 27) (.t 34)),zt_ 36 4 3,⟨none,none,.store 1 (.t 36) (.t 35)⟩])) (.reg false [zw_ 24 4,zm_ 25 .add 24 1,zw_ 4 25])))))) (.seq (zd_ [zk_ 5 0] (.block 2 (.loop (.seq (zd_ [zw_ 37 5,zt_ 38 6 1,zs_ 39 1 38,zf_ 40 false 39,zl_ 41 .lss 37 40] (.cond (.t 41) .skip (.exit 2))) (.seq (.block 3 (.regN true true [] [zt_ 44 6 3,zs_ 45 1 44,zt_ 46 6 1,zs_ 47 1 46,zw_ 48 5,ze_ 49 2 47 48,zr_ 50 2 49,zq_ 51 80 50,zz_ 52 (.brow false 95 2 1 false [(.t 51)]),zz_ 53 (.app 95 2 (.t 45) (.t 52)),zt_ 54 6 3,⟨none,none,.store 1 (.t 54) (.t 53)⟩])) (.reg false [zw_ 42 5,zm_ 43 .add 42 1,zw_ 5 43])))))) (zd_ [zr_ 55 7 3,⟨none,none,.store 7 (.t 2) (.t 55)⟩] .ret)))))
theorem JD :ak Tryz.prog (Tryz.f55.body.getD .skip)=some Ic:=by kernel_rfl
theorem LZ(x:GVal)(hw:x.toD.wt≤1048576)(hrec:∀y∈x.list,aB Tryz.prog 55 [y.toD] (.c true (y.toD.acs true))):aB Tryz.prog 55 [x.toD] (.c true (x.toD.acs true)):=by
 have hlen:=DI x;rw[GVal.aF];refine iU (fn:=Tryz.f55) (t:=2) (ty:=42) (hc:=JD) (h:= ?_);unfold Ic;refine zb_ ?_;change AWP _ _ _ (st0 56 _);simp only[undef,stS,st0,stN,D.av,D.avN,dn,aY,dA,dw,gy,dD,eY,eX,GVal.aF,GVal.aA,GVal.aH,GVal.el,GRow.aF,GRow.aA,GRow.aH,GRow.el,GRead.aF,GRead.aA,GRead.aH,GRead.el,E_,K_,List.replicate,R_,T_,n_,o_,h_,i_]
 repeat' (first|(with_reducible first|refine jQ ?_|refine fZ ?_|refine iL ?_|refine iM ?_|refine jR ?_|refine qF ?_|refine iD ?_|refine jK ?_|refine dP ?_|refine fP ?_|refine iJ ?_|refine fJ ?_|refine iG ?_|refine eF ?_|refine fH ?_)|((with_reducible refine fO ?_ ?_);rfl)|((with_reducible refine fQ ?_ ?_);rfl)|((with_reducible refine fV ?_ ?_);rfl)|(with_reducible (refine fU rfl ?_ ?_);all_goals(intro hb;have hb':=hb;(try simp only[pkC]at hb');try(exfalso;omega)))|(refine rg_ ?_;intro K hK)|((first|((with_reducible refine bG false ?_ ?_);rfl)|((with_reducible refine bG true ?_ ?_);rfl));intro K hK)|(refine hq_ ?_;clear hK K)|refine ca_ ?_ ?_|((with_reducible refine qV ?_);simp(disch:=first|decide|omega) only[↓pkS,pkW,pkA,undef,c_,d_,e_,dN,jB,lvD,jU,lcD,lvK,lcK,bI,bZ,dH,ex,St.put,St.ev,kav,gdA,opI,dF,kF,dY,jq,kR,AV.toD,AC.toD,AV.nw,AC.nw,AC.one,a_,aO,aC,aI,aN,bF,aZ,if_true,if_false,b_,eu,D.one,D.ones,D.sz,D.szs,h_,i_,f_,g_,reduceIte,pkN,pkV])|((with_reducible refine qY ?_);simp(disch:=first|decide|omega) only[↓pkR,pkD,pkA,undef,c_,d_,e_,dN,jB,lvD,jU,lcD,lvK,lcK,bI,bZ,dH,ex,St.put,St.ev,kav,gdA,opI,dF,kF,dY,jq,kR,AV.toD,AC.toD,AV.nw,AC.nw,AC.one,a_,aO,aC,aI,aN,bF,aZ,if_true,if_false,b_,eu,D.one,D.ones,D.sz,D.szs,h_,i_,f_,g_,reduceIte,pkN,pkV])|(first|(with_reducible rfl)|(with_reducible refine jO ?_;kernel_rfl)|exact bC _|exact iI _|exact aJ _|exact pG _ _|exact qw _ _ _|omega|(simp;done)|(simp;omega))|((with_reducible refine jS ?_);simp[aQ,lF,iP,kV,AC.toD,aO,aC,aI,aN,a_,iY,dR,jc,iZ,dn,aY,dA,dw,uy,uz,pkV];first|done|rfl))
 refine dZ (X:=Nat×Option Nat) (fun q=> [.d,.k,.k,.k,.v (.c false [.raw (.int .i64 (q.1:Nat))])]) (fun q=>match q.2 with|none=> [⟨x.cols.map ls,9,1,1,false⟩]|some w=> [⟨x.cols.map ls,9,1,1,false⟩,⟨(x.list.take q.1).map GVal.toD,42,7,w,true⟩]) (fun q bs=> [[.raw (.int .i64 x.kind),.raw (.int .i64 x.n),.raw (.int .i64 x.step),.raw (.string x.text),.sl false (x.list.map GVal.toD),.sl false (x.cols.map ls),.sl false (x.rows.map GRow.toD)],[.raw (.int .i64 0),.raw (.int .i64 0),.raw (.int .i64 0),.raw (.string ⟨#[]⟩),.raw (.slice none 0 0),.raw (.slice none 0 0),.raw (.slice none 0 0)],[.raw (.int .i64 x.kind),.raw (.int .i64 x.n),.raw (.int .i64 x.step),.raw (.string x.text),(match q.2 with|none=> .raw (.slice none 0 0)|some w=> .own 1 w),.own 0 1,.raw (.slice none 0 0)]]) (fun q=>q.1≤x.list.length∧(match q.2 with|none=>q.1=0|some _=>0<q.1)) (fun q=>x.list.length - q.1) (0,none) ⟨A_ _,rfl⟩ ?_ ?_
 ·simp[bU,dW,bH,bK,AV.fits,AC.fits,FB,bQ]
 rintro⟨k,_|v⟩ ⟨hk,hk0⟩
 ·simp only at hk hk0;subst hk0;simp only[FB,bQ];by_cases hlk:0<x.list.length
  ·have hc:=hrec x.list[0] (s_ hlk);have hs:=kH x.list hlk;rw[GVal.aF]at hc
   repeat' (first|(with_reducible first|refine jQ ?_|refine fZ ?_|refine iL ?_|refine iM ?_|refine jR ?_|refine qF ?_|refine iD ?_|refine jK ?_|refine dP ?_|refine fP ?_|refine iJ ?_|refine fJ ?_|refine iG ?_|refine eF ?_|refine fH ?_)|((with_reducible refine fO ?_ ?_);rfl)|((with_reducible refine fQ ?_ ?_);rfl)|((with_reducible refine fV ?_ ?_);rfl)|(with_reducible (refine fU rfl ?_ ?_);all_goals(intro hb;have hb':=hb;(try simp only[pkC]at hb');try(exfalso;omega)))|(refine rg_ ?_;intro K hK)|((first|((with_reducible refine bG false ?_ ?_);rfl)|((with_reducible refine bG true ?_ ?_);rfl));intro K hK)|(refine hq_ ?_;clear hK K)|refine ca_ ?_ ?_|(refine cg_ ?_;first|refine cT_ hc ?_)|((with_reducible refine qV ?_);simp(disch:=first|decide|omega) only[↓pkS,pkW,pkA,undef,c_,d_,e_,dN,jB,lvD,jU,lcD,lvK,lcK,bI,bZ,dH,ex,St.put,St.ev,kav,gdA,opI,dF,kF,dY,jq,kR,AV.toD,AC.toD,AV.nw,AC.nw,AC.one,a_,aO,aC,aI,aN,bF,aZ,if_true,if_false,b_,eu,D.one,D.ones,D.sz,D.szs,h_,i_,f_,g_,reduceIte,pkN,pkV])|((with_reducible refine qY ?_);simp(disch:=first|decide|omega) only[↓pkR,pkD,pkA,undef,c_,d_,e_,dN,jB,lvD,jU,lcD,lvK,lcK,bI,bZ,dH,ex,St.put,St.ev,kav,gdA,opI,dF,kF,dY,jq,kR,AV.toD,AC.toD,AV.nw,AC.nw,AC.one,a_,aO,aC,aI,aN,bF,aZ,if_true,if_false,b_,eu,D.one,D.ones,D.sz,D.szs,h_,i_,f_,g_,reduceIte,pkN,pkV])|(first|(with_reducible rfl)|(with_reducible refine jO ?_;kernel_rfl)|exact bC _|exact iI _|exact aJ _|exact pG _ _|exact qw _ _ _|omega|(simp;done)|(simp;omega))|((with_reducible refine jS ?_);simp[aQ,lF,iP,kV,AC.toD,aO,aC,aI,aN,a_,iY,dR,jc,iZ,dn,aY,dA,dw,uy,uz,pkV];first|done|rfl))
   all_goals first
    |(simp only[l_,q_,n_,o_,t_];omega)
    | (refine dB (1,some 0) ?_ ⟨show 1≤x.list.length by omega,P_⟩ (show x.list.length - 1<x.list.length - 0 by omega)
       simp[bU,dW,bH,bK,AV.fits,AC.fits,FB,bQ,hs,GVal.aj,li,ls, -m_])
  ·have hlist:x.list= []:=p_ (by omega);have hrllist:x.list.length=0:=by omega
   repeat' (first|(with_reducible first|refine jQ ?_|refine fZ ?_|refine iL ?_|refine iM ?_|refine jR ?_|refine qF ?_|refine iD ?_|refine jK ?_|refine dP ?_|refine fP ?_|refine iJ ?_|refine fJ ?_|refine iG ?_|refine eF ?_|refine fH ?_)|((with_reducible refine fO ?_ ?_);rfl)|((with_reducible refine fQ ?_ ?_);rfl)|((with_reducible refine fV ?_ ?_);rfl)|(with_reducible (refine fU rfl ?_ ?_);all_goals(intro hb;have hb':=hb;(try simp only[pkC]at hb');try(exfalso;omega)))|(refine rg_ ?_;intro K hK)|((first|((with_reducible refine bG false ?_ ?_);rfl)|((with_reducible refine bG true ?_ ?_);rfl));intro K hK)|(refine hq_ ?_;clear hK K)|refine ca_ ?_ ?_|((with_reducible refine qV ?_);simp(disch:=first|decide|omega) only[↓pkS,pkW,pkA,undef,c_,d_,e_,dN,jB,lvD,jU,lcD,lvK,lcK,bI,bZ,dH,ex,St.put,St.ev,kav,gdA,opI,dF,kF,dY,jq,kR,AV.toD,AC.toD,AV.nw,AC.nw,AC.one,a_,aO,aC,aI,aN,bF,aZ,if_true,if_false,b_,eu,D.one,D.ones,D.sz,D.szs,h_,i_,f_,g_,reduceIte,pkN,pkV])|((with_reducible refine qY ?_);simp(disch:=first|decide|omega) only[↓pkR,pkD,pkA,undef,c_,d_,e_,dN,jB,lvD,jU,lcD,lvK,lcK,bI,bZ,dH,ex,St.put,St.ev,kav,gdA,opI,dF,kF,dY,jq,kR,AV.toD,AC.toD,AV.nw,AC.nw,AC.one,a_,aO,aC,aI,aN,bF,aZ,if_true,if_false,b_,eu,D.one,D.ones,D.sz,D.szs,h_,i_,f_,g_,reduceIte,pkN,pkV])|(first|(with_reducible rfl)|(with_reducible refine jO ?_;kernel_rfl)|exact bC _|exact iI _|exact aJ _|exact pG _ _|exact qw _ _ _|omega|(simp;done)|(simp;omega))|((with_reducible refine jS ?_);simp[aQ,lF,iP,kV,AC.toD,aO,aC,aI,aN,a_,iY,dR,jc,iZ,dn,aY,dA,dw,uy,uz,pkV];first|done|rfl))
   have hlist0:=hlist;refine dZ (X:=Nat×Option Nat) (fun q=> [.d,.k,.k,.k,.d,.v (.c false [.raw (.int .i64 (q.1:Nat))])]) (fun q=>match q.2 with|none=> [⟨x.cols.map ls,9,1,1,false⟩]|some w=> [⟨x.cols.map ls,9,1,1,false⟩,⟨(x.rows.take q.1).map GRow.toD,95,2,w,true⟩]) (fun q bs=> [[.raw (.int .i64 x.kind),.raw (.int .i64 x.n),.raw (.int .i64 x.step),.raw (.string x.text),.sl false (x.list.map GVal.toD),.sl false (x.cols.map ls),.sl false (x.rows.map GRow.toD)],[.raw (.int .i64 0),.raw (.int .i64 0),.raw (.int .i64 0),.raw (.string ⟨#[]⟩),.raw (.slice none 0 0),.raw (.slice none 0 0),.raw (.slice none 0 0)],[.raw (.int .i64 x.kind),.raw (.int .i64 x.n),.raw (.int .i64 x.step),.raw (.string x.text),.raw (.slice none 0 0),.own 0 1,(match q.2 with|none=> .raw (.slice none 0 0)|some w=> .own 1 w)]]) (fun q=>q.1≤x.rows.length∧(match q.2 with|none=>q.1=0|some _=>0<q.1)) (fun q=>x.rows.length - q.1) (0,none) ⟨A_ _,rfl⟩ ?_ ?_
   ·simp[bU,dW,bH,bK,AV.fits,AC.fits,FB,bQ]
   rintro⟨j,_|u⟩ ⟨hk,hk0⟩
   ·simp only at hk hk0;subst hk0;simp only[FB,bQ];by_cases hlk:0<x.rows.length
    ·have hrw:=DZ x (s_ hlk);have hc:=lH x.rows[0] (by omega) (by omega);have hs:=kH x.rows hlk;rw[GRow.aF]at hc
     repeat' (first|(with_reducible first|refine jQ ?_|refine fZ ?_|refine iL ?_|refine iM ?_|refine jR ?_|refine qF ?_|refine iD ?_|refine jK ?_|refine dP ?_|refine fP ?_|refine iJ ?_|refine fJ ?_|refine iG ?_|refine eF ?_|refine fH ?_)|((with_reducible refine fO ?_ ?_);rfl)|((with_reducible refine fQ ?_ ?_);rfl)|((with_reducible refine fV ?_ ?_);rfl)|(with_reducible (refine fU rfl ?_ ?_);all_goals(intro hb;have hb':=hb;(try simp only[pkC]at hb');try(exfalso;omega)))|(refine rg_ ?_;intro K hK)|((first|((with_reducible refine bG false ?_ ?_);rfl)|((with_reducible refine bG true ?_ ?_);rfl));intro K hK)|(refine hq_ ?_;clear hK K)|refine ca_ ?_ ?_|(refine cg_ ?_;first|refine cT_ hc ?_)|((with_reducible refine qV ?_);simp(disch:=first|decide|omega) only[↓pkS,pkW,pkA,undef,c_,d_,e_,dN,jB,lvD,jU,lcD,lvK,lcK,bI,bZ,dH,ex,St.put,St.ev,kav,gdA,opI,dF,kF,dY,jq,kR,AV.toD,AC.toD,AV.nw,AC.nw,AC.one,a_,aO,aC,aI,aN,bF,aZ,if_true,if_false,b_,eu,D.one,D.ones,D.sz,D.szs,h_,i_,f_,g_,reduceIte,pkN,pkV])|((with_reducible refine qY ?_);simp(disch:=first|decide|omega) only[↓pkR,pkD,pkA,undef,c_,d_,e_,dN,jB,lvD,jU,lcD,lvK,lcK,bI,bZ,dH,ex,St.put,St.ev,kav,gdA,opI,dF,kF,dY,jq,kR,AV.toD,AC.toD,AV.nw,AC.nw,AC.one,a_,aO,aC,aI,aN,bF,aZ,if_true,if_false,b_,eu,D.one,D.ones,D.sz,D.szs,h_,i_,f_,g_,reduceIte,pkN,pkV])|(first|(with_reducible rfl)|(with_reducible refine jO ?_;kernel_rfl)|exact bC _|exact iI _|exact aJ _|exact pG _ _|exact qw _ _ _|omega|(simp;done)|(simp;omega))|((with_reducible refine jS ?_);simp[aQ,lF,iP,kV,AC.toD,aO,aC,aI,aN,a_,iY,dR,jc,iZ,dn,aY,dA,dw,uy,uz,pkV];first|done|rfl))
     all_goals first
      |(simp only[l_,q_,n_,o_,t_];omega)
      | (refine dB (1,some 0) ?_ ⟨show 1≤x.rows.length by omega,P_⟩ (show x.rows.length - 1<x.rows.length - 0 by omega)
         simp[bU,dW,bH,bK,AV.fits,AC.fits,FB,bQ,hs,GRow.aj,li,ls, -m_])
    ·have hrows:x.rows= []:=p_ (by omega);have hrlrows:x.rows.length=0:=by omega
     repeat' (first|(with_reducible first|refine jQ ?_|refine fZ ?_|refine iL ?_|refine iM ?_|refine jR ?_|refine qF ?_|refine iD ?_|refine jK ?_|refine dP ?_|refine fP ?_|refine iJ ?_|refine fJ ?_|refine iG ?_|refine eF ?_|refine fH ?_)|((with_reducible refine fO ?_ ?_);rfl)|((with_reducible refine fQ ?_ ?_);rfl)|((with_reducible refine fV ?_ ?_);rfl)|(with_reducible (refine fU rfl ?_ ?_);all_goals(intro hb;have hb':=hb;(try simp only[pkC]at hb');try(exfalso;omega)))|(refine rg_ ?_;intro K hK)|((first|((with_reducible refine bG false ?_ ?_);rfl)|((with_reducible refine bG true ?_ ?_);rfl));intro K hK)|(refine hq_ ?_;clear hK K)|refine ca_ ?_ ?_|((with_reducible refine qV ?_);simp(disch:=first|decide|omega) only[↓pkS,pkW,pkA,undef,c_,d_,e_,dN,jB,lvD,jU,lcD,lvK,lcK,bI,bZ,dH,ex,St.put,St.ev,kav,gdA,opI,dF,kF,dY,jq,kR,AV.toD,AC.toD,AV.nw,AC.nw,AC.one,a_,aO,aC,aI,aN,bF,aZ,if_true,if_false,b_,eu,D.one,D.ones,D.sz,D.szs,h_,i_,f_,g_,reduceIte,pkN,pkV])|((with_reducible refine qY ?_);simp(disch:=first|decide|omega) only[↓pkR,pkD,pkA,undef,c_,d_,e_,dN,jB,lvD,jU,lcD,lvK,lcK,bI,bZ,dH,ex,St.put,St.ev,kav,gdA,opI,dF,kF,dY,jq,kR,AV.toD,AC.toD,AV.nw,AC.nw,AC.one,a_,aO,aC,aI,aN,bF,aZ,if_true,if_false,b_,eu,D.one,D.ones,D.sz,D.szs,h_,i_,f_,g_,reduceIte,pkN,pkV])|(first|(with_reducible rfl)|(with_reducible refine jO ?_;kernel_rfl)|exact bC _|exact iI _|exact aJ _|exact pG _ _|exact qw _ _ _|omega|(simp;done)|(simp;omega))|((with_reducible refine jS ?_);simp[aQ,lF,iP,kV,AC.toD,aO,aC,aI,aN,a_,iY,dR,jc,iZ,dn,aY,dA,dw,uy,uz,pkV];first|done|rfl))
     exact aU ⟨1,_,rfl,rfl,by rw[hlist0,hrows];simp[aS,bM];exact lK _⟩
   ·simp only at hk hk0;simp only[FB,bQ];by_cases hlk:j<x.rows.length
    ·have hrw:=DZ x (s_ hlk);have hc:=lH x.rows[j] (by omega) (by omega);have hs:=kH x.rows hlk;rw[GRow.aF]at hc
     repeat' (first|(with_reducible first|refine jQ ?_|refine fZ ?_|refine iL ?_|refine iM ?_|refine jR ?_|refine qF ?_|refine iD ?_|refine jK ?_|refine dP ?_|refine fP ?_|refine iJ ?_|refine fJ ?_|refine iG ?_|refine eF ?_|refine fH ?_)|((with_reducible refine fO ?_ ?_);rfl)|((with_reducible refine fQ ?_ ?_);rfl)|((with_reducible refine fV ?_ ?_);rfl)|(with_reducible (refine fU rfl ?_ ?_);all_goals(intro hb;have hb':=hb;(try simp only[pkC]at hb');try(exfalso;omega)))|(refine rg_ ?_;intro K hK)|((first|((with_reducible refine bG false ?_ ?_);rfl)|((with_reducible refine bG true ?_ ?_);rfl));intro K hK)|(refine hq_ ?_;clear hK K)|refine ca_ ?_ ?_|(refine cg_ ?_;first|refine cT_ hc ?_)|((with_reducible refine qV ?_);simp(disch:=first|decide|omega) only[↓pkS,pkW,pkA,undef,c_,d_,e_,dN,jB,lvD,jU,lcD,lvK,lcK,bI,bZ,dH,ex,St.put,St.ev,kav,gdA,opI,dF,kF,dY,jq,kR,AV.toD,AC.toD,AV.nw,AC.nw,AC.one,a_,aO,aC,aI,aN,bF,aZ,if_true,if_false,b_,eu,D.one,D.ones,D.sz,D.szs,h_,i_,f_,g_,reduceIte,pkN,pkV])|((with_reducible refine qY ?_);simp(disch:=first|decide|omega) only[↓pkR,pkD,pkA,undef,c_,d_,e_,dN,jB,lvD,jU,lcD,lvK,lcK,bI,bZ,dH,ex,St.put,St.ev,kav,gdA,opI,dF,kF,dY,jq,kR,AV.toD,AC.toD,AV.nw,AC.nw,AC.one,a_,aO,aC,aI,aN,bF,aZ,if_true,if_false,b_,eu,D.one,D.ones,D.sz,D.szs,h_,i_,f_,g_,reduceIte,pkN,pkV])|(first|(with_reducible rfl)|(with_reducible refine jO ?_;kernel_rfl)|exact bC _|exact iI _|exact aJ _|exact pG _ _|exact qw _ _ _|omega|(simp;done)|(simp;omega))|((with_reducible refine jS ?_);simp[aQ,lF,iP,kV,AC.toD,aO,aC,aI,aN,a_,iY,dR,jc,iZ,dn,aY,dA,dw,uy,uz,pkV];first|done|rfl))
     all_goals first
      |(simp only[l_,q_,n_,o_,t_];omega)
      | (refine dB (j+1,some (u+1)) ?_ ⟨show j+1≤x.rows.length by omega,M_ _⟩ (show x.rows.length - (j+1)<x.rows.length - j by omega)
         simp[bU,dW,bH,bK,AV.fits,AC.fits,FB,bQ,hs,GRow.aj,li,ls, -m_])
    ·obtain rfl:j=x.rows.length:=by omega
     rw[x_]
     repeat' (first|(with_reducible first|refine jQ ?_|refine fZ ?_|refine iL ?_|refine iM ?_|refine jR ?_|refine qF ?_|refine iD ?_|refine jK ?_|refine dP ?_|refine fP ?_|refine iJ ?_|refine fJ ?_|refine iG ?_|refine eF ?_|refine fH ?_)|((with_reducible refine fO ?_ ?_);rfl)|((with_reducible refine fQ ?_ ?_);rfl)|((with_reducible refine fV ?_ ?_);rfl)|(with_reducible (refine fU rfl ?_ ?_);all_goals(intro hb;have hb':=hb;(try simp only[pkC]at hb');try(exfalso;omega)))|(refine rg_ ?_;intro K hK)|((first|((with_reducible refine bG false ?_ ?_);rfl)|((with_reducible refine bG true ?_ ?_);rfl));intro K hK)|(refine hq_ ?_;clear hK K)|refine ca_ ?_ ?_|((with_reducible refine qV ?_);simp(disch:=first|decide|omega) only[↓pkS,pkW,pkA,undef,c_,d_,e_,dN,jB,lvD,jU,lcD,lvK,lcK,bI,bZ,dH,ex,St.put,St.ev,kav,gdA,opI,dF,kF,dY,jq,kR,AV.toD,AC.toD,AV.nw,AC.nw,AC.one,a_,aO,aC,aI,aN,bF,aZ,if_true,if_false,b_,eu,D.one,D.ones,D.sz,D.szs,h_,i_,f_,g_,reduceIte,pkN,pkV])|((with_reducible refine qY ?_);simp(disch:=first|decide|omega) only[↓pkR,pkD,pkA,undef,c_,d_,e_,dN,jB,lvD,jU,lcD,lvK,lcK,bI,bZ,dH,ex,St.put,St.ev,kav,gdA,opI,dF,kF,dY,jq,kR,AV.toD,AC.toD,AV.nw,AC.nw,AC.one,a_,aO,aC,aI,aN,bF,aZ,if_true,if_false,b_,eu,D.one,D.ones,D.sz,D.szs,h_,i_,f_,g_,reduceIte,pkN,pkV])|(first|(with_reducible rfl)|(with_reducible refine jO ?_;kernel_rfl)|exact bC _|exact iI _|exact aJ _|exact pG _ _|exact qw _ _ _|omega|(simp;done)|(simp;omega))|((with_reducible refine jS ?_);simp[aQ,lF,iP,kV,AC.toD,aO,aC,aI,aN,a_,iY,dR,jc,iZ,dn,aY,dA,dw,uy,uz,pkV];first|done|rfl))
     exact aU ⟨1,_,rfl,rfl,by rw[hlist0];simp[aS,bM];exact lK _⟩
 ·simp only at hk hk0;simp only[FB,bQ];by_cases hlk:k<x.list.length
  ·have hc:=hrec x.list[k] (s_ hlk);have hs:=kH x.list hlk;rw[GVal.aF]at hc
   repeat' (first|(with_reducible first|refine jQ ?_|refine fZ ?_|refine iL ?_|refine iM ?_|refine jR ?_|refine qF ?_|refine iD ?_|refine jK ?_|refine dP ?_|refine fP ?_|refine iJ ?_|refine fJ ?_|refine iG ?_|refine eF ?_|refine fH ?_)|((with_reducible refine fO ?_ ?_);rfl)|((with_reducible refine fQ ?_ ?_);rfl)|((with_reducible refine fV ?_ ?_);rfl)|(with_reducible (refine fU rfl ?_ ?_);all_goals(intro hb;have hb':=hb;(try simp only[pkC]at hb');try(exfalso;omega)))|(refine rg_ ?_;intro K hK)|((first|((with_reducible refine bG false ?_ ?_);rfl)|((with_reducible refine bG true ?_ ?_);rfl));intro K hK)|(refine hq_ ?_;clear hK K)|refine ca_ ?_ ?_|(refine cg_ ?_;first|refine cT_ hc ?_)|((with_reducible refine qV ?_);simp(disch:=first|decide|omega) only[↓pkS,pkW,pkA,undef,c_,d_,e_,dN,jB,lvD,jU,lcD,lvK,lcK,bI,bZ,dH,ex,St.put,St.ev,kav,gdA,opI,dF,kF,dY,jq,kR,AV.toD,AC.toD,AV.nw,AC.nw,AC.one,a_,aO,aC,aI,aN,bF,aZ,if_true,if_false,b_,eu,D.one,D.ones,D.sz,D.szs,h_,i_,f_,g_,reduceIte,pkN,pkV])|((with_reducible refine qY ?_);simp(disch:=first|decide|omega) only[↓pkR,pkD,pkA,undef,c_,d_,e_,dN,jB,lvD,jU,lcD,lvK,lcK,bI,bZ,dH,ex,St.put,St.ev,kav,gdA,opI,dF,kF,dY,jq,kR,AV.toD,AC.toD,AV.nw,AC.nw,AC.one,a_,aO,aC,aI,aN,bF,aZ,if_true,if_false,b_,eu,D.one,D.ones,D.sz,D.szs,h_,i_,f_,g_,reduceIte,pkN,pkV])|(first|(with_reducible rfl)|(with_reducible refine jO ?_;kernel_rfl)|exact bC _|exact iI _|exact aJ _|exact pG _ _|exact qw _ _ _|omega|(simp;done)|(simp;omega))|((with_reducible refine jS ?_);simp[aQ,lF,iP,kV,AC.toD,aO,aC,aI,aN,a_,iY,dR,jc,iZ,dn,aY,dA,dw,uy,uz,pkV];first|done|rfl))
   all_goals first
    |(simp only[l_,q_,n_,o_,t_];omega)
    | (refine dB (k+1,some (v+1)) ?_ ⟨show k+1≤x.list.length by omega,M_ _⟩ (show x.list.length - (k+1)<x.list.length - k by omega)
       simp[bU,dW,bH,bK,AV.fits,AC.fits,FB,bQ,hs,GVal.aj,li,ls, -m_])
  ·obtain rfl:k=x.list.length:=by omega
   rw[x_]
   repeat' (first|(with_reducible first|refine jQ ?_|refine fZ ?_|refine iL ?_|refine iM ?_|refine jR ?_|refine qF ?_|refine iD ?_|refine jK ?_|refine dP ?_|refine fP ?_|refine iJ ?_|refine fJ ?_|refine iG ?_|refine eF ?_|refine fH ?_)|((with_reducible refine fO ?_ ?_);rfl)|((with_reducible refine fQ ?_ ?_);rfl)|((with_reducible refine fV ?_ ?_);rfl)|(with_reducible (refine fU rfl ?_ ?_);all_goals(intro hb;have hb':=hb;(try simp only[pkC]at hb');try(exfalso;omega)))|(refine rg_ ?_;intro K hK)|((first|((with_reducible refine bG false ?_ ?_);rfl)|((with_reducible refine bG true ?_ ?_);rfl));intro K hK)|(refine hq_ ?_;clear hK K)|refine ca_ ?_ ?_|((with_reducible refine qV ?_);simp(disch:=first|decide|omega) only[↓pkS,pkW,pkA,undef,c_,d_,e_,dN,jB,lvD,jU,lcD,lvK,lcK,bI,bZ,dH,ex,St.put,St.ev,kav,gdA,opI,dF,kF,dY,jq,kR,AV.toD,AC.toD,AV.nw,AC.nw,AC.one,a_,aO,aC,aI,aN,bF,aZ,if_true,if_false,b_,eu,D.one,D.ones,D.sz,D.szs,h_,i_,f_,g_,reduceIte,pkN,pkV])|((with_reducible refine qY ?_);simp(disch:=first|decide|omega) only[↓pkR,pkD,pkA,undef,c_,d_,e_,dN,jB,lvD,jU,lcD,lvK,lcK,bI,bZ,dH,ex,St.put,St.ev,kav,gdA,opI,dF,kF,dY,jq,kR,AV.toD,AC.toD,AV.nw,AC.nw,AC.one,a_,aO,aC,aI,aN,bF,aZ,if_true,if_false,b_,eu,D.one,D.ones,D.sz,D.szs,h_,i_,f_,g_,reduceIte,pkN,pkV])|(first|(with_reducible rfl)|(with_reducible refine jO ?_;kernel_rfl)|exact bC _|exact iI _|exact aJ _|exact pG _ _|exact qw _ _ _|omega|(simp;done)|(simp;omega))|((with_reducible refine jS ?_);simp[aQ,lF,iP,kV,AC.toD,aO,aC,aI,aN,a_,iY,dR,jc,iZ,dn,aY,dA,dw,uy,uz,pkV];first|done|rfl))
   refine dZ (X:=Nat×Option Nat) (fun q=> [.d,.k,.k,.k,.d,.v (.c false [.raw (.int .i64 (q.1:Nat))])]) (fun q=>match q.2 with|none=> [⟨x.cols.map ls,9,1,1,false⟩,⟨x.list.map GVal.toD,42,7,v,true⟩]|some w=> [⟨x.cols.map ls,9,1,1,false⟩,⟨x.list.map GVal.toD,42,7,v,true⟩,⟨(x.rows.take q.1).map GRow.toD,95,2,w,true⟩]) (fun q bs=> [[.raw (.int .i64 x.kind),.raw (.int .i64 x.n),.raw (.int .i64 x.step),.raw (.string x.text),.sl false (x.list.map GVal.toD),.sl false (x.cols.map ls),.sl false (x.rows.map GRow.toD)],[.raw (.int .i64 0),.raw (.int .i64 0),.raw (.int .i64 0),.raw (.string ⟨#[]⟩),.raw (.slice none 0 0),.raw (.slice none 0 0),.raw (.slice none 0 0)],[.raw (.int .i64 x.kind),.raw (.int .i64 x.n),.raw (.int .i64 x.step),.raw (.string x.text),.own 1 v,.own 0 1,(match q.2 with|none=> .raw (.slice none 0 0)|some w=> .own 2 w)]]) (fun q=>q.1≤x.rows.length∧(match q.2 with|none=>q.1=0|some _=>0<q.1)) (fun q=>x.rows.length - q.1) (0,none) ⟨A_ _,rfl⟩ ?_ ?_
   ·simp[bU,dW,bH,bK,AV.fits,AC.fits,FB,bQ]
   rintro⟨j,_|u⟩ ⟨hk,hk0⟩
   ·simp only at hk hk0;subst hk0;simp only[FB,bQ];by_cases hlk:0<x.rows.length
    ·have hrw:=DZ x (s_ hlk);have hc:=lH x.rows[0] (by omega) (by omega);have hs:=kH x.rows hlk;rw[GRow.aF]at hc
     repeat' (first|(with_reducible first|refine jQ ?_|refine fZ ?_|refine iL ?_|refine iM ?_|refine jR ?_|refine qF ?_|refine iD ?_|refine jK ?_|refine dP ?_|refine fP ?_|refine iJ ?_|refine fJ ?_|refine iG ?_|refine eF ?_|refine fH ?_)|((with_reducible refine fO ?_ ?_);rfl)|((with_reducible refine fQ ?_ ?_);rfl)|((with_reducible refine fV ?_ ?_);rfl)|(with_reducible (refine fU rfl ?_ ?_);all_goals(intro hb;have hb':=hb;(try simp only[pkC]at hb');try(exfalso;omega)))|(refine rg_ ?_;intro K hK)|((first|((with_reducible refine bG false ?_ ?_);rfl)|((with_reducible refine bG true ?_ ?_);rfl));intro K hK)|(refine hq_ ?_;clear hK K)|refine ca_ ?_ ?_|(refine cg_ ?_;first|refine cT_ hc ?_)|((with_reducible refine qV ?_);simp(disch:=first|decide|omega) only[↓pkS,pkW,pkA,undef,c_,d_,e_,dN,jB,lvD,jU,lcD,lvK,lcK,bI,bZ,dH,ex,St.put,St.ev,kav,gdA,opI,dF,kF,dY,jq,kR,AV.toD,AC.toD,AV.nw,AC.nw,AC.one,a_,aO,aC,aI,aN,bF,aZ,if_true,if_false,b_,eu,D.one,D.ones,D.sz,D.szs,h_,i_,f_,g_,reduceIte,pkN,pkV])|((with_reducible refine qY ?_);simp(disch:=first|decide|omega) only[↓pkR,pkD,pkA,undef,c_,d_,e_,dN,jB,lvD,jU,lcD,lvK,lcK,bI,bZ,dH,ex,St.put,St.ev,kav,gdA,opI,dF,kF,dY,jq,kR,AV.toD,AC.toD,AV.nw,AC.nw,AC.one,a_,aO,aC,aI,aN,bF,aZ,if_true,if_false,b_,eu,D.one,D.ones,D.sz,D.szs,h_,i_,f_,g_,reduceIte,pkN,pkV])|(first|(with_reducible rfl)|(with_reducible refine jO ?_;kernel_rfl)|exact bC _|exact iI _|exact aJ _|exact pG _ _|exact qw _ _ _|omega|(simp;done)|(simp;omega))|((with_reducible refine jS ?_);simp[aQ,lF,iP,kV,AC.toD,aO,aC,aI,aN,a_,iY,dR,jc,iZ,dn,aY,dA,dw,uy,uz,pkV];first|done|rfl))
     all_goals first
      |(simp only[l_,q_,n_,o_,t_];omega)
      | (refine dB (1,some 0) ?_ ⟨show 1≤x.rows.length by omega,P_⟩ (show x.rows.length - 1<x.rows.length - 0 by omega)
         simp[bU,dW,bH,bK,AV.fits,AC.fits,FB,bQ,hs,GRow.aj,li,ls, -m_])
    ·have hrows:x.rows= []:=p_ (by omega);have hrlrows:x.rows.length=0:=by omega
     repeat' (first|(with_reducible first|refine jQ ?_|refine fZ ?_|refine iL ?_|refine iM ?_|refine jR ?_|refine qF ?_|refine iD ?_|refine jK ?_|refine dP ?_|refine fP ?_|refine iJ ?_|refine fJ ?_|refine iG ?_|refine eF ?_|refine fH ?_)|((with_reducible refine fO ?_ ?_);rfl)|((with_reducible refine fQ ?_ ?_);rfl)|((with_reducible refine fV ?_ ?_);rfl)|(with_reducible (refine fU rfl ?_ ?_);all_goals(intro hb;have hb':=hb;(try simp only[pkC]at hb');try(exfalso;omega)))|(refine rg_ ?_;intro K hK)|((first|((with_reducible refine bG false ?_ ?_);rfl)|((with_reducible refine bG true ?_ ?_);rfl));intro K hK)|(refine hq_ ?_;clear hK K)|refine ca_ ?_ ?_|((with_reducible refine qV ?_);simp(disch:=first|decide|omega) only[↓pkS,pkW,pkA,undef,c_,d_,e_,dN,jB,lvD,jU,lcD,lvK,lcK,bI,bZ,dH,ex,St.put,St.ev,kav,gdA,opI,dF,kF,dY,jq,kR,AV.toD,AC.toD,AV.nw,AC.nw,AC.one,a_,aO,aC,aI,aN,bF,aZ,if_true,if_false,b_,eu,D.one,D.ones,D.sz,D.szs,h_,i_,f_,g_,reduceIte,pkN,pkV])|((with_reducible refine qY ?_);simp(disch:=first|decide|omega) only[↓pkR,pkD,pkA,undef,c_,d_,e_,dN,jB,lvD,jU,lcD,lvK,lcK,bI,bZ,dH,ex,St.put,St.ev,kav,gdA,opI,dF,kF,dY,jq,kR,AV.toD,AC.toD,AV.nw,AC.nw,AC.one,a_,aO,aC,aI,aN,bF,aZ,if_true,if_false,b_,eu,D.one,D.ones,D.sz,D.szs,h_,i_,f_,g_,reduceIte,pkN,pkV])|(first|(with_reducible rfl)|(with_reducible refine jO ?_;kernel_rfl)|exact bC _|exact iI _|exact aJ _|exact pG _ _|exact qw _ _ _|omega|(simp;done)|(simp;omega))|((with_reducible refine jS ?_);simp[aQ,lF,iP,kV,AC.toD,aO,aC,aI,aN,a_,iY,dR,jc,iZ,dn,aY,dA,dw,uy,uz,pkV];first|done|rfl))
     exact aU ⟨1,_,rfl,rfl,by rw[hrows];simp[aS,bM];exact lK _⟩
   ·simp only at hk hk0;simp only[FB,bQ];by_cases hlk:j<x.rows.length
    ·have hrw:=DZ x (s_ hlk);have hc:=lH x.rows[j] (by omega) (by omega);have hs:=kH x.rows hlk;rw[GRow.aF]at hc
     repeat' (first|(with_reducible first|refine jQ ?_|refine fZ ?_|refine iL ?_|refine iM ?_|refine jR ?_|refine qF ?_|refine iD ?_|refine jK ?_|refine dP ?_|refine fP ?_|refine iJ ?_|refine fJ ?_|refine iG ?_|refine eF ?_|refine fH ?_)|((with_reducible refine fO ?_ ?_);rfl)|((with_reducible refine fQ ?_ ?_);rfl)|((with_reducible refine fV ?_ ?_);rfl)|(with_reducible (refine fU rfl ?_ ?_);all_goals(intro hb;have hb':=hb;(try simp only[pkC]at hb');try(exfalso;omega)))|(refine rg_ ?_;intro K hK)|((first|((with_reducible refine bG false ?_ ?_);rfl)|((with_reducible refine bG true ?_ ?_);rfl));intro K hK)|(refine hq_ ?_;clear hK K)|refine ca_ ?_ ?_|(refine cg_ ?_;first|refine cT_ hc ?_)|((with_reducible refine qV ?_);simp(disch:=first|decide|omega) only[↓pkS,pkW,pkA,undef,c_,d_,e_,dN,jB,lvD,jU,lcD,lvK,lcK,bI,bZ,dH,ex,St.put,St.ev,kav,gdA,opI,dF,kF,dY,jq,kR,AV.toD,AC.toD,AV.nw,AC.nw,AC.one,a_,aO,aC,aI,aN,bF,aZ,if_true,if_false,b_,eu,D.one,D.ones,D.sz,D.szs,h_,i_,f_,g_,reduceIte,pkN,pkV])|((with_reducible refine qY ?_);simp(disch:=first|decide|omega) only[↓pkR,pkD,pkA,undef,c_,d_,e_,dN,jB,lvD,jU,lcD,lvK,lcK,bI,bZ,dH,ex,St.put,St.ev,kav,gdA,opI,dF,kF,dY,jq,kR,AV.toD,AC.toD,AV.nw,AC.nw,AC.one,a_,aO,aC,aI,aN,bF,aZ,if_true,if_false,b_,eu,D.one,D.ones,D.sz,D.szs,h_,i_,f_,g_,reduceIte,pkN,pkV])|(first|(with_reducible rfl)|(with_reducible refine jO ?_;kernel_rfl)|exact bC _|exact iI _|exact aJ _|exact pG _ _|exact qw _ _ _|omega|(simp;done)|(simp;omega))|((with_reducible refine jS ?_);simp[aQ,lF,iP,kV,AC.toD,aO,aC,aI,aN,a_,iY,dR,jc,iZ,dn,aY,dA,dw,uy,uz,pkV];first|done|rfl))
     all_goals first
      |(simp only[l_,q_,n_,o_,t_];omega)
      | (refine dB (j+1,some (u+1)) ?_ ⟨show j+1≤x.rows.length by omega,M_ _⟩ (show x.rows.length - (j+1)<x.rows.length - j by omega)
         simp[bU,dW,bH,bK,AV.fits,AC.fits,FB,bQ,hs,GRow.aj,li,ls, -m_])
    ·obtain rfl:j=x.rows.length:=by omega
     rw[x_]
     repeat' (first|(with_reducible first|refine jQ ?_|refine fZ ?_|refine iL ?_|refine iM ?_|refine jR ?_|refine qF ?_|refine iD ?_|refine jK ?_|refine dP ?_|refine fP ?_|refine iJ ?_|refine fJ ?_|refine iG ?_|refine eF ?_|refine fH ?_)|((with_reducible refine fO ?_ ?_);rfl)|((with_reducible refine fQ ?_ ?_);rfl)|((with_reducible refine fV ?_ ?_);rfl)|(with_reducible (refine fU rfl ?_ ?_);all_goals(intro hb;have hb':=hb;(try simp only[pkC]at hb');try(exfalso;omega)))|(refine rg_ ?_;intro K hK)|((first|((with_reducible refine bG false ?_ ?_);rfl)|((with_reducible refine bG true ?_ ?_);rfl));intro K hK)|(refine hq_ ?_;clear hK K)|refine ca_ ?_ ?_|((with_reducible refine qV ?_);simp(disch:=first|decide|omega) only[↓pkS,pkW,pkA,undef,c_,d_,e_,dN,jB,lvD,jU,lcD,lvK,lcK,bI,bZ,dH,ex,St.put,St.ev,kav,gdA,opI,dF,kF,dY,jq,kR,AV.toD,AC.toD,AV.nw,AC.nw,AC.one,a_,aO,aC,aI,aN,bF,aZ,if_true,if_false,b_,eu,D.one,D.ones,D.sz,D.szs,h_,i_,f_,g_,reduceIte,pkN,pkV])|((with_reducible refine qY ?_);simp(disch:=first|decide|omega) only[↓pkR,pkD,pkA,undef,c_,d_,e_,dN,jB,lvD,jU,lcD,lvK,lcK,bI,bZ,dH,ex,St.put,St.ev,kav,gdA,opI,dF,kF,dY,jq,kR,AV.toD,AC.toD,AV.nw,AC.nw,AC.one,a_,aO,aC,aI,aN,bF,aZ,if_true,if_false,b_,eu,D.one,D.ones,D.sz,D.szs,h_,i_,f_,g_,reduceIte,pkN,pkV])|(first|(with_reducible rfl)|(with_reducible refine jO ?_;kernel_rfl)|exact bC _|exact iI _|exact aJ _|exact pG _ _|exact qw _ _ _|omega|(simp;done)|(simp;omega))|((with_reducible refine jS ?_);simp[aQ,lF,iP,kV,AC.toD,aO,aC,aI,aN,a_,iY,dR,jc,iZ,dn,aY,dA,dw,uy,uz,pkV];first|done|rfl))
     exact aU ⟨1,_,rfl,rfl,by simp[aS,bM];exact lK _⟩
theorem Ey :∀(n:Nat) (x:GVal),x.toD.wt<n→x.toD.wt≤1048576→aB Tryz.prog 55 [x.toD] (.c true (x.toD.acs true))
 |0,x,h,_=>by omega
 |n+1,x,h,hw=>LZ x hw fun y hy=>Ey n y (by have:=Dq x hy;omega) (by have:=Dq x hy;omega)
theorem qA(x:GVal)(hw:x.toD.wt≤1048576):aB Tryz.prog 55 [x.toD] (.c true (x.toD.acs true)):=Ey _ x (S_ _) hw
end
section
open Value renaming oneCell'→a_,ownBlock→B_
open Bool renaming false_eq_true→b_
open List renaming flatMap_cons→c_,flatMap_nil→d_,append_nil→e_,length_map→l_,take_append_getElem→m_,length_cons→n_,length_nil→o_,eq_nil_of_length_eq_zero→p_,length_append→q_,getElem_mem→s_,length_take→t_,take_length→x_,map_cons→E_,getElem?_cons_zero→G_,mem_map_of_mem→I_,map_nil→K_,set_cons_zero→N_,map_toArray→Q_,cons_append→R_,nil_append→T_,nodup_nil→W_,mem_map→Z_
open Nat renaming reduceLeDiff→f_,reduceEqDiff→g_,reduceAdd→h_,reduceSub→i_,le_refl→k_,zero_le→A_,le_succ→H_,le_trans→J_,succ_pos→M_,one_pos→P_,lt_succ_self→S_,mul_le_mul→U_
open Below renaming refl→j_,alloc→r_,drew→u_,setCell→F_,heap_setCell→L_
open Builtin renaming append_→v_,nextslicecap→w_,firstCells→z_,lenOf→D_
open Region renaming wanted→y_
open Or renaming inl→C_
section
variable{P:Program}{f:Nat}
def PG(l:List D)(w:World)(e:Ending)(w':World):Prop:=∃fp v,e= .returned v∧Sl w' l fp v∧aV w' w.heap.size fp∧Below w.heap.size w w'
theorem VZ{ds:List D}{l:List D}{e s:Nat}(h:dX P f ds (.c false [.own 0 0]) [⟨l,e,s,0,⟨true,true⟩⟩]){w:World}{vs:List Value}(hr:Rds w ds vs)(ht:nJ w):Calls P f vs.toArray w (PG l w):=(h w vs hr ht).mono fun en w' ⟨v,om,h1,h2,h3,h4⟩=>by
 have h8:Oks ⟨w.heap.size,om,[],[]⟩ [⟨l,e,s,0,⟨true,true⟩⟩] w' [.own 0 0] [v]:=h3;obtain⟨fp,r,m⟩:=H7 (dd:= [.sl l]) h2 h4 ht rfl (by simp[lcK]) (by simp[lcK,fA]) h8;rw[dJ]at r;obtain⟨f1,f2,c1,c2,hf,hc,hR,h9⟩:=r;obtain⟨rfl,rfl⟩:=h9;simp only[e_]at hf hc;subst hf hc;exact⟨_,v,h1,hR,m,h4⟩
theorem LK{ds:List D}(h:aB P f ds (.c false [.raw (.slice none 0 0)])){w:World}{vs:List Value}(hr:Rds w ds vs)(ht:nJ w):Calls P f vs.toArray w (PG [] w):=(h w vs hr ht).mono fun en w' ⟨v,h1,h2,h3⟩=>by
 obtain rfl:v= .slice none 0 0:=h2.1;refine⟨[],_,h1, ?_,aV.nil,h3⟩;unfold Sl;rw[R];exact⟨none,0,rfl,k_ _,A_ _,C_ ⟨rfl,rfl⟩⟩
def RJ(l:List D)(w:World)(e:Ending)(w':World):Prop:=∃fp v,e= .returned v∧Sl w' l fp v∧vS w' w.heap.size fp∧Below w.heap.size w w'
theorem VY{ds:List D}{l:List D}(h:aB P f ds (.c false [.sl true l])){w:World}{vs:List Value}(hr:Rds w ds vs)(ht:nJ w):Calls P f vs.toArray w (RJ l w):=(h w vs hr ht).mono fun en w' ⟨v,h1,h2,h3⟩=>by
 have h8:Oks (jA w.heap.size) [] w' [.sl true l] [v]:=h2;obtain⟨fp,g1,g2⟩:=h8.1;exact⟨fp,v,h1,g1,⟨trivial,fun b hb=>⟨mO.1 (g2 b hb).1,trivial⟩⟩,h3⟩
def D.ff(d:D):D:= .agg d.flat
theorem aaw{d:D}{w:World}{fp:List Nat}{cs:List Value}:R w d.ff fp cs↔R w d fp cs:=by
 unfold D.ff;rw[dJ];exact lM.symm
theorem U2{α:Type}{g:α→D}{w:World}:∀{l:List α} {fp:List Nat} {cs:List Value},Rs w (l.map fun x=>(g x).ff) fp cs→Rs w (l.map g) fp cs
 | [],_,_,h=>h
 | x::l,fp,cs,h=>by
   rw[E_,Rs]at h⊢;obtain⟨f1,f2,c1,c2,h1,h2,h3,h4⟩:=h;exact⟨f1,f2,c1,c2,h1,h2,aaw.1 h3,U2 h4⟩
theorem ZP{α:Type}{g:α→D}{w:World}{l:List α}{fp:List Nat}{v:Value}(h:Sl w (l.map fun x=>(g x).ff) fp v):Sl w (l.map g) fp v:=by
 unfold Sl at h⊢;rw[R]at h⊢;obtain⟨A,c,h1,h2,h3,h4⟩:=h;refine⟨A,c,by rw[h1,l_,l_],by rw[l_]at h2⊢;exact h2,h3, ?_⟩;rcases h4 with⟨h4,h5⟩|⟨b,o,fp',cs',h4,h5,h6,h7,h8⟩
 ·exact C_ ⟨by rw[List.map_eq_nil_iff]at h4⊢;exact h4,h5⟩
 ·exact Or.inr ⟨b,o,fp',cs',h4,h5,h6,U2 h7,h8⟩
theorem aB.Zi{α:Type}{g:α→D}{ds:List D}{l:List α}{b:Bool}(h:aB P f ds (.c false [.sl b (l.map fun x=>(g x).ff)])):aB P f ds (.c false [.sl b (l.map g)]):=fun w vs hr ht=>(h w vs hr ht).mono fun en w' ⟨v,h1,h2,h3⟩=>by
 have h8:Oks (jA w.heap.size) [] w' [.sl b (l.map fun x=>(g x).ff)] [v]:=h2;obtain⟨fp,g1,g2⟩:=h8.1;exact⟨v,h1,show Oks (jA w.heap.size) [] w' [.sl b (l.map g)] [v] from⟨⟨fp,ZP g1,g2⟩,trivial⟩,h3⟩
theorem dX.Zi{α:Type}{g:α→D}{ds:List D}{l:List α}{r:AV}{e s v:Nat}{nw:Nw}(hel:El s (l.map g))(h:dX P f ds r [⟨l.map fun x=>(g x).ff,e,s,v,nw⟩]):dX P f ds r [⟨l.map g,e,s,v,nw⟩]:=fun w vs hr ht=>(h w vs hr ht).mono fun en w' ⟨u,om,h1,⟨h2,h3,h4,h5,h6⟩,h7,h8⟩=>by
 have one:∀(k:Nat) (o:Own),([⟨l.map g,e,s,v,nw⟩]:List Own)[k]? =some o→k=0∧o=⟨l.map g,e,s,v,nw⟩:=fun k o hk=>by
  cases k with
  |zero=>simp at hk;exact⟨rfl,hk.symm⟩
  |succ k=>simp at hk
 have get0:([⟨l.map fun x=>(g x).ff,e,s,v,nw⟩]:List Own)[0]? =some ⟨l.map fun x=>(g x).ff,e,s,v,nw⟩:=rfl;refine⟨u,om,h1,⟨h2,fun k o p hk hp=> ?_,h4,⟨fun k o p hk hp hl=> ?_,fun i j o o' p p' hij hi hj _ _ _ _=> ?_⟩,fun k o p hk hp hl=> ?_⟩,h7.sim ?_,h8⟩
 ·obtain⟨rfl,rfl⟩:=one k o hk;obtain⟨cs,g1,g2,_,g4⟩:=h3 0 _ p get0 hp;exact⟨cs,by simpa using g1,U2 g2,hel,g4⟩
 ·obtain⟨rfl,rfl⟩:=one k o hk;exact h5.1 0 _ p get0 hp hl
 ·obtain⟨rfl,_⟩:=one i o hi;obtain⟨rfl,_⟩:=one j o' hj;exact absurd rfl hij
 ·obtain⟨rfl,rfl⟩:=one k o hk;exact h6 0 _ p get0 hp hl
 ·exact
   { base:=rfl,size:=k_ _,blk:=fun b _ _=>rfl,old:=fun b _ hm=>hm,box:=fun j p hp=>hp
     own:=fun j o p hj hp=>by
      cases j with
      | zero=>
        simp at hj;subst hj;exact⟨_,p,rfl,hp,k_ _,fun _=>⟨rfl,rfl⟩⟩
      |succ j=>simp at hj}
end
end
section
open Value renaming oneCell'→a_,ownBlock→B_
open Bool renaming false_eq_true→b_
open List renaming flatMap_cons→c_,flatMap_nil→d_,append_nil→e_,length_map→l_,take_append_getElem→m_,length_cons→n_,length_nil→o_,eq_nil_of_length_eq_zero→p_,length_append→q_,getElem_mem→s_,length_take→t_,take_length→x_,map_cons→E_,getElem?_cons_zero→G_,mem_map_of_mem→I_,map_nil→K_,set_cons_zero→N_,map_toArray→Q_,cons_append→R_,nil_append→T_,nodup_nil→W_,mem_map→Z_
open Nat renaming reduceLeDiff→f_,reduceEqDiff→g_,reduceAdd→h_,reduceSub→i_,le_refl→k_,zero_le→A_,le_succ→H_,le_trans→J_,succ_pos→M_,one_pos→P_,lt_succ_self→S_,mul_le_mul→U_
open Below renaming refl→j_,alloc→r_,drew→u_,setCell→F_,heap_setCell→L_
open Builtin renaming append_→v_,nextslicecap→w_,firstCells→z_,lenOf→D_
open Region renaming wanted→y_
open Or renaming inl→C_
attribute [local irreducible] sw sd sn
theorem OI(l:List ByteArray):pU (l.map ls):=fun w f cs h=>lK l w f cs h
theorem Wj{os:List Own}{k:Nat}{o:Own}(h:os[k]? =some o)(hl:pU o.l):∀o',os[k]? =some o'→pU o'.l:=fun o' h'=>by rw[h]at h';injection h' with h';subst h';exact hl
def QV :IC:=(zd_ [zz_ 2 (.mov (.k (.slice none 0 0)))] (zd_ [zz_ 6 (.brow true 42 7 0 false []),zw_ 3 6] (.seq (zd_ [zw_ 7 0,zf_ 8 false 7,zk_ 9 0] (.block 0 (.loop (zd_ [zl_ 10 .lss 9 8] (.seq (.cond (.t 10) .skip (.exit 0)) (.seq (.block 1 (zd_ [ze_ 11 7 7 9,zr_ 12 7 11,zz_ 5 (.alloc [(.int .i64 0),(.int .i64 0),(.int .i64 0),(.string ⟨#[]⟩),(.slice none 0 0),(.slice none 0 0),(.slice none 0 0)]),⟨none,none,.store 7 (.t 5) (.t 12)⟩] (.reg false [zw_ 13 3,zr_ 14 7 5,zq_ 15 45 14,zz_ 16 (.brow false 42 7 1 false [(.t 15)]),zz_ 17 (.app 42 7 (.t 13) (.t 16)),zw_ 3 17]))) (.reg false [zm_ 18 .add 9 1,zw_ 9 18]))))))) (zd_ [zw_ 19 3,zw_ 2 19] .ret))))
theorem OY :ak Tryz.prog (Tryz.f70.body.getD .skip)=some QV:=by kernel_rfl
theorem TQ(l:List GVal)(hn:l.length≤1048576)(hrec:∀x∈l,dX Tryz.prog 45 [x.toD] (.c true [.raw (.int .i64 x.kind),.raw (.int .i64 x.n),.raw (.int .i64 x.step),.raw (.string x.text),.own 0 0,.own 1 0,.own 2 0]) [⟨x.list.map GVal.toD,42,7,0,⟨true,true⟩⟩,⟨x.cols.map ls,9,1,0,⟨true,true⟩⟩,⟨x.rows.map GRow.toD,95,2,0,⟨true,true⟩⟩]):dX Tryz.prog 70 [.sl (l.map GVal.toD)] (.c false [.own 0 0]) [⟨l.map GVal.toD,42,7,0,⟨true,true⟩⟩]:=by
 refine qE (fn:=Tryz.f70) (r:= .tmp 2) (hc:=OY) (h:= ?_);unfold QV;refine zb_ ?_;change AWP _ _ _ (st0 20 _);refine sS trivial ?_
 repeat' (first|(refine rg_ ?_;intro K hK)|(refine hq_ ?_;clear hK K)|refine ca_ ?_ ?_|refine sz_ trivial ?_|refine nv ?_|(refine c2_ ?_ ?_<;>(intro hb hb';try(exfalso;omega)))|exact bq_|fail)
 refine FH 0 (Wj rfl H8) rfl ?_;simp only[Td,G_,N_];refine dZ (X:=Nat×Nat) (fun q=> [.d,.d,.d,.v (.c false [.own 0 q.2]),.d,.d,.d,.k,.k,.v (.c false [.raw (.int .i64 (q.1:Nat))])]) (fun q=> [⟨(l.take q.1).map GVal.toD,42,7,q.2,⟨true,true⟩⟩]) (fun q bs=> []) (fun q=>q.1≤l.length) (fun q=>l.length - q.1) (0,0) (A_ _) ?_ ?_
 ·simp[bU,dW,bH,bK,AV.fits,AC.fits,FB,bQ]
 rintro⟨k,v⟩ hk;have hk':k≤l.length:=hk;clear hk;simp only[FB,bQ];by_cases hlk:k<l.length
 ·have hc:=hrec l[k] (s_ hlk);have hs:=kH l hlk;have hg:=dh GVal.toD l hlk
  repeat' (first|(refine rg_ ?_;intro K hK)|(refine hq_ ?_;clear hK K)|refine ca_ ?_ ?_|(refine cg_ ?_;first|(refine rQ hc rfl (by simp) ?_ ?_))|refine sz_ (aaA hg @fA.eq_1) ?_|refine nv ?_|(refine c2_ ?_ ?_<;>(intro hb hb';try(exfalso;omega)))|exact bq_|fail)
  all_goals first
   |exact GVal.el _
   |(simp only[l_,q_,n_,o_,t_];omega)
   | (refine dB (k+1,v+1) ?_ (show k+1≤l.length by omega) (show l.length - (k+1)<l.length - k by omega)
      simp[bU,dW,bH,bK,AV.fits,AC.fits,FB,bQ,hs,GVal.aj,li,ls, -m_])
 ·obtain rfl:k=l.length:=by omega
  rw[x_]
  repeat' (first|(refine rg_ ?_;intro K hK)|(refine hq_ ?_;clear hK K)|refine ca_ ?_ ?_|refine sz_ trivial ?_|refine nv ?_|(refine c2_ ?_ ?_<;>(intro hb hb';try(exfalso;omega)))|exact bq_|fail)
  exact aU ⟨[0],by simp,⟨⟨_,rfl,rfl,C_ ⟨rfl,rfl⟩⟩,trivial⟩,⟨_,rfl,by simp[kE,qJ]⟩⟩
def Wv :IC:=(zd_ [zz_ 1 (.box (.t 0)),zz_ 2 (.alloc [(.int .i64 0),(.int .i64 0),(.int .i64 0),(.string ⟨#[]⟩),(.slice none 0 0),(.slice none 0 0),(.slice none 0 0)])] (zd_ [zr_ 6 7 1,zz_ 3 (.alloc [(.int .i64 0),(.int .i64 0),(.int .i64 0),(.string ⟨#[]⟩),(.slice none 0 0),(.slice none 0 0),(.slice none 0 0)]),⟨none,none,.store 7 (.t 3) (.t 6)⟩] (zd_ [zt_ 7 4 1,zs_ 8 1 7,zq_ 9 70 8,zt_ 10 4 3,⟨none,none,.store 1 (.t 10) (.t 9)⟩] (zd_ [zz_ 11 (.brow true 9 1 0 false []),zt_ 12 5 1,zs_ 13 1 12,zz_ 14 (.app 9 1 (.t 11) (.t 13)),zt_ 15 5 3,⟨none,none,.store 1 (.t 15) (.t 14)⟩] (zd_ [zt_ 16 6 3,⟨none,none,.store 1 (.t 16) (.k (.slice none 0 0))⟩] (.seq (zd_ [zt_ 17 6 1,zs_ 18 1 17,zf_ 19 false 18,zk_ 20 0] (.block 0 (.loop (zd_ [zl_ 21 .lss 20 19] (.seq (.cond (.t 21) .skip (.exit 0)) (.seq (.block 1 (zd_ [ze_ 22 2 18 20,zr_ 23 2 22,zz_ 5 (.alloc [(.slice none 0 0),(.slice none 0 0)]),⟨none,none,.store 2 (.t 5) (.t 23)⟩] (.regN true true [] [zt_ 24 6 3,zs_ 25 1 24,zr_ 26 2 5,zq_ 27 71 26,zz_ 28 (.brow false 95 2 1 false [(.t 27)]),zz_ 29 (.app 95 2 (.t 25) (.t 28)),zt_ 30 6 3,⟨none,none,.store 1 (.t 30) (.t 29)⟩]))) (.reg false [zm_ 31 .add 20 1,zw_ 20 31]))))))) (zd_ [zr_ 32 7 3,⟨none,none,.store 7 (.t 2) (.t 32)⟩] .ret)))))))
theorem Tj :ak Tryz.prog (Tryz.f45.body.getD .skip)=some Wv:=by kernel_rfl
theorem Xr(x:GVal)(hw:x.toD.wt≤1048576)(hlist:dX Tryz.prog 70 [.sl (x.list.map GVal.toD)] (.c false [.own 0 0]) [⟨x.list.map GVal.toD,42,7,0,⟨true,true⟩⟩]):dX Tryz.prog 45 [x.toD] (.c true [.raw (.int .i64 x.kind),.raw (.int .i64 x.n),.raw (.int .i64 x.step),.raw (.string x.text),.own 0 0,.own 1 0,.own 2 0]) [⟨x.list.map GVal.toD,42,7,0,⟨true,true⟩⟩,⟨x.cols.map ls,9,1,0,⟨true,true⟩⟩,⟨x.rows.map GRow.toD,95,2,0,⟨true,true⟩⟩]:=by
 have hlen:=DI x;refine qE (fn:=Tryz.f45) (r:= .cell 2 42) (hc:=Tj) (h:= ?_);unfold Wv;refine zb_ ?_;change AWP _ _ _ (st0 33 _);refine sS trivial ?_
 repeat' (first|(refine hq_ ?_;clear hK K)|refine ca_ ?_ ?_|(refine cg_ ?_;first|(refine rQ hlist rfl (by simp) ?_ ?_))|refine sz_ @fA.eq_1 ?_|refine nv ?_|(refine rD ?_;intro K hK)|(refine c2_ ?_ ?_<;>(intro hb hb';try(exfalso;omega)))|exact bq_|fail)
 refine FH 1 (Wj rfl (OI _)) rfl ?_;refine XC 2 6 95 2 true rfl rfl ?_;simp only[St.LP,Td,G_,List.getElem?_cons_succ,N_,List.set_cons_succ,n_,o_,List.getD_cons_zero,List.getD_cons_succ,R_,T_,h_];refine dZ (X:=Nat×Nat) (fun q=> [.d,.d,.k,.k,.d,.d,.d,.d,.d,.d,.d,.d,.d,.d,.d,.d,.d,.d,.k,.k,.v (.c false [.raw (.int .i64 (q.1:Nat))])]) (fun q=> [⟨x.list.map GVal.toD,42,7,0,⟨true,true⟩⟩,⟨x.cols.map ls,9,1,1,⟨true,true⟩⟩,⟨(x.rows.take q.1).map GRow.toD,95,2,q.2,⟨true,true⟩⟩]) (fun q bs=> [[.raw (.int .i64 x.kind),.raw (.int .i64 x.n),.raw (.int .i64 x.step),.raw (.string x.text),.sl false (x.list.map GVal.toD),.sl false (x.cols.map ls),.sl false (x.rows.map GRow.toD)],[.raw (.int .i64 0),.raw (.int .i64 0),.raw (.int .i64 0),.raw (.string ⟨#[]⟩),.raw (.slice none 0 0),.raw (.slice none 0 0),.raw (.slice none 0 0)],[.raw (.int .i64 x.kind),.raw (.int .i64 x.n),.raw (.int .i64 x.step),.raw (.string x.text),.own 0 0,.own 1 1,.own 2 q.2]]) (fun q=>q.1≤x.rows.length) (fun q=>x.rows.length - q.1) (0,0) (A_ _) ?_ ?_
 ·simp[bU,dW,bH,bK,AV.fits,AC.fits,FB,bQ]
 rintro⟨k,v⟩ hk;have hk':k≤x.rows.length:=hk;clear hk;simp only[FB,bQ];by_cases hlk:k<x.rows.length
 ·have hrw:=DZ x (s_ hlk);have hc:=TR x.rows[k] (by omega) (by omega);have hs:=kH x.rows hlk;have hg:=dh GRow.toD x.rows hlk
  repeat' (first|(refine rg_ ?_;intro K hK)|((first|(refine TY 100 (by simp[zT,St.ev]) ?_)|(with_reducible refine zy 100 true NH ?_)|(refine zy 100 true (by simp[zT,St.ev]) ?_));intro K hK)|refine nN ?_|(refine hq_ ?_;clear hK K)|refine ca_ ?_ ?_|(refine cg_ ?_;first|(refine ZE (h:=hc.xe) (hK:= ?_);rintro _ _ ⟨rfl,rfl⟩))|((with_reducible refine UK ?_);first|(refine aar (h:=hc.xe) (hne:=⟨_,_,⟨rfl,rfl⟩,rfl⟩) (hr:= ?_);rintro _ _ ⟨rfl,rfl⟩))|refine sz_ (aaA hg @fA.eq_1) ?_|refine nv ?_|(refine c2_ ?_ ?_<;>(intro hb hb';try(exfalso;omega)))|exact bq_|fail)
  all_goals first
   |exact GRow.el _
   |(simp only[l_,q_,n_,o_,t_];omega)
   | (refine dB (k+1,v+1) ?_ (show k+1≤x.rows.length by omega) (show x.rows.length - (k+1)<x.rows.length - k by omega)
      simp[bU,dW,bH,bK,AV.fits,AC.fits,FB,bQ,hs,GRow.aj,li,ls, -m_])
 ·obtain rfl:k=x.rows.length:=by omega
  rw[x_]
  repeat' (first|(refine hq_ ?_;clear hK K)|refine ca_ ?_ ?_|(refine cg_ ?_;first|(refine rQ hlist rfl (by simp) ?_ ?_))|refine sz_ @fA.eq_1 ?_|refine nv ?_|(refine rD ?_;intro K hK)|(refine c2_ ?_ ?_<;>(intro hb hb';try(exfalso;omega)))|exact bq_|fail)
  exact aU ⟨[0,1,2],by simp,⟨⟨_,rfl,rfl,C_ ⟨rfl,rfl⟩⟩,⟨_,rfl,rfl,C_ ⟨rfl,rfl⟩⟩,⟨_,rfl,rfl,C_ ⟨rfl,rfl⟩⟩,trivial⟩,⟨1,_,rfl,rfl,by simp[kE,qJ]⟩⟩
theorem Ru :∀(n:Nat) (x:GVal),x.toD.wt<n→x.toD.wt≤1048576→dX Tryz.prog 45 [x.toD] (.c true [.raw (.int .i64 x.kind),.raw (.int .i64 x.n),.raw (.int .i64 x.step),.raw (.string x.text),.own 0 0,.own 1 0,.own 2 0]) [⟨x.list.map GVal.toD,42,7,0,⟨true,true⟩⟩,⟨x.cols.map ls,9,1,0,⟨true,true⟩⟩,⟨x.rows.map GRow.toD,95,2,0,⟨true,true⟩⟩]
 |0,x,h,_=>by omega
 |n+1,x,h,hw=>Xr x hw (TQ x.list (by have:=DI x;omega) fun y hy=>Ru n y (by have:=Dq x hy;omega) (by have:=Dq x hy;omega))
theorem BP(x:GVal)(hw:x.toD.wt≤1048576):dX Tryz.prog 45 [x.toD] (.c true [.raw (.int .i64 x.kind),.raw (.int .i64 x.n),.raw (.int .i64 x.step),.raw (.string x.text),.own 0 0,.own 1 0,.own 2 0]) [⟨x.list.map GVal.toD,42,7,0,⟨true,true⟩⟩,⟨x.cols.map ls,9,1,0,⟨true,true⟩⟩,⟨x.rows.map GRow.toD,95,2,0,⟨true,true⟩⟩]:=Ru _ x (S_ _) hw
end
section
open Value renaming oneCell'→a_,ownBlock→B_
open Bool renaming false_eq_true→b_
open List renaming flatMap_cons→c_,flatMap_nil→d_,append_nil→e_,length_map→l_,take_append_getElem→m_,length_cons→n_,length_nil→o_,eq_nil_of_length_eq_zero→p_,length_append→q_,getElem_mem→s_,length_take→t_,take_length→x_,map_cons→E_,getElem?_cons_zero→G_,mem_map_of_mem→I_,map_nil→K_,set_cons_zero→N_,map_toArray→Q_,cons_append→R_,nil_append→T_,nodup_nil→W_,mem_map→Z_
open Nat renaming reduceLeDiff→f_,reduceEqDiff→g_,reduceAdd→h_,reduceSub→i_,le_refl→k_,zero_le→A_,le_succ→H_,le_trans→J_,succ_pos→M_,one_pos→P_,lt_succ_self→S_,mul_le_mul→U_
open Below renaming refl→j_,alloc→r_,drew→u_,setCell→F_,heap_setCell→L_
open Builtin renaming append_→v_,nextslicecap→w_,firstCells→z_,lenOf→D_
open Region renaming wanted→y_
open Or renaming inl→C_
end
end Go.Proofs.YtagaefgglphkgaaGreat
