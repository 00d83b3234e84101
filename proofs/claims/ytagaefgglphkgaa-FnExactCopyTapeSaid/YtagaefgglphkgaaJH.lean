/-
  Texts joined: RowC RowF Copy LawO CopyF Tp.
-/
import Derived.Test.YtagaefgglphkgaaJE
import Derived.Test.YtagaefgglphkgaaJA
import Derived.Test.YtagaefgglphkgaaJG
set_option maxHeartbeats 8000000
set_option maxRecDepth 20000
set_option linter.unusedSimpArgs false
set_option linter.unusedVariables false
namespace Go.Proofs.Ytagaefgglphkgaa
open Go.RowKit
section
open Value renaming oneCell'→a_,ownBlock→K_
open Bool renaming false_eq_true→b_
open List renaming flatMap_cons→c_,flatMap_nil→d_,append_nil→g_,length_map→l_,take_append_getElem→m_,length_cons→n_,length_nil→o_,getElem_mem→p_,length_append→q_,length_take→r_,eq_nil_of_length_eq_zero→u_,take_length→v_,map_cons→B_,mem_map_of_mem→D_,getElem?_cons_zero→F_,cons_append→H_,map_nil→I_,nil_append→J_,set_cons_zero→L_,replicate→Q_,mem_map→S_,map_toArray→V_,nodup_nil→Y_
open Nat renaming reduceLeDiff→e_,reduceEqDiff→f_,reduceAdd→h_,reduceSub→i_,le_refl→k_,zero_le→w_,le_succ→G_,succ_pos→N_,lt_succ_self→O_,one_pos→P_,le_trans→R_,mul_le_mul→W_
open Below renaming refl→j_,alloc→s_,drew→t_,setCell→C_,heap_setCell→T_
open Builtin renaming append_→x_,nextslicecap→z_,firstCells→E_,lenOf→M_
open Or renaming inl→y_
open Region renaming wanted→A_
attribute [local irreducible] sw sd sn
theorem jU.none{w:World}{base:Nat}{e:TypeId}{s:Nat}:jU w base e s [] [] (.slice none 0 0):=⟨[],World.ownsRow_nil w base e s,⟨rfl,rfl⟩,aX.nil,fun g hg=>by simp[K_]at hg⟩
theorem Ec{P:Program}{w:World}(k:EK P)(ty:TypeId)(ad:Addr)(l:List D)(vx:Value)(hsrc:Src w l [] vx)(h1:∀d∈l,d.one)(hds:∀d∈l,d.sz=k.s)(hn:l.length≤4194304):
 ∃v' w',(x_ #[k.t,k.t] ty #[.slice (some ad) 0 0,vx]).run P w= .ok v' w'∧(∃f,Sl w' l f v'∧∀b∈f,w.heap.size≤b)∧Below w.heap.size w w':=by
 obtain⟨i,z,hi,hz,hsz,hby,hzs⟩:=k.info;by_cases h0:l= []
 ·subst h0;obtain⟨A,c,cs,rfl,hr,hcs⟩:=hsrc;refine⟨.slice (some ad) 0 0,w, ?_,⟨[], ?_,by simp⟩,j_ _ _⟩
  ·cases A<;>simp[x_,run_underlying k.ht,sizeOf,typeInfo,hi,M_,E_,loadCells,loadCellsFrom,storeCells]
  ·unfold Sl;rw[R];exact⟨some ad,0,by simp,by simp,by simp,y_ ⟨rfl,rfl⟩⟩
 ·obtain⟨v',w',hrun,h2,h3,_⟩:=uD (P:=P) (w:=w) k ty w.heap.size (.slice none 0 0) [] [] jU.none l [] vx hsrc h1 hds Hg (by simp) (by simpa using hn) (k_ _);refine⟨v',w', ?_,⟨_,h2.sl,fun b hb=>(h2.free.2 b hb).1⟩,DF (j_ _ _) h3 (k_ _) (fun g hg=>by simp[K_]at hg)⟩;obtain⟨A,c,cs,rfl,hr,hcs⟩:=hsrc;rw[← hrun];have hm:l.length≠0:=fun e=>h0 (u_ e)
  have hbytes:z_ l.length 0*i.bytes≤281474976710656:=growslice_fits (by omega) (R_ (W_ hn hby) (by decide));have h63:¬(9223372036854775807<(l.length:Int)):=by omega
  have h48:¬(281474976710656<z_ l.length 0*i.bytes):=by omega
  simp[x_,run_underlying k.ht,sizeOf,typeInfo,hi,M_,E_,loadCells,loadCellsFrom,hm,h63,h48]
theorem lN{P:Program}{w:World}{ops:Array Oper}{o:Oper}{a:Act}{K:Act→World→Prop}{Q:Exit→Act→World→Prop}{E:Prop}(hgd:o.guard=none)(k:EK P)(s x:Operand)
 (ho:o.op= .call {callee:= .builtin .append,args:= #[s,x],argTypes:= #[k.t,k.t]})
 (ad:Addr) (hs:a.eval s= .slice (some ad) 0 0) (l:List D) (vx:Value) (hx:a.eval x=vx) (hsrc:Src w l [] vx) (h1:∀d∈l,d.one) (hds:∀d∈l,d.sz=k.s) (hn:l.length≤4194304)
 (h:∀v' w',(∃f,Sl w' l f v'∧∀b∈f,w.heap.size≤b)→Below w.heap.size w w'→K (a.put o.dst v') w'):
 if A_ o (yielded ops a.tmps)=true then Oper.wp P o a w K Q else E:=by
 have hw:A_ o (yielded ops a.tmps)=true:=by simp[A_,hgd]
 rw[if_pos hw];obtain⟨v',w',hrun,h2,h3⟩:=Ec (P:=P) (w:=w) k o.type ad l vx hsrc h1 hds hn;unfold Oper.wp execOp;simp only[ho,resolve,invoke,builtin,Sem.run_bind,Sem.run_pure,Result.andThen_ok,V_,B_,I_,hs,hx,hrun];exact h v' w' h2 h3
theorem KQ{w w1 w2:World}{l:List D}{v:Value}{B:Nat}(h:∃f,Sl w l f v∧∀b∈f,B≤b)(h1:Below w.heap.size w w1)(h2:Below w1.heap.size w1 w2):∃f,Sl w2 l f v∧∀b∈f,B≤b:=by
 obtain⟨f,g1,g2⟩:=h;exact⟨f,(g1.below h1).below h2,g2⟩
theorem KX{w:World}{l:List D}{v:Value}{B:Nat}(h:∃f,Sl w l f v∧∀b∈f,B≤b):∃A n c,v= .slice A n c:=by
 obtain⟨f,g1,_⟩:=h;obtain⟨A,c,e,_,_⟩:=g1.form;exact⟨A,_,c,e⟩
theorem CY{w:World}{g:Nat}{e:TypeId}{xs:List Value}(h:Row w g e xs)(i:Nat):w.frozen? ⟨g,i,none⟩=false:=by
 unfold Row at h;simp[World.frozen?,h]
theorem Ef{w:World}{l:List D}{v:Value}{B B2:Nat}(h:∃f,Sl w l f v∧∀b∈f,B≤b)(hb:B2≤B):∃f,Sl w l f v∧∀b∈f,B2≤b:=by
 obtain⟨f,g1,g2⟩:=h;exact⟨f,g1,fun b hm=>R_ hb (g2 b hm)⟩
theorem Ro{w:World}{l:List D}{v:Value}{B:Nat}(h:∃f,Sl w l f v∧∀b∈f,B+2≤b)(i j:Nat)(u u':Value):∃f,Sl ((w.setCell ⟨B+1,i,none⟩ u).setCell ⟨B+1,j,none⟩ u') l f v∧∀b∈f,B≤b:=by
 obtain⟨f,g1,g2⟩:=h;have hno:B+1∉f:=fun hm=>by have:=g2 _ hm;omega
 exact⟨f,R.setCell (R.setCell g1 (p:=⟨B+1,i,none⟩) hno u) (p:=⟨B+1,j,none⟩) hno u',fun b hm=>by have:=g2 b hm;omega⟩
theorem Ai{l:List Int}:∀d∈l.map li,d.one:=fun d h=>by obtain⟨x,_,rfl⟩:=S_.1 h;rfl
theorem Et{l:List Int}:∀d∈l.map li,d.sz=1:=fun d h=>by obtain⟨x,_,rfl⟩:=S_.1 h;rfl
theorem EH(l:List Int){w:World}:∀(f:List Nat) (cs:List Value),Rs w (l.map li) f cs→f= []:=fun f cs h=>Nq l w f cs h
theorem EG(l:List GOrigin){w:World}:∀(f:List Nat) (cs:List Value),Rs w (l.map GOrigin.toD) f cs→f= []:=fun f cs h=>GOrigin.KY l w f cs h
def Fa(xs:List Int)(ys:List GOrigin)(w:World)(e:Ending)(w':World):Prop:=∃v0 v1,e= .returned (.agg #[v0,v1])∧(∃f,Sl w' (xs.map li) f v0∧∀b∈f,w.heap.size≤b)∧(∃f,Sl w' (ys.map GOrigin.toD) f v1∧∀b∈f,w.heap.size≤b)∧Below w.heap.size w w'
theorem EO(xs:List Int)(ys:List GOrigin)(w:World)(f0 f1:List Nat)(v0 v1:Value)(h0:Sl w (xs.map li) f0 v0)(h1:Sl w (ys.map GOrigin.toD) f1 v1)(hn0:xs.length≤4194304)(hn1:ys.length≤4194304):
 Calls Try.prog 87 #[.agg #[v0,v1]] w (Fa xs ys w):=by
 obtain⟨A0,c0,e0,_,_⟩:=h0.ak;obtain⟨A1,c1,e1,_,_⟩:=h1.ak;clear e0 e1;have tok1:True:=trivial;have tok2:True:=trivial
 go_enter Try.func87,Try.ntmps87
 go_wp2_with fail
 go_region_held3 (fun w'=>w'.cell? ⟨w.heap.size,0,none⟩=some v0∧w'.cell? ⟨w.heap.size,1,none⟩=some v1) (go_keep)
  (first
  |(have _t:=tok1;refine lN rfl Qj (.tmp 3) (.tmp 5) rfl _ (by rfl) (xs.map li) _ (by rfl) (Src.of_flat (h0.below ((by repeat' (first|exact j_ _ _|exact k_ _|exact hlA|exact hlB|exact hlA.size|exact hlB.size|apply t_|apply s_|(simp;done)|(simp;omega)):Below w.heap.size w _))) (EH _)) Ai Et (by simp;try omega) ?_;intro uA wA huA hcA;obtain⟨XA,nA,cA,rfl⟩:=KX huA;have huA:=Ef (B2:=w.heap.size+2) huA (by first|(simp;done)|(simp;omega)|(have:=hbB.size;simp at this⊢;omega));have hbA:Below ((w.alloc (.cells #[v0,v1] 111)).alloc (.cells #[.slice none 0 0,.slice none 0 0] 111)).heap.size ((w.alloc (.cells #[v0,v1] 111)).alloc (.cells #[.slice none 0 0,.slice none 0 0] 111)) wA:=((by repeat' (first|exact j_ _ _|exact k_ _|exact hbA|exact hbB|exact hbA.size|exact hbB.size|apply t_|apply s_|(simp;done)|(simp;omega))):Below _ _ _).trans (hcA.mono (by first|exact k_ _|exact hbA.size|exact hbB.size|(simp;done)|(simp;omega)|(have:=hbB.size;simp at this⊢;omega)));(first|have huB:=KQ huB (by repeat' (first|exact j_ _ _|exact k_ _|exact j_ _ _|exact j_ _ _|exact j_ _ _.size|exact j_ _ _.size|apply t_|apply s_|(simp;done)|(simp;omega))) hcA|skip);obtain⟨raA,rbA,hzA,hlA⟩:=qw hbA;have kaA:=raA.cell;have kbA:=rbA.cell;have fzA:=CY rbA;clear tok1 hcA)
  |(have _t:=tok2;refine lN rfl xu (.tmp 7) (.tmp 9) rfl _ (by rfl) (ys.map GOrigin.toD) _ (by rfl) (Src.of_flat (h1.below ((by repeat' (first|exact j_ _ _|exact k_ _|exact hlA|exact hlB|exact hlA.size|exact hlB.size|apply t_|apply s_|(simp;done)|(simp;omega)):Below w.heap.size w _))) (EG _)) GOrigin.sJ GOrigin.szs (by simp;try omega) ?_;intro uB wB huB hcB;obtain⟨XB,nB,cB,rfl⟩:=KX huB;have huB:=Ef (B2:=w.heap.size+2) huB (by first|(simp;done)|(simp;omega)|(have:=hbA.size;simp at this⊢;omega));have hbB:Below ((w.alloc (.cells #[v0,v1] 111)).alloc (.cells #[.slice none 0 0,.slice none 0 0] 111)).heap.size ((w.alloc (.cells #[v0,v1] 111)).alloc (.cells #[.slice none 0 0,.slice none 0 0] 111)) wB:=((by repeat' (first|exact j_ _ _|exact k_ _|exact hbA|exact hbB|exact hbA.size|exact hbB.size|apply t_|apply s_|(simp;done)|(simp;omega))):Below _ _ _).trans (hcB.mono (by first|exact k_ _|exact hbA.size|exact hbB.size|(simp;done)|(simp;omega)|(have:=hbA.size;simp at this⊢;omega)));(first|have huA:=KQ huA (by repeat' (first|exact j_ _ _|exact k_ _|exact j_ _ _|exact j_ _ _|exact j_ _ _.size|exact j_ _ _.size|apply t_|apply s_|(simp;done)|(simp;omega))) hcB|skip);obtain⟨raB,rbB,hzB,hlB⟩:=qw hbB;have kaB:=raB.cell;have kbB:=rbB.cell;have fzB:=CY rbB;clear tok2 hcB))
 all_goals
  go_wp2_with fail
  refine bodyPost_ret (v:= .agg #[.slice XA nA cA,.slice XB nB cB]) (by first|(simp[results,Try.results87,go_sem,kbB];done)|(simp[results,Try.results87,go_sem,kbA];done)) rfl ?_;exact⟨_,_,rfl,Ro huA _ _ _ _,Ro huB _ _ _ _,C_ (C_ (by first|exact hlA|exact hlB) (G_ _) _) (G_ _) _⟩
theorem EN(xs:List Int)(ys:List GOrigin)(w:World)(f0 f1:List Nat)(v0 v1:Value)(h0:Sl w (xs.map li) f0 v0)(h1:Sl w (ys.map GOrigin.toD) f1 v1)(hn0:xs.length≤4194304)(hn1:ys.length≤4194304):
 Calls Try.prog 81 #[.agg #[v0,v1]] w (Fa xs ys w):=by
 obtain⟨A0,c0,e0,_,_⟩:=h0.ak;obtain⟨A1,c1,e1,_,_⟩:=h1.ak;clear e0 e1;have tok1:True:=trivial;have tok2:True:=trivial
 go_enter Try.func81,Try.ntmps81
 go_wp2_with fail
 go_region_held3 (fun w'=>w'.cell? ⟨w.heap.size,0,none⟩=some v0∧w'.cell? ⟨w.heap.size,1,none⟩=some v1) (go_keep)
  (first
  |(have _t:=tok1;refine lN rfl Qj (.tmp 3) (.tmp 5) rfl _ (by rfl) (xs.map li) _ (by rfl) (Src.of_flat (h0.below ((by repeat' (first|exact j_ _ _|exact k_ _|exact hlA|exact hlB|exact hlA.size|exact hlB.size|apply t_|apply s_|(simp;done)|(simp;omega)):Below w.heap.size w _))) (EH _)) Ai Et (by simp;try omega) ?_;intro uA wA huA hcA;obtain⟨XA,nA,cA,rfl⟩:=KX huA;have huA:=Ef (B2:=w.heap.size+2) huA (by first|(simp;done)|(simp;omega)|(have:=hbB.size;simp at this⊢;omega));have hbA:Below ((w.alloc (.cells #[v0,v1] 111)).alloc (.cells #[.slice none 0 0,.slice none 0 0] 111)).heap.size ((w.alloc (.cells #[v0,v1] 111)).alloc (.cells #[.slice none 0 0,.slice none 0 0] 111)) wA:=((by repeat' (first|exact j_ _ _|exact k_ _|exact hbA|exact hbB|exact hbA.size|exact hbB.size|apply t_|apply s_|(simp;done)|(simp;omega))):Below _ _ _).trans (hcA.mono (by first|exact k_ _|exact hbA.size|exact hbB.size|(simp;done)|(simp;omega)|(have:=hbB.size;simp at this⊢;omega)));(first|have huB:=KQ huB (by repeat' (first|exact j_ _ _|exact k_ _|exact j_ _ _|exact j_ _ _|exact j_ _ _.size|exact j_ _ _.size|apply t_|apply s_|(simp;done)|(simp;omega))) hcA|skip);obtain⟨raA,rbA,hzA,hlA⟩:=qw hbA;have kaA:=raA.cell;have kbA:=rbA.cell;have fzA:=CY rbA;clear tok1 hcA)
  |(have _t:=tok2;refine lN rfl xu (.tmp 7) (.tmp 9) rfl _ (by rfl) (ys.map GOrigin.toD) _ (by rfl) (Src.of_flat (h1.below ((by repeat' (first|exact j_ _ _|exact k_ _|exact hlA|exact hlB|exact hlA.size|exact hlB.size|apply t_|apply s_|(simp;done)|(simp;omega)):Below w.heap.size w _))) (EG _)) GOrigin.sJ GOrigin.szs (by simp;try omega) ?_;intro uB wB huB hcB;obtain⟨XB,nB,cB,rfl⟩:=KX huB;have huB:=Ef (B2:=w.heap.size+2) huB (by first|(simp;done)|(simp;omega)|(have:=hbA.size;simp at this⊢;omega));have hbB:Below ((w.alloc (.cells #[v0,v1] 111)).alloc (.cells #[.slice none 0 0,.slice none 0 0] 111)).heap.size ((w.alloc (.cells #[v0,v1] 111)).alloc (.cells #[.slice none 0 0,.slice none 0 0] 111)) wB:=((by repeat' (first|exact j_ _ _|exact k_ _|exact hbA|exact hbB|exact hbA.size|exact hbB.size|apply t_|apply s_|(simp;done)|(simp;omega))):Below _ _ _).trans (hcB.mono (by first|exact k_ _|exact hbA.size|exact hbB.size|(simp;done)|(simp;omega)|(have:=hbA.size;simp at this⊢;omega)));(first|have huA:=KQ huA (by repeat' (first|exact j_ _ _|exact k_ _|exact j_ _ _|exact j_ _ _|exact j_ _ _.size|exact j_ _ _.size|apply t_|apply s_|(simp;done)|(simp;omega))) hcB|skip);obtain⟨raB,rbB,hzB,hlB⟩:=qw hbB;have kaB:=raB.cell;have kbB:=rbB.cell;have fzB:=CY rbB;clear tok2 hcB))
 all_goals
  go_wp2_with fail
  refine bodyPost_ret (v:= .agg #[.slice XA nA cA,.slice XB nB cB]) (by first|(simp[results,Try.results81,go_sem,kbB];done)|(simp[results,Try.results81,go_sem,kbA];done)) rfl ?_;exact⟨_,_,rfl,Ro huA _ _ _ _,Ro huB _ _ _ _,C_ (C_ (by first|exact hlA|exact hlB) (G_ _) _) (G_ _) _⟩
def ZB(w:World)(g:Nat)(e:TypeId):Prop:=Row w g e []
theorem ZB.here{w:World}{g:Nat}{e e':TypeId}(he:e=e')(h:g=w.heap.size):ZB (w.alloc (.cells #[] e)) g e':=by subst h he;exact Row.new w e #[]
theorem ZB.next{w:World}{g:Nat}{e:TypeId}{o:Obj}(h:ZB w g e):ZB (w.alloc o) g e:=Row.below h ((j_ _ _).alloc (k_ _) _)
theorem ZB.drew{w:World}{g:Nat}{e:TypeId}(h:ZB w g e):ZB w.drew g e:=h
theorem ZB.far{w w':World}{g n:Nat}{e:TypeId}(hb:Below n w w')(hg:g<n)(h:ZB w g e):ZB w' g e:=(hb.block g hg).trans h
def wC(w:World)(base:Nat)(e:TypeId)(s:Nat)(l:List D)(v:Value):Prop:=∃cs,aS w base e s v l.length cs∧Rs w l [] cs
theorem wC.form{w:World}{base e s:Nat}{l:List D}{v:Value}(h:wC w base e s l v):∃A n c,v= .slice A n c:=by
 obtain⟨cs,h1,_⟩:=h;obtain⟨A,c,h2⟩:=jE h1;exact⟨A,_,c,h2⟩
theorem wC.keep{w w1 w2:World}{base e s:Nat}{l:List D}{v:Value}(h:wC w base e s l v)(h1:Below w.heap.size w w1)(h2:Below w1.heap.size w1 w2):wC w2 base e s l v:=by
 obtain⟨cs,g1,g2⟩:=h;have g3:=jM g1 h1;exact⟨cs,jM g3 h2,(g2.below h1).below h2⟩
theorem wC.set{w:World}{B e s:Nat}{l:List D}{v:Value}(h:wC w (B+2) e s l v)(i j:Nat)(u u':Value):wC ((w.setCell ⟨B+1,i,none⟩ u).setCell ⟨B+1,j,none⟩ u') B e s l v:=by
 obtain⟨cs,g1,g2⟩:=h;refine⟨cs,kN (g1.same fun g hg=> ?_) (by omega),Rs.setCell (Rs.setCell g2 (p:=⟨B+1,i,none⟩) (by simp) u) (p:=⟨B+1,j,none⟩) (by simp) u'⟩;have h2:=(g1.lt g hg).1;have hne:g≠B+1:=by omega
 exact(T_ _ _ _ _ hne).trans (T_ _ _ _ _ hne)
theorem Ed{P:Program}{w:World}(k:EK P)(ty:TypeId)(ad:Addr)(base:Nat)(hz:ad=⟨ad.block,0,none⟩)(hZ:ZB w ad.block k.e)(hb:base≤ad.block)(l:List D)(vx:Value)(hsrc:Src w l [] vx)(h1:∀d∈l,d.one)(hds:∀d∈l,d.sz=k.s)(hn:l.length≤4194304):
 ∃v' w',(x_ #[k.t,k.t] ty #[.slice (some ad) 0 0,vx]).run P w= .ok v' w'∧wC w' base k.e k.s l v'∧Below w.heap.size w w':=by
 obtain⟨i,z,hi,hz',hsz,hby,hzs⟩:=k.info;by_cases h0:l= []
 ·subst h0;obtain⟨A,c,cs,rfl,hr,hcs⟩:=hsrc;refine⟨.slice (some ad) 0 0,w, ?_,⟨[],⟨by simp,Or.inr ⟨ad.block,0,0, #[],by rw[← hz];rfl,hb,hZ,by simp,by simp,by simp,by simp⟩⟩,⟨rfl,rfl⟩⟩,j_ _ _⟩;cases A<;>simp[x_,run_underlying k.ht,sizeOf,typeInfo,hi,M_,E_,loadCells,loadCellsFrom,storeCells]
 ·obtain⟨v',w',hrun,h2,h3,_⟩:=uD (P:=P) (w:=w) k ty w.heap.size (.slice none 0 0) [] [] jU.none l [] vx hsrc h1 hds Hg (by simp) (by simpa using hn) (k_ _);have hlt:ad.block<w.heap.size:=(Array.getElem?_eq_some_iff.1 hZ).1;refine⟨v',w', ?_, ?_,DF (j_ _ _) h3 (k_ _) (fun g hg=>by simp[K_]at hg)⟩
  ·obtain⟨A,c,cs,rfl,hr,hcs⟩:=hsrc;rw[← hrun];have hm:l.length≠0:=fun e=>h0 (u_ e)
   have hbytes:z_ l.length 0*i.bytes≤281474976710656:=growslice_fits (by omega) (R_ (W_ hn hby) (by decide));have h63:¬(9223372036854775807<(l.length:Int)):=by omega
   have h48:¬(281474976710656<z_ l.length 0*i.bytes):=by omega
   simp[x_,run_underlying k.ht,sizeOf,typeInfo,hi,M_,E_,loadCells,loadCellsFrom,hm,h63,h48]
  ·obtain⟨cs,o1,o2,o3,o4⟩:=h2;exact⟨cs,kN (aS.of o1) (by omega),by simpa using o2⟩
theorem sF{P:Program}{w:World}{ops:Array Oper}{o:Oper}{a:Act}{K:Act→World→Prop}{Q:Exit→Act→World→Prop}{E:Prop}(hgd:o.guard=none)(k:EK P)(s x:Operand)
 (ho:o.op= .call {callee:= .builtin .append,args:= #[s,x],argTypes:= #[k.t,k.t]})
 (ad:Addr) (base:Nat) (hs:a.eval s= .slice (some ad) 0 0) (hz:ad=⟨ad.block,0,none⟩) (l:List D) (vx:Value) (hx:a.eval x=vx) (hZ:ZB w ad.block k.e) (hb:base≤ad.block) (hsrc:Src w l [] vx) (h1:∀d∈l,d.one) (hds:∀d∈l,d.sz=k.s) (hn:l.length≤4194304)
 (h:∀v' w',wC w' base k.e k.s l v'→Below w.heap.size w w'→K (a.put o.dst v') w'):
 if A_ o (yielded ops a.tmps)=true then Oper.wp P o a w K Q else E:=by
 have hw:A_ o (yielded ops a.tmps)=true:=by simp[A_,hgd]
 rw[if_pos hw];obtain⟨v',w',hrun,h2,h3⟩:=Ed (P:=P) (w:=w) k o.type ad base hz hZ hb l vx hsrc h1 hds hn;unfold Oper.wp execOp;simp only[ho,resolve,invoke,builtin,Sem.run_bind,Sem.run_pure,Result.andThen_ok,V_,B_,I_,hs,hx,hrun];exact h v' w' h2 h3
theorem Td{w:World}{base e s n:Nat}{v:Value}{cs:List Value}(h:aS w base e s v n cs):∃A n c,v=Value.slice A n c:=by
 obtain⟨A,c,h2⟩:=jE h;exact⟨A,n,c,h2⟩
def QW(xs:List Int)(ys:List GOrigin)(e0 e1:TypeId)(w:World)(e:Ending)(w':World):Prop:=∃v0 v1,e= .returned (.agg #[v0,v1])∧wC w' w.heap.size e0 1 (xs.map li) v0∧wC w' w.heap.size e1 2 (ys.map GOrigin.toD) v1∧Below w.heap.size w w'
theorem Ny(xs:List Int)(ys:List GOrigin)(w:World)(f0 f1:List Nat)(v0 v1:Value)(h0:Sl w (xs.map li) f0 v0)(h1:Sl w (ys.map GOrigin.toD) f1 v1)(hn0:xs.length≤4194304)(hn1:ys.length≤4194304):
 Calls Try.prog 87 #[.agg #[v0,v1]] w (QW xs ys 3 126 w):=by
 obtain⟨A0,c0,e0,_,_⟩:=h0.ak;obtain⟨A1,c1,e1,_,_⟩:=h1.ak;clear e0 e1;have tok1:True:=trivial;have tok2:True:=trivial
 go_enter Try.func87,Try.ntmps87
 go_wp2_with fail
 go_region_held3 (fun w'=>w'.cell? ⟨w.heap.size,0,none⟩=some v0∧w'.cell? ⟨w.heap.size,1,none⟩=some v1) (go_keep)
  (first
  |(have _t:=tok1;refine sF rfl Qj (.tmp 3) (.tmp 5) rfl _ (w.heap.size+2) (by rfl) (by rfl) (xs.map li) _ (by rfl) (by repeat' (first|((with_reducible refine ZB.here ?_ ?_);(rfl);(first|rfl|(simp;done)|(simp;omega)))|(with_reducible refine ZB.drew ?_)|(with_reducible refine ZB.next ?_)|((with_reducible refine ZB.far hcB ?_ ?_);(simp)))) (by first|(simp;done)|(simp;omega)|(have:=hbB.size;simp at this⊢;omega)) (Src.of_flat (h0.below ((by repeat' (first|exact j_ _ _|exact k_ _|exact hlA|exact hlB|exact hlA.size|exact hlB.size|apply t_|apply s_|(simp;done)|(simp;omega)):Below w.heap.size w _))) (EH _)) Ai Et (by simp;try omega) ?_;intro uA wA huA hcA;obtain⟨XA,nA,cA,rfl⟩:=huA.form;have hbA:Below ((w.alloc (.cells #[v0,v1] 111)).alloc (.cells #[.slice none 0 0,.slice none 0 0] 111)).heap.size ((w.alloc (.cells #[v0,v1] 111)).alloc (.cells #[.slice none 0 0,.slice none 0 0] 111)) wA:=((by repeat' (first|exact j_ _ _|exact k_ _|exact hbA|exact hbB|exact hbA.size|exact hbB.size|apply t_|apply s_|(simp;done)|(simp;omega))):Below _ _ _).trans (hcA.mono (by first|exact k_ _|exact hbA.size|exact hbB.size|(simp;done)|(simp;omega)|(have:=hbB.size;simp at this⊢;omega)));(first|have huB:=huB.keep (by repeat' (first|exact j_ _ _|exact k_ _|exact j_ _ _|exact j_ _ _|exact j_ _ _.size|exact j_ _ _.size|apply t_|apply s_|(simp;done)|(simp;omega))) hcA|skip);obtain⟨raA,rbA,hzA,hlA⟩:=qw hbA;have kaA:=raA.cell;have kbA:=rbA.cell;have fzA:=CY rbA;clear tok1)
  |(have _t:=tok2;refine sF rfl xu (.tmp 7) (.tmp 9) rfl _ (w.heap.size+2) (by rfl) (by rfl) (ys.map GOrigin.toD) _ (by rfl) (by repeat' (first|((with_reducible refine ZB.here ?_ ?_);(rfl);(first|rfl|(simp;done)|(simp;omega)))|(with_reducible refine ZB.drew ?_)|(with_reducible refine ZB.next ?_)|((with_reducible refine ZB.far hcA ?_ ?_);(simp)))) (by first|(simp;done)|(simp;omega)|(have:=hbA.size;simp at this⊢;omega)) (Src.of_flat (h1.below ((by repeat' (first|exact j_ _ _|exact k_ _|exact hlA|exact hlB|exact hlA.size|exact hlB.size|apply t_|apply s_|(simp;done)|(simp;omega)):Below w.heap.size w _))) (EG _)) GOrigin.sJ GOrigin.szs (by simp;try omega) ?_;intro uB wB huB hcB;obtain⟨XB,nB,cB,rfl⟩:=huB.form;have hbB:Below ((w.alloc (.cells #[v0,v1] 111)).alloc (.cells #[.slice none 0 0,.slice none 0 0] 111)).heap.size ((w.alloc (.cells #[v0,v1] 111)).alloc (.cells #[.slice none 0 0,.slice none 0 0] 111)) wB:=((by repeat' (first|exact j_ _ _|exact k_ _|exact hbA|exact hbB|exact hbA.size|exact hbB.size|apply t_|apply s_|(simp;done)|(simp;omega))):Below _ _ _).trans (hcB.mono (by first|exact k_ _|exact hbA.size|exact hbB.size|(simp;done)|(simp;omega)|(have:=hbA.size;simp at this⊢;omega)));(first|have huA:=huA.keep (by repeat' (first|exact j_ _ _|exact k_ _|exact j_ _ _|exact j_ _ _|exact j_ _ _.size|exact j_ _ _.size|apply t_|apply s_|(simp;done)|(simp;omega))) hcB|skip);obtain⟨raB,rbB,hzB,hlB⟩:=qw hbB;have kaB:=raB.cell;have kbB:=rbB.cell;have fzB:=CY rbB;clear tok2))
 all_goals
  go_wp2_with fail
  refine bodyPost_ret (v:= .agg #[.slice XA nA cA,.slice XB nB cB]) (by first|(simp[results,Try.results87,go_sem,kbB];done)|(simp[results,Try.results87,go_sem,kbA];done)) rfl ?_;exact⟨_,_,rfl,huA.set _ _ _ _,huB.set _ _ _ _,C_ (C_ (by first|exact hlA|exact hlB) (G_ _) _) (G_ _) _⟩
theorem wC.apart{w:World}{base e e' s s' n n':Nat}{u v:Value}{cs cs':List Value}(he:e≠e')(h:aS w base e s u n cs)(h':aS w base e' s' v n' cs'):∀g g',u.ownBlock=some g→v.ownBlock=some g'→g≠g':=by
 rintro g g' hg hg' rfl;rcases h.2 with⟨rfl,_⟩|⟨k,z,cap,cur,rfl,_,hh,_⟩
 ·cases hg
 ·rcases h'.2 with⟨rfl,_⟩|⟨k',z',cap',cur',rfl,_,hh',_⟩
  ·cases hg'
  ·simp[K_]at hg hg';subst hg hg';rw[hh]at hh';simp at hh';exact he hh'.2
theorem TW(l:List GOrigin):El 2 (l.map GOrigin.toD):=fun d hd=>⟨GOrigin.sJ d hd,GOrigin.szs d hd⟩
theorem Nv(x:GRow)(h0:x.cells.length≤4194304)(h1:x.src.length≤4194304):dH Try.prog 87 [x.toD] (.c true [.own 0 0,.own 1 0]) [⟨x.cells.map li,3,1,0,⟨true,true⟩⟩,⟨x.src.map GOrigin.toD,126,2,0,⟨true,true⟩⟩]:=fun w vs hr _=>by
 obtain⟨v,rfl,g1⟩:=Uo hr;obtain⟨fp,cs,rfl,g2⟩:=Oz (GRow.aZ x) g1;obtain⟨v0,v1,f0,f1,rfl,rfl,g3,g4⟩:=GRow.opened.1 g2;refine(Ny x.cells x.src w f0 f1 v0 v1 g3 g4 h0 h1).mono ?_;rintro e w' ⟨u0,u1,rfl,⟨c0,p1,p2⟩,⟨c1,q1,q2⟩,hb⟩;refine⟨_,[(u0,[]),(u1,[])],rfl,⟨rfl,fun k o p hk hp=> ?_, ?_,⟨fun k o p hk hp _=> ?_,fun j k o o' p p' hjk h1 h2 h3 h4 _ _ b hb=> ?_⟩,fun k o p hk hp _ b hb=> ?_⟩,⟨[u0,u1],rfl,⟨Td p1,_,_,rfl,rfl,k_ _,fun _=>rfl⟩,⟨Td q1,_,_,rfl,rfl,k_ _,fun _=>rfl⟩,trivial⟩,hb⟩
 ·have hf:∀b∈p.2,False:=fun b hm=>by
   match k,hp with
   |0,hp=>simp at hp;subst hp;simp at hm
   |1,hp=>simp at hp;subst hp;simp at hm
   |k+2,hp=>simp at hp
  match k,hk,hp with
  | 0,hk,hp=>
    simp at hk hp;subst hk hp;exact⟨c0,p1,p2,dY _,fun b hm=>(hf b hm).elim⟩
  | 1,hk,hp=>
    simp at hk hp;subst hk hp;exact⟨c1,q1,q2,TW _,fun b hm=>(hf b hm).elim⟩
  |k+2,hk,hp=>simp at hk
 ·have h9:=wC.apart (by decide) p1 q1;simp only[c_,d_,g_];cases h5:u0.ownBlock<;>cases h6:u1.ownBlock<;>simp[Option.toList]
  exact h9 _ _ h5 h6
 ·match k,hp with
  |0,hp=>simp at hp;subst hp;exact Y_
  |1,hp=>simp at hp;subst hp;exact Y_
  |k+2,hp=>simp at hp
 ·match j,h3 with
  |0,h3=>simp at h3;subst h3;simp at hb
  |1,h3=>simp at h3;subst h3;simp at hb
  |k+2,h3=>simp at h3
 ·match k,hp with
  |0,hp=>simp at hp;subst hp;simp at hb
  |1,hp=>simp at hp;subst hp;simp at hb
  |k+2,hp=>simp at hp
theorem dJ{α:Type}(g:α→D)(l:List α){k:Nat}(h:k<l.length):(l.map g)[k]? =some (g l[k]):=by rw[List.getElem?_map,List.getElem?_eq_getElem h];rfl
theorem pkV :type_of% (UZ @dJ (UZ @GVal.aK (UZ @GVal.aI (UZ @GVal.aZ (UZ @GVal.el (UZ @GRow.aK (UZ @GRow.aI (UZ @GRow.aZ (UZ @GRow.el (UZ @GRead.aK (UZ @GRead.aI (UZ @GRead.aZ (@GRead.el))))))))))))):=UZ @dJ (UZ @GVal.aK (UZ @GVal.aI (UZ @GVal.aZ (UZ @GVal.el (UZ @GRow.aK (UZ @GRow.aI (UZ @GRow.aZ (UZ @GRow.el (UZ @GRead.aK (UZ @GRead.aI (UZ @GRead.aZ (@GRead.el))))))))))))
theorem zS{P:Program}{f:Nat}{x:GRow}(h:∀(w:World) (f0 f1:List Nat) (v0 v1:Value),Sl w (x.cells.map li) f0 v0→Sl w (x.src.map GOrigin.toD) f1 v1→Calls P f #[.agg #[v0,v1]] w (Fa x.cells x.src w)):
 aJ P f [x.toD] (.c true (x.toD.acs true)):=fun w vs hr _=>by
 obtain⟨v,rfl,h1⟩:=Uo hr;obtain⟨fp,cs,rfl,h2⟩:=Oz (GRow.aZ x) h1;obtain⟨v0,v1,f0,f1,rfl,rfl,h3,h4⟩:=GRow.opened.1 h2;refine(h w f0 f1 v0 v1 h3 h4).mono ?_;rintro e w' ⟨u0,u1,rfl,⟨g0,s0,b0⟩,⟨g1,s1,b1⟩,hb⟩;refine⟨_,rfl,⟨[u0,u1],rfl, ?_⟩,hb⟩;rw[GRow.aK];exact⟨⟨g0,s0,fun b hm=>⟨lU.2 (b0 b hm),fun _=>y_ (b0 b hm)⟩⟩,⟨g1,s1,fun b hm=>⟨lU.2 (b1 b hm),fun _=>y_ (b1 b hm)⟩⟩,trivial⟩
theorem qB(x:GRow)(h0:x.cells.length≤4194304)(h1:x.src.length≤4194304):aJ Try.prog 87 [x.toD] (.c true (x.toD.acs true)):=zS fun w f0 f1 v0 v1 s0 s1=>EO x.cells x.src w f0 f1 v0 v1 s0 s1 h0 h1
theorem jY(x:GRow)(h0:x.cells.length≤4194304)(h1:x.src.length≤4194304):aJ Try.prog 81 [x.toD] (.c true (x.toD.acs true)):=zS fun w f0 f1 v0 v1 s0 s1=>EN x.cells x.src w f0 f1 v0 v1 s0 s1 h0 h1
theorem sZ(x:GVal){r:GRow}(h:r∈x.rows):r.cells.length≤x.toD.wt∧r.src.length≤x.toD.wt:=by
 have h1:=D.jW (D_ (f:=GRow.toD) h);have h2:=GVal.gZ x;have h3:=GRow.gZ r;rw[l_]at h2 h3;simp only[l_]at h2 h3;omega
theorem rM(x:GVal){y:GVal}(h:y∈x.list):y.toD.wt<x.toD.wt:=by
 have h1:=D.jW (D_ (f:=GVal.toD) h);have h2:=GVal.gZ x;have h3:0<x.list.length:=List.length_pos_of_mem h;simp only[l_]at h2;omega
theorem qG(x:GVal):x.list.length≤x.toD.wt∧x.cols.length≤x.toD.wt∧x.rows.length≤x.toD.wt:=by
 have h2:=GVal.gZ x;simp only[l_]at h2;omega
theorem eU{α:Type}(l:List α){k:Nat}(h:k<l.length):l.take (k+1)=l.take k++ [l[k]]:=List.take_succ_eq_append_getElem h
def Dl :IC:=(zd_ [zz_ 2 (.mov (.k (.slice none 0 0)))] (zd_ [zz_ 6 (.brow true 41 7 0 false []),zw_ 3 6] (.seq (zd_ [zw_ 7 0,zf_ 8 false 7,zk_ 9 0] (.block 0 (.loop (zd_ [zl_ 10 .lss 9 8] (.seq (.cond (.t 10) .skip (.exit 0)) (.seq (.block 1 (zd_ [ze_ 11 7 7 9,zr_ 12 7 11,zz_ 5 (.alloc [(.int .i64 0),(.int .i64 0),(.int .i64 0),(.string ⟨#[]⟩),(.slice none 0 0),(.slice none 0 0),(.slice none 0 0)]),⟨none,none,.store 7 (.t 5) (.t 12)⟩] (.reg false [zw_ 13 3,zr_ 14 7 5,zq_ 15 59 14,zz_ 16 (.brow false 41 7 1 false [(.t 15)]),zz_ 17 (.app 41 7 (.t 13) (.t 16)),zw_ 3 17]))) (.reg false [zm_ 18 .add 9 1,zw_ 9 18]))))))) (zd_ [zw_ 19 3,zw_ 2 19] .ret))))
theorem ED :au Try.prog (Try.f86.body.getD .skip)=some Dl:=by kernel_rfl
theorem Ib(l:List GVal)(hn:l.length≤1048576)(hrec:∀x∈l,aJ Try.prog 59 [x.toD] (.c true (x.toD.acs true))):mD Try.prog 86 [.sl (l.map GVal.toD)] (l.map GVal.toD) 41 7:=by
 refine xG (fn:=Try.f86) (t:=2) (hc:=ED) (h:= ?_);unfold Dl;refine zb_ ?_;change AWP _ _ _ (st0 20 _);simp only[undef,stS,st0,stN,D.av,D.avN,fJ,bQ,fO,fM,wM,oV,qM,qL,GVal.aK,GVal.aI,GVal.aZ,GVal.el,GRow.aK,GRow.aI,GRow.aZ,GRow.el,GRead.aK,GRead.aI,GRead.aZ,GRead.el,B_,I_,Q_,H_,J_,n_,o_,h_,i_]
 repeat' (first|(with_reducible first|refine fD ?_|refine dA ?_|refine dS ?_|refine dU ?_|refine fE ?_|refine jP ?_|refine dP ?_|refine eY ?_|refine bf ?_|refine cZ ?_|refine dR ?_|refine cu ?_|refine dQ ?_|refine bF ?_|refine bZ ?_)|((with_reducible refine cO ?_ ?_);rfl)|((with_reducible refine dh ?_ ?_);rfl)|((with_reducible refine dw ?_ ?_);rfl)|(with_reducible (refine dn rfl ?_ ?_);all_goals(intro hb;have hb':=hb;(try simp only[pkC]at hb');try(exfalso;omega)))|(refine rg_ ?_;intro K hK)|(refine hq_ ?_;clear hK K)|refine ca_ ?_ ?_|((with_reducible refine jT ?_);simp(disch:=first|decide|omega) only[↓pkS,pkW,pkA,undef,c_,d_,g_,bg,gG,lvD,iC,lcD,lvK,lcK,aV,aP,bn,ex,St.put,St.ev,kav,gdA,opI,bI,iE,bV,gy,iI,AV.toD,AC.toD,AV.nw,AC.nw,AC.one,a_,aG,ay,aB,aF,aN,aH,if_true,if_false,b_,bW,D.one,D.ones,D.sz,D.szs,h_,i_,e_,f_,reduceIte,pkN,pkV])|(first|(with_reducible rfl)|(with_reducible refine fC ?_;kernel_rfl)|exact eu _|exact dY _|exact el_ln _|exact el_tk _ _|exact el_td _ _ _|omega|(simp;done)|(simp;omega))|((with_reducible refine fF ?_);simp[aO,iW,fU,jg,AC.toD,aG,ay,aB,aF,a_,eF,bG,eH,eG,fJ,bQ,fO,fM,mJ,mM,pkV];first|done|rfl))
 refine dN (X:=Nat×Nat) (fun q=> [.d,.d,.d,.v (.c false [.own 0 q.2]),.d,.d,.d,.k,.k,.v (.c false [.raw (.int .i64 (q.1:Nat))])]) (fun q=> [⟨(l.take q.1).map GVal.toD,41,7,q.2,true⟩]) (fun q bs=> []) (fun q=>q.1≤l.length) (fun q=>l.length - q.1) (0,0) (w_ _) ?_ ?_
 ·simp[dF,gJ,dG,dI,AV.fits,AC.fits,FB,dD]
 rintro⟨k,v⟩ hk;have hk':k≤l.length:=hk;clear hk;simp only[FB,dD];by_cases hlk:k<l.length
 ·have hc:=hrec l[k] (p_ hlk);have hs:=eU l hlk;rw[GVal.aK]at hc
  repeat' (first|(with_reducible first|refine fD ?_|refine dA ?_|refine dS ?_|refine dU ?_|refine fE ?_|refine jP ?_|refine dP ?_|refine eY ?_|refine bf ?_|refine cZ ?_|refine dR ?_|refine cu ?_|refine dQ ?_|refine bF ?_|refine bZ ?_)|((with_reducible refine cO ?_ ?_);rfl)|((with_reducible refine dh ?_ ?_);rfl)|((with_reducible refine dw ?_ ?_);rfl)|(with_reducible (refine dn rfl ?_ ?_);all_goals(intro hb;have hb':=hb;(try simp only[pkC]at hb');try(exfalso;omega)))|(refine rg_ ?_;intro K hK)|(refine hq_ ?_;clear hK K)|refine ca_ ?_ ?_|(refine cg_ ?_;first|refine cT_ hc ?_)|((with_reducible refine jT ?_);simp(disch:=first|decide|omega) only[↓pkS,pkW,pkA,undef,c_,d_,g_,bg,gG,lvD,iC,lcD,lvK,lcK,aV,aP,bn,ex,St.put,St.ev,kav,gdA,opI,bI,iE,bV,gy,iI,AV.toD,AC.toD,AV.nw,AC.nw,AC.one,a_,aG,ay,aB,aF,aN,aH,if_true,if_false,b_,bW,D.one,D.ones,D.sz,D.szs,h_,i_,e_,f_,reduceIte,pkN,pkV])|(first|(with_reducible rfl)|(with_reducible refine fC ?_;kernel_rfl)|exact eu _|exact dY _|exact el_ln _|exact el_tk _ _|exact el_td _ _ _|omega|(simp;done)|(simp;omega))|((with_reducible refine fF ?_);simp[aO,iW,fU,jg,AC.toD,aG,ay,aB,aF,a_,eF,bG,eH,eG,fJ,bQ,fO,fM,mJ,mM,pkV];first|done|rfl))
  all_goals first
   |(simp only[l_,q_,n_,o_,r_];omega)
   | (refine eX (k+1,v+1) ?_ (show k+1≤l.length by omega) (show l.length - (k+1)<l.length - k by omega)
      simp[dF,gJ,dG,dI,AV.fits,AC.fits,FB,dD,hs,GVal.aj,li,ls, -m_])
 ·obtain rfl:k=l.length:=by omega
  rw[v_]
  repeat' (first|(with_reducible first|refine fD ?_|refine dA ?_|refine dS ?_|refine dU ?_|refine fE ?_|refine jP ?_|refine dP ?_|refine eY ?_|refine bf ?_|refine cZ ?_|refine dR ?_|refine cu ?_|refine dQ ?_|refine bF ?_|refine bZ ?_)|((with_reducible refine cO ?_ ?_);rfl)|((with_reducible refine dh ?_ ?_);rfl)|((with_reducible refine dw ?_ ?_);rfl)|(with_reducible (refine dn rfl ?_ ?_);all_goals(intro hb;have hb':=hb;(try simp only[pkC]at hb');try(exfalso;omega)))|(refine rg_ ?_;intro K hK)|(refine hq_ ?_;clear hK K)|refine ca_ ?_ ?_|((with_reducible refine jT ?_);simp(disch:=first|decide|omega) only[↓pkS,pkW,pkA,undef,c_,d_,g_,bg,gG,lvD,iC,lcD,lvK,lcK,aV,aP,bn,ex,St.put,St.ev,kav,gdA,opI,bI,iE,bV,gy,iI,AV.toD,AC.toD,AV.nw,AC.nw,AC.one,a_,aG,ay,aB,aF,aN,aH,if_true,if_false,b_,bW,D.one,D.ones,D.sz,D.szs,h_,i_,e_,f_,reduceIte,pkN,pkV])|(first|(with_reducible rfl)|(with_reducible refine fC ?_;kernel_rfl)|exact eu _|exact dY _|exact el_ln _|exact el_tk _ _|exact el_td _ _ _|omega|(simp;done)|(simp;omega))|((with_reducible refine fF ?_);simp[aO,iW,fU,jg,AC.toD,aG,ay,aB,aF,a_,eF,bG,eH,eG,fJ,bQ,fO,fM,mJ,mM,pkV];first|done|rfl))
  exact bH ⟨0,_,_,rfl,rfl,rfl,rfl,rfl,rfl,y_ rfl⟩
def GK :IC:=(zd_ [zz_ 1 (.box (.t 0)),zz_ 2 (.alloc [(.int .i64 0),(.int .i64 0),(.int .i64 0),(.string ⟨#[]⟩),(.slice none 0 0),(.slice none 0 0),(.slice none 0 0)])] (zd_ [zr_ 6 7 1,zz_ 3 (.alloc [(.int .i64 0),(.int .i64 0),(.int .i64 0),(.string ⟨#[]⟩),(.slice none 0 0),(.slice none 0 0),(.slice none 0 0)]),⟨none,none,.store 7 (.t 3) (.t 6)⟩] (zd_ [zt_ 7 4 1,zs_ 8 1 7,zq_ 9 86 8,zt_ 10 4 3,⟨none,none,.store 1 (.t 10) (.t 9)⟩] (zd_ [zz_ 11 (.brow true 9 1 0 false []),zt_ 12 5 1,zs_ 13 1 12,zz_ 14 (.app 9 1 (.t 11) (.t 13)),zt_ 15 5 3,⟨none,none,.store 1 (.t 15) (.t 14)⟩] (zd_ [zt_ 16 6 3,⟨none,none,.store 1 (.t 16) (.k (.slice none 0 0))⟩] (.seq (zd_ [zt_ 17 6 1,zs_ 18 1 17,zf_ 19 false 18,zk_ 20 0] (.block 0 (.loop (zd_ [zl_ 21 .lss 20 19] (.seq (.cond (.t 21) .skip (.exit 0)) (.seq (.block 1 (zd_ [ze_ 22 2 18 20,zr_ 23 2 22,zz_ 5 (.alloc [(.slice none 0 0),(.slice none 0 0)]),⟨none,none,.store 2 (.t 5) (.t 23)⟩] (.regN true true [] [zt_ 24 6 3,zs_ 25 1 24,zr_ 26 2 5,zq_ 27 87 26,zz_ 28 (.brow false 111 2 1 false [(.t 27)]),zz_ 29 (.app 111 2 (.t 25) (.t 28)),zt_ 30 6 3,⟨none,none,.store 1 (.t 30) (.t 29)⟩]))) (.reg false [zm_ 31 .add 20 1,zw_ 20 31]))))))) (zd_ [zr_ 32 7 3,⟨none,none,.store 7 (.t 2) (.t 32)⟩] .ret)))))))
theorem GI :au Try.prog (Try.f59.body.getD .skip)=some GK:=by kernel_rfl
theorem JA(x:GVal)(hw:x.toD.wt≤1048576)(hlist:mD Try.prog 86 [.sl (x.list.map GVal.toD)] (x.list.map GVal.toD) 41 7):aJ Try.prog 59 [x.toD] (.c true (x.toD.acs true)):=by
 have hlen:=qG x;rw[GVal.aK];refine uf (fn:=Try.f59) (t:=2) (ty:=41) (hc:=GI) (h:= ?_);unfold GK;refine zb_ ?_;change AWP _ _ _ (st0 33 _);simp only[undef,stS,st0,stN,D.av,D.avN,fJ,bQ,fO,fM,wM,oV,qM,qL,GVal.aK,GVal.aI,GVal.aZ,GVal.el,GRow.aK,GRow.aI,GRow.aZ,GRow.el,GRead.aK,GRead.aI,GRead.aZ,GRead.el,B_,I_,Q_,H_,J_,n_,o_,h_,i_]
 repeat' (first|(with_reducible first|refine fD ?_|refine dA ?_|refine dS ?_|refine dU ?_|refine fE ?_|refine jP ?_|refine dP ?_|refine eY ?_|refine bf ?_|refine cZ ?_|refine dR ?_|refine cu ?_|refine dQ ?_|refine bF ?_|refine bZ ?_)|((with_reducible refine cO ?_ ?_);rfl)|((with_reducible refine dh ?_ ?_);rfl)|((with_reducible refine dw ?_ ?_);rfl)|(with_reducible (refine dn rfl ?_ ?_);all_goals(intro hb;have hb':=hb;(try simp only[pkC]at hb');try(exfalso;omega)))|(refine rg_ ?_;intro K hK)|((first|((with_reducible refine aQ false ?_ ?_);rfl)|((with_reducible refine aQ true ?_ ?_);rfl));intro K hK)|(refine hq_ ?_;clear hK K)|refine ca_ ?_ ?_|(refine cg_ ?_;first|(refine vN hlist (GVal.el _) ?_ ?_))|((with_reducible refine jT ?_);simp(disch:=first|decide|omega) only[↓pkS,pkW,pkA,undef,c_,d_,g_,bg,gG,lvD,iC,lcD,lvK,lcK,aV,aP,bn,ex,St.put,St.ev,kav,gdA,opI,bI,iE,bV,gy,iI,AV.toD,AC.toD,AV.nw,AC.nw,AC.one,a_,aG,ay,aB,aF,aN,aH,if_true,if_false,b_,bW,D.one,D.ones,D.sz,D.szs,h_,i_,e_,f_,reduceIte,pkN,pkV])|((with_reducible refine lq ?_);simp(disch:=first|decide|omega) only[↓pkR,pkD,pkA,undef,c_,d_,g_,bg,gG,lvD,iC,lcD,lvK,lcK,aV,aP,bn,ex,St.put,St.ev,kav,gdA,opI,bI,iE,bV,gy,iI,AV.toD,AC.toD,AV.nw,AC.nw,AC.one,a_,aG,ay,aB,aF,aN,aH,if_true,if_false,b_,bW,D.one,D.ones,D.sz,D.szs,h_,i_,e_,f_,reduceIte,pkN,pkV])|(first|(with_reducible rfl)|(with_reducible refine fC ?_;kernel_rfl)|exact eu _|exact dY _|exact el_ln _|exact el_tk _ _|exact el_td _ _ _|omega|(simp;done)|(simp;omega))|((with_reducible refine fF ?_);simp[aO,iW,fU,jg,AC.toD,aG,ay,aB,aF,a_,eF,bG,eH,eG,fJ,bQ,fO,fM,mJ,mM,pkV];first|done|rfl))
 refine dN (X:=Nat×Option Nat) (fun q=> [.d,.d,.k,.k,.d,.d,.d,.d,.d,.d,.d,.d,.d,.d,.d,.d,.d,.d,.k,.k,.v (.c false [.raw (.int .i64 (q.1:Nat))])]) (fun q=>match q.2 with|none=> [⟨x.list.map GVal.toD,41,7,0,true⟩,⟨x.cols.map ls,9,1,1,false⟩]|some w=> [⟨x.list.map GVal.toD,41,7,0,true⟩,⟨x.cols.map ls,9,1,1,false⟩,⟨(x.rows.take q.1).map GRow.toD,111,2,w,true⟩]) (fun q bs=> [[.raw (.int .i64 x.kind),.raw (.int .i64 x.n),.raw (.int .i64 x.step),.raw (.string x.text),.sl false (x.list.map GVal.toD),.sl false (x.cols.map ls),.sl false (x.rows.map GRow.toD)],[.raw (.int .i64 0),.raw (.int .i64 0),.raw (.int .i64 0),.raw (.string ⟨#[]⟩),.raw (.slice none 0 0),.raw (.slice none 0 0),.raw (.slice none 0 0)],[.raw (.int .i64 x.kind),.raw (.int .i64 x.n),.raw (.int .i64 x.step),.raw (.string x.text),.own 0 0,.own 1 1,(match q.2 with|none=> .raw (.slice none 0 0)|some w=> .own 2 w)]]) (fun q=>q.1≤x.rows.length∧(match q.2 with|none=>q.1=0|some _=>0<q.1)) (fun q=>x.rows.length - q.1) (0,none) ⟨w_ _,rfl⟩ ?_ ?_
 ·simp[dF,gJ,dG,dI,AV.fits,AC.fits,FB,dD]
 rintro⟨k,_|v⟩ ⟨hk,hk0⟩
 ·simp only at hk hk0;subst hk0;simp only[FB,dD];by_cases hlk:0<x.rows.length
  ·have hrw:=sZ x (p_ hlk);have hc:=qB x.rows[0] (by omega) (by omega);have hs:=eU x.rows hlk;rw[GRow.aK]at hc
   repeat' (first|(with_reducible first|refine fD ?_|refine dA ?_|refine dS ?_|refine dU ?_|refine fE ?_|refine jP ?_|refine dP ?_|refine eY ?_|refine bf ?_|refine cZ ?_|refine dR ?_|refine cu ?_|refine dQ ?_|refine bF ?_|refine bZ ?_)|((with_reducible refine cO ?_ ?_);rfl)|((with_reducible refine dh ?_ ?_);rfl)|((with_reducible refine dw ?_ ?_);rfl)|(with_reducible (refine dn rfl ?_ ?_);all_goals(intro hb;have hb':=hb;(try simp only[pkC]at hb');try(exfalso;omega)))|(refine rg_ ?_;intro K hK)|((first|((with_reducible refine aQ false ?_ ?_);rfl)|((with_reducible refine aQ true ?_ ?_);rfl));intro K hK)|(refine hq_ ?_;clear hK K)|refine ca_ ?_ ?_|(refine cg_ ?_;first|refine cT_ hc ?_)|((with_reducible refine jT ?_);simp(disch:=first|decide|omega) only[↓pkS,pkW,pkA,undef,c_,d_,g_,bg,gG,lvD,iC,lcD,lvK,lcK,aV,aP,bn,ex,St.put,St.ev,kav,gdA,opI,bI,iE,bV,gy,iI,AV.toD,AC.toD,AV.nw,AC.nw,AC.one,a_,aG,ay,aB,aF,aN,aH,if_true,if_false,b_,bW,D.one,D.ones,D.sz,D.szs,h_,i_,e_,f_,reduceIte,pkN,pkV])|((with_reducible refine lq ?_);simp(disch:=first|decide|omega) only[↓pkR,pkD,pkA,undef,c_,d_,g_,bg,gG,lvD,iC,lcD,lvK,lcK,aV,aP,bn,ex,St.put,St.ev,kav,gdA,opI,bI,iE,bV,gy,iI,AV.toD,AC.toD,AV.nw,AC.nw,AC.one,a_,aG,ay,aB,aF,aN,aH,if_true,if_false,b_,bW,D.one,D.ones,D.sz,D.szs,h_,i_,e_,f_,reduceIte,pkN,pkV])|(first|(with_reducible rfl)|(with_reducible refine fC ?_;kernel_rfl)|exact eu _|exact dY _|exact el_ln _|exact el_tk _ _|exact el_td _ _ _|omega|(simp;done)|(simp;omega))|((with_reducible refine fF ?_);simp[aO,iW,fU,jg,AC.toD,aG,ay,aB,aF,a_,eF,bG,eH,eG,fJ,bQ,fO,fM,mJ,mM,pkV];first|done|rfl))
   all_goals first
    |(simp only[l_,q_,n_,o_,r_];omega)
    | (refine eX (1,some 0) ?_ ⟨show 1≤x.rows.length by omega,P_⟩ (show x.rows.length - 1<x.rows.length - 0 by omega)
       simp[dF,gJ,dG,dI,AV.fits,AC.fits,FB,dD,hs,GRow.aj,li,ls, -m_])
  ·have hrows:x.rows= []:=u_ (by omega);have hrlrows:x.rows.length=0:=by omega
   repeat' (first|(with_reducible first|refine fD ?_|refine dA ?_|refine dS ?_|refine dU ?_|refine fE ?_|refine jP ?_|refine dP ?_|refine eY ?_|refine bf ?_|refine cZ ?_|refine dR ?_|refine cu ?_|refine dQ ?_|refine bF ?_|refine bZ ?_)|((with_reducible refine cO ?_ ?_);rfl)|((with_reducible refine dh ?_ ?_);rfl)|((with_reducible refine dw ?_ ?_);rfl)|(with_reducible (refine dn rfl ?_ ?_);all_goals(intro hb;have hb':=hb;(try simp only[pkC]at hb');try(exfalso;omega)))|(refine rg_ ?_;intro K hK)|((first|((with_reducible refine aQ false ?_ ?_);rfl)|((with_reducible refine aQ true ?_ ?_);rfl));intro K hK)|(refine hq_ ?_;clear hK K)|refine ca_ ?_ ?_|((with_reducible refine jT ?_);simp(disch:=first|decide|omega) only[↓pkS,pkW,pkA,undef,c_,d_,g_,bg,gG,lvD,iC,lcD,lvK,lcK,aV,aP,bn,ex,St.put,St.ev,kav,gdA,opI,bI,iE,bV,gy,iI,AV.toD,AC.toD,AV.nw,AC.nw,AC.one,a_,aG,ay,aB,aF,aN,aH,if_true,if_false,b_,bW,D.one,D.ones,D.sz,D.szs,h_,i_,e_,f_,reduceIte,pkN,pkV])|((with_reducible refine lq ?_);simp(disch:=first|decide|omega) only[↓pkR,pkD,pkA,undef,c_,d_,g_,bg,gG,lvD,iC,lcD,lvK,lcK,aV,aP,bn,ex,St.put,St.ev,kav,gdA,opI,bI,iE,bV,gy,iI,AV.toD,AC.toD,AV.nw,AC.nw,AC.one,a_,aG,ay,aB,aF,aN,aH,if_true,if_false,b_,bW,D.one,D.ones,D.sz,D.szs,h_,i_,e_,f_,reduceIte,pkN,pkV])|(first|(with_reducible rfl)|(with_reducible refine fC ?_;kernel_rfl)|exact eu _|exact dY _|exact el_ln _|exact el_tk _ _|exact el_td _ _ _|omega|(simp;done)|(simp;omega))|((with_reducible refine fF ?_);simp[aO,iW,fU,jg,AC.toD,aG,ay,aB,aF,a_,eF,bG,eH,eG,fJ,bQ,fO,fM,mJ,mM,pkV];first|done|rfl))
   exact bH ⟨1,_,rfl,rfl,by rw[hrows];simp[eP,jk];exact kF _⟩
 ·simp only at hk hk0;simp only[FB,dD];by_cases hlk:k<x.rows.length
  ·have hrw:=sZ x (p_ hlk);have hc:=qB x.rows[k] (by omega) (by omega);have hs:=eU x.rows hlk;rw[GRow.aK]at hc
   repeat' (first|(with_reducible first|refine fD ?_|refine dA ?_|refine dS ?_|refine dU ?_|refine fE ?_|refine jP ?_|refine dP ?_|refine eY ?_|refine bf ?_|refine cZ ?_|refine dR ?_|refine cu ?_|refine dQ ?_|refine bF ?_|refine bZ ?_)|((with_reducible refine cO ?_ ?_);rfl)|((with_reducible refine dh ?_ ?_);rfl)|((with_reducible refine dw ?_ ?_);rfl)|(with_reducible (refine dn rfl ?_ ?_);all_goals(intro hb;have hb':=hb;(try simp only[pkC]at hb');try(exfalso;omega)))|(refine rg_ ?_;intro K hK)|((first|((with_reducible refine aQ false ?_ ?_);rfl)|((with_reducible refine aQ true ?_ ?_);rfl));intro K hK)|(refine hq_ ?_;clear hK K)|refine ca_ ?_ ?_|(refine cg_ ?_;first|refine cT_ hc ?_)|((with_reducible refine jT ?_);simp(disch:=first|decide|omega) only[↓pkS,pkW,pkA,undef,c_,d_,g_,bg,gG,lvD,iC,lcD,lvK,lcK,aV,aP,bn,ex,St.put,St.ev,kav,gdA,opI,bI,iE,bV,gy,iI,AV.toD,AC.toD,AV.nw,AC.nw,AC.one,a_,aG,ay,aB,aF,aN,aH,if_true,if_false,b_,bW,D.one,D.ones,D.sz,D.szs,h_,i_,e_,f_,reduceIte,pkN,pkV])|((with_reducible refine lq ?_);simp(disch:=first|decide|omega) only[↓pkR,pkD,pkA,undef,c_,d_,g_,bg,gG,lvD,iC,lcD,lvK,lcK,aV,aP,bn,ex,St.put,St.ev,kav,gdA,opI,bI,iE,bV,gy,iI,AV.toD,AC.toD,AV.nw,AC.nw,AC.one,a_,aG,ay,aB,aF,aN,aH,if_true,if_false,b_,bW,D.one,D.ones,D.sz,D.szs,h_,i_,e_,f_,reduceIte,pkN,pkV])|(first|(with_reducible rfl)|(with_reducible refine fC ?_;kernel_rfl)|exact eu _|exact dY _|exact el_ln _|exact el_tk _ _|exact el_td _ _ _|omega|(simp;done)|(simp;omega))|((with_reducible refine fF ?_);simp[aO,iW,fU,jg,AC.toD,aG,ay,aB,aF,a_,eF,bG,eH,eG,fJ,bQ,fO,fM,mJ,mM,pkV];first|done|rfl))
   all_goals first
    |(simp only[l_,q_,n_,o_,r_];omega)
    | (refine eX (k+1,some (v+1)) ?_ ⟨show k+1≤x.rows.length by omega,N_ _⟩ (show x.rows.length - (k+1)<x.rows.length - k by omega)
       simp[dF,gJ,dG,dI,AV.fits,AC.fits,FB,dD,hs,GRow.aj,li,ls, -m_])
  ·obtain rfl:k=x.rows.length:=by omega
   rw[v_]
   repeat' (first|(with_reducible first|refine fD ?_|refine dA ?_|refine dS ?_|refine dU ?_|refine fE ?_|refine jP ?_|refine dP ?_|refine eY ?_|refine bf ?_|refine cZ ?_|refine dR ?_|refine cu ?_|refine dQ ?_|refine bF ?_|refine bZ ?_)|((with_reducible refine cO ?_ ?_);rfl)|((with_reducible refine dh ?_ ?_);rfl)|((with_reducible refine dw ?_ ?_);rfl)|(with_reducible (refine dn rfl ?_ ?_);all_goals(intro hb;have hb':=hb;(try simp only[pkC]at hb');try(exfalso;omega)))|(refine rg_ ?_;intro K hK)|((first|((with_reducible refine aQ false ?_ ?_);rfl)|((with_reducible refine aQ true ?_ ?_);rfl));intro K hK)|(refine hq_ ?_;clear hK K)|refine ca_ ?_ ?_|((with_reducible refine jT ?_);simp(disch:=first|decide|omega) only[↓pkS,pkW,pkA,undef,c_,d_,g_,bg,gG,lvD,iC,lcD,lvK,lcK,aV,aP,bn,ex,St.put,St.ev,kav,gdA,opI,bI,iE,bV,gy,iI,AV.toD,AC.toD,AV.nw,AC.nw,AC.one,a_,aG,ay,aB,aF,aN,aH,if_true,if_false,b_,bW,D.one,D.ones,D.sz,D.szs,h_,i_,e_,f_,reduceIte,pkN,pkV])|((with_reducible refine lq ?_);simp(disch:=first|decide|omega) only[↓pkR,pkD,pkA,undef,c_,d_,g_,bg,gG,lvD,iC,lcD,lvK,lcK,aV,aP,bn,ex,St.put,St.ev,kav,gdA,opI,bI,iE,bV,gy,iI,AV.toD,AC.toD,AV.nw,AC.nw,AC.one,a_,aG,ay,aB,aF,aN,aH,if_true,if_false,b_,bW,D.one,D.ones,D.sz,D.szs,h_,i_,e_,f_,reduceIte,pkN,pkV])|(first|(with_reducible rfl)|(with_reducible refine fC ?_;kernel_rfl)|exact eu _|exact dY _|exact el_ln _|exact el_tk _ _|exact el_td _ _ _|omega|(simp;done)|(simp;omega))|((with_reducible refine fF ?_);simp[aO,iW,fU,jg,AC.toD,aG,ay,aB,aF,a_,eF,bG,eH,eG,fJ,bQ,fO,fM,mJ,mM,pkV];first|done|rfl))
   exact bH ⟨1,_,rfl,rfl,by simp[eP,jk];exact kF _⟩
theorem Dw :∀(n:Nat) (x:GVal),x.toD.wt<n→x.toD.wt≤1048576→aJ Try.prog 59 [x.toD] (.c true (x.toD.acs true))
 |0,x,h,_=>by omega
 |n+1,x,h,hw=>JA x hw (Ib x.list (by have:=qG x;omega) fun y hy=>Dw n y (by have:=rM x hy;omega) (by have:=rM x hy;omega))
theorem vJ(x:GVal)(hw:x.toD.wt≤1048576):aJ Try.prog 59 [x.toD] (.c true (x.toD.acs true)):=Dw _ x (O_ _) hw
def Dk :IC:=(zd_ [zz_ 1 (.box (.t 0)),zz_ 2 (.alloc [(.int .i64 0),(.int .i64 0),(.int .i64 0),(.string ⟨#[]⟩),(.slice none 0 0),(.slice none 0 0),(.slice none 0 0)])] (.seq (.reg true [zt_ 6 0 1,zs_ 7 1 6,zt_ 8 1 1,zs_ 9 1 8,zt_ 10 2 1,zs_ 11 1 10,zt_ 12 3 1,zs_ 13 1 12,zz_ 14 (.brow true 9 1 0 false []),zt_ 15 5 1,zs_ 16 1 15,zz_ 17 (.app 9 1 (.t 14) (.t 16)),zz_ 18 (.bld [(.int .i64 0),(.int .i64 0),(.int .i64 0),(.string ⟨#[]⟩),(.slice none 0 0),(.slice none 0 0),(.slice none 0 0)] [(0,1,(.t 7)),(1,1,(.t 9)),(2,1,(.t 11)),(3,1,(.t 13)),(5,1,(.t 17))]),zz_ 3 (.alloc [(.int .i64 0),(.int .i64 0),(.int .i64 0),(.string ⟨#[]⟩),(.slice none 0 0),(.slice none 0 0),(.slice none 0 0)]),⟨none,none,.store 7 (.t 3) (.t 18)⟩]) (.seq (zd_ [zk_ 4 0] (.block 0 (.loop (.seq (zd_ [zw_ 19 4,zt_ 20 4 1,zs_ 21 1 20,zf_ 22 false 21,zl_ 23 .lss 19 22] (.cond (.t 23) .skip (.exit 0))) (.seq (.block 1 (.regN true true [] [zt_ 26 4 3,zs_ 27 1 26,zt_ 28 4 1,zs_ 29 1 28,zw_ 30 4,ze_ 31 7 29 30,zr_ 32 7 31,zq_ 33 54 32,zz_ 34 (.brow false 41 7 1 false [(.t 33)]),zz_ 35 (.app 41 7 (.t 27) (.t 34)),zt_ 36 4 3,⟨none,none,.store 1 (.t 36) (.t 35)⟩])) (.reg false [zw_ 24 4,zm_ 25 .add 24 1,zw_ 4 25])))))) (.seq (zd_ [zk_ 5 0] (.block 2 (.loop (.seq (zd_ [zw_ 37 5,zt_ 38 6 1,zs_ 39 1 38,zf_ 40 false 39,zl_ 41 .lss 37 40] (.cond (.t 41) .skip (.exit 2))) (.seq (.block 3 (.regN true true [] [zt_ 44 6 3,zs_ 45 1 44,zt_ 46 6 1,zs_ 47 1 46,zw_ 48 5,ze_ 49 2 47 48,zr_ 50 2 49,zq_ 51 81 50,zz_ 52 (.brow false 111 2 1 false [(.t 51)]),zz_ 53 (.app 111 2 (.t 45) (.t 52)),zt_ 54 6 3,⟨none,none,.store 1 (.t 54) (.t 53)⟩])) (.reg false [zw_ 42 5,zm_ 43 .add 42 1,zw_ 5 43])))))) (zd_ [zr_ 55 7 3,⟨none,none,.store 7 (.t 2) (.t 55)⟩] .ret)))))
theorem EC :au Try.prog (Try.f54.body.getD .skip)=some Dk:=by kernel_rfl
theorem Gu(x:GVal)(hw:x.toD.wt≤1048576)(hrec:∀y∈x.list,aJ Try.prog 54 [y.toD] (.c true (y.toD.acs true))):aJ Try.prog 54 [x.toD] (.c true (x.toD.acs true)):=by
 have hlen:=qG x;rw[GVal.aK];refine uf (fn:=Try.f54) (t:=2) (ty:=41) (hc:=EC) (h:= ?_);unfold Dk;refine zb_ ?_;change AWP _ _ _ (st0 56 _);simp only[undef,stS,st0,stN,D.av,D.avN,fJ,bQ,fO,fM,wM,oV,qM,qL,GVal.aK,GVal.aI,GVal.aZ,GVal.el,GRow.aK,GRow.aI,GRow.aZ,GRow.el,GRead.aK,GRead.aI,GRead.aZ,GRead.el,B_,I_,Q_,H_,J_,n_,o_,h_,i_]
 repeat' (first|(with_reducible first|refine fD ?_|refine dA ?_|refine dS ?_|refine dU ?_|refine fE ?_|refine jP ?_|refine dP ?_|refine eY ?_|refine bf ?_|refine cZ ?_|refine dR ?_|refine cu ?_|refine dQ ?_|refine bF ?_|refine bZ ?_)|((with_reducible refine cO ?_ ?_);rfl)|((with_reducible refine dh ?_ ?_);rfl)|((with_reducible refine dw ?_ ?_);rfl)|(with_reducible (refine dn rfl ?_ ?_);all_goals(intro hb;have hb':=hb;(try simp only[pkC]at hb');try(exfalso;omega)))|(refine rg_ ?_;intro K hK)|((first|((with_reducible refine aQ false ?_ ?_);rfl)|((with_reducible refine aQ true ?_ ?_);rfl));intro K hK)|(refine hq_ ?_;clear hK K)|refine ca_ ?_ ?_|((with_reducible refine jT ?_);simp(disch:=first|decide|omega) only[↓pkS,pkW,pkA,undef,c_,d_,g_,bg,gG,lvD,iC,lcD,lvK,lcK,aV,aP,bn,ex,St.put,St.ev,kav,gdA,opI,bI,iE,bV,gy,iI,AV.toD,AC.toD,AV.nw,AC.nw,AC.one,a_,aG,ay,aB,aF,aN,aH,if_true,if_false,b_,bW,D.one,D.ones,D.sz,D.szs,h_,i_,e_,f_,reduceIte,pkN,pkV])|((with_reducible refine lq ?_);simp(disch:=first|decide|omega) only[↓pkR,pkD,pkA,undef,c_,d_,g_,bg,gG,lvD,iC,lcD,lvK,lcK,aV,aP,bn,ex,St.put,St.ev,kav,gdA,opI,bI,iE,bV,gy,iI,AV.toD,AC.toD,AV.nw,AC.nw,AC.one,a_,aG,ay,aB,aF,aN,aH,if_true,if_false,b_,bW,D.one,D.ones,D.sz,D.szs,h_,i_,e_,f_,reduceIte,pkN,pkV])|(first|(with_reducible rfl)|(with_reducible refine fC ?_;kernel_rfl)|exact eu _|exact dY _|exact el_ln _|exact el_tk _ _|exact el_td _ _ _|omega|(simp;done)|(simp;omega))|((with_reducible refine fF ?_);simp[aO,iW,fU,jg,AC.toD,aG,ay,aB,aF,a_,eF,bG,eH,eG,fJ,bQ,fO,fM,mJ,mM,pkV];first|done|rfl))
 refine dN (X:=Nat×Option Nat) (fun q=> [.d,.k,.k,.k,.v (.c false [.raw (.int .i64 (q.1:Nat))])]) (fun q=>match q.2 with|none=> [⟨x.cols.map ls,9,1,1,false⟩]|some w=> [⟨x.cols.map ls,9,1,1,false⟩,⟨(x.list.take q.1).map GVal.toD,41,7,w,true⟩]) (fun q bs=> [[.raw (.int .i64 x.kind),.raw (.int .i64 x.n),.raw (.int .i64 x.step),.raw (.string x.text),.sl false (x.list.map GVal.toD),.sl false (x.cols.map ls),.sl false (x.rows.map GRow.toD)],[.raw (.int .i64 0),.raw (.int .i64 0),.raw (.int .i64 0),.raw (.string ⟨#[]⟩),.raw (.slice none 0 0),.raw (.slice none 0 0),.raw (.slice none 0 0)],[.raw (.int .i64 x.kind),.raw (.int .i64 x.n),.raw (.int .i64 x.step),.raw (.string x.text),(match q.2 with|none=> .raw (.slice none 0 0)|some w=> .own 1 w),.own 0 1,.raw (.slice none 0 0)]]) (fun q=>q.1≤x.list.length∧(match q.2 with|none=>q.1=0|some _=>0<q.1)) (fun q=>x.list.length - q.1) (0,none) ⟨w_ _,rfl⟩ ?_ ?_
 ·simp[dF,gJ,dG,dI,AV.fits,AC.fits,FB,dD]
 rintro⟨k,_|v⟩ ⟨hk,hk0⟩
 ·simp only at hk hk0;subst hk0;simp only[FB,dD];by_cases hlk:0<x.list.length
  ·have hc:=hrec x.list[0] (p_ hlk);have hs:=eU x.list hlk;rw[GVal.aK]at hc
   repeat' (first|(with_reducible first|refine fD ?_|refine dA ?_|refine dS ?_|refine dU ?_|refine fE ?_|refine jP ?_|refine dP ?_|refine eY ?_|refine bf ?_|refine cZ ?_|refine dR ?_|refine cu ?_|refine dQ ?_|refine bF ?_|refine bZ ?_)|((with_reducible refine cO ?_ ?_);rfl)|((with_reducible refine dh ?_ ?_);rfl)|((with_reducible refine dw ?_ ?_);rfl)|(with_reducible (refine dn rfl ?_ ?_);all_goals(intro hb;have hb':=hb;(try simp only[pkC]at hb');try(exfalso;omega)))|(refine rg_ ?_;intro K hK)|((first|((with_reducible refine aQ false ?_ ?_);rfl)|((with_reducible refine aQ true ?_ ?_);rfl));intro K hK)|(refine hq_ ?_;clear hK K)|refine ca_ ?_ ?_|(refine cg_ ?_;first|refine cT_ hc ?_)|((with_reducible refine jT ?_);simp(disch:=first|decide|omega) only[↓pkS,pkW,pkA,undef,c_,d_,g_,bg,gG,lvD,iC,lcD,lvK,lcK,aV,aP,bn,ex,St.put,St.ev,kav,gdA,opI,bI,iE,bV,gy,iI,AV.toD,AC.toD,AV.nw,AC.nw,AC.one,a_,aG,ay,aB,aF,aN,aH,if_true,if_false,b_,bW,D.one,D.ones,D.sz,D.szs,h_,i_,e_,f_,reduceIte,pkN,pkV])|((with_reducible refine lq ?_);simp(disch:=first|decide|omega) only[↓pkR,pkD,pkA,undef,c_,d_,g_,bg,gG,lvD,iC,lcD,lvK,lcK,aV,aP,bn,ex,St.put,St.ev,kav,gdA,opI,bI,iE,bV,gy,iI,AV.toD,AC.toD,AV.nw,AC.nw,AC.one,a_,aG,ay,aB,aF,aN,aH,if_true,if_false,b_,bW,D.one,D.ones,D.sz,D.szs,h_,i_,e_,f_,reduceIte,pkN,pkV])|(first|(with_reducible rfl)|(with_reducible refine fC ?_;kernel_rfl)|exact eu _|exact dY _|exact el_ln _|exact el_tk _ _|exact el_td _ _ _|omega|(simp;done)|(simp;omega))|((with_reducible refine fF ?_);simp[aO,iW,fU,jg,AC.toD,aG,ay,aB,aF,a_,eF,bG,eH,eG,fJ,bQ,fO,fM,mJ,mM,pkV];first|done|rfl))
   all_goals first
    |(simp only[l_,q_,n_,o_,r_];omega)
    | (refine eX (1,some 0) ?_ ⟨show 1≤x.list.length by omega,P_⟩ (show x.list.length - 1<x.list.length - 0 by omega)
       simp[dF,gJ,dG,dI,AV.fits,AC.fits,FB,dD,hs,GVal.aj,li,ls, -m_])
  ·have hlist:x.list= []:=u_ (by omega);have hrllist:x.list.length=0:=by omega
   repeat' (first|(with_reducible first|refine fD ?_|refine dA ?_|refine dS ?_|refine dU ?_|refine fE ?_|refine jP ?_|refine dP ?_|refine eY ?_|refine bf ?_|refine cZ ?_|refine dR ?_|refine cu ?_|refine dQ ?_|refine bF ?_|refine bZ ?_)|((with_reducible refine cO ?_ ?_);rfl)|((with_reducible refine dh ?_ ?_);rfl)|((with_reducible refine dw ?_ ?_);rfl)|(with_reducible (refine dn rfl ?_ ?_);all_goals(intro hb;have hb':=hb;(try simp only[pkC]at hb');try(exfalso;omega)))|(refine rg_ ?_;intro K hK)|((first|((with_reducible refine aQ false ?_ ?_);rfl)|((with_reducible refine aQ true ?_ ?_);rfl));intro K hK)|(refine hq_ ?_;clear hK K)|refine ca_ ?_ ?_|((with_reducible refine jT ?_);simp(disch:=first|decide|omega) only[↓pkS,pkW,pkA,undef,c_,d_,g_,bg,gG,lvD,iC,lcD,lvK,lcK,aV,aP,bn,ex,St.put,St.ev,kav,gdA,opI,bI,iE,bV,gy,iI,AV.toD,AC.toD,AV.nw,AC.nw,AC.one,a_,aG,ay,aB,aF,aN,aH,if_true,if_false,b_,bW,D.one,D.ones,D.sz,D.szs,h_,i_,e_,f_,reduceIte,pkN,pkV])|((with_reducible refine lq ?_);simp(disch:=first|decide|omega) only[↓pkR,pkD,pkA,undef,c_,d_,g_,bg,gG,lvD,iC,lcD,lvK,lcK,aV,aP,bn,ex,St.put,St.ev,kav,gdA,opI,bI,iE,bV,gy,iI,AV.toD,AC.toD,AV.nw,AC.nw,AC.one,a_,aG,ay,aB,aF,aN,aH,if_true,if_false,b_,bW,D.one,D.ones,D.sz,D.szs,h_,i_,e_,f_,reduceIte,pkN,pkV])|(first|(with_reducible rfl)|(with_reducible refine fC ?_;kernel_rfl)|exact eu _|exact dY _|exact el_ln _|exact el_tk _ _|exact el_td _ _ _|omega|(simp;done)|(simp;omega))|((with_reducible refine fF ?_);simp[aO,iW,fU,jg,AC.toD,aG,ay,aB,aF,a_,eF,bG,eH,eG,fJ,bQ,fO,fM,mJ,mM,pkV];first|done|rfl))
   have hlist0:=hlist;refine dN (X:=Nat×Option Nat) (fun q=> [.d,.k,.k,.k,.d,.v (.c false [.raw (.int .i64 (q.1:Nat))])]) (fun q=>match q.2 with|none=> [⟨x.cols.map ls,9,1,1,false⟩]|some w=> [⟨x.cols.map ls,9,1,1,false⟩,⟨(x.rows.take q.1).map GRow.toD,111,2,w,true⟩]) (fun q bs=> [[.raw (.int .i64 x.kind),.raw (.int .i64 x.n),.raw (.int .i64 x.step),.raw (.string x.text),.sl false (x.list.map GVal.toD),.sl false (x.cols.map ls),.sl false (x.rows.map GRow.toD)],[.raw (.int .i64 0),.raw (.int .i64 0),.raw (.int .i64 0),.raw (.string ⟨#[]⟩),.raw (.slice none 0 0),.raw (.slice none 0 0),.raw (.slice none 0 0)],[.raw (.int .i64 x.kind),.raw (.int .i64 x.n),.raw (.int .i64 x.step),.raw (.string x.text),.raw (.slice none 0 0),.own 0 1,(match q.2 with|none=> .raw (.slice none 0 0)|some w=> .own 1 w)]]) (fun q=>q.1≤x.rows.length∧(match q.2 with|none=>q.1=0|some _=>0<q.1)) (fun q=>x.rows.length - q.1) (0,none) ⟨w_ _,rfl⟩ ?_ ?_
   ·simp[dF,gJ,dG,dI,AV.fits,AC.fits,FB,dD]
   rintro⟨j,_|u⟩ ⟨hk,hk0⟩
   ·simp only at hk hk0;subst hk0;simp only[FB,dD];by_cases hlk:0<x.rows.length
    ·have hrw:=sZ x (p_ hlk);have hc:=jY x.rows[0] (by omega) (by omega);have hs:=eU x.rows hlk;rw[GRow.aK]at hc
     repeat' (first|(with_reducible first|refine fD ?_|refine dA ?_|refine dS ?_|refine dU ?_|refine fE ?_|refine jP ?_|refine dP ?_|refine eY ?_|refine bf ?_|refine cZ ?_|refine dR ?_|refine cu ?_|refine dQ ?_|refine bF ?_|refine bZ ?_)|((with_reducible refine cO ?_ ?_);rfl)|((with_reducible refine dh ?_ ?_);rfl)|((with_reducible refine dw ?_ ?_);rfl)|(with_reducible (refine dn rfl ?_ ?_);all_goals(intro hb;have hb':=hb;(try simp only[pkC]at hb');try(exfalso;omega)))|(refine rg_ ?_;intro K hK)|((first|((with_reducible refine aQ false ?_ ?_);rfl)|((with_reducible refine aQ true ?_ ?_);rfl));intro K hK)|(refine hq_ ?_;clear hK K)|refine ca_ ?_ ?_|(refine cg_ ?_;first|refine cT_ hc ?_)|((with_reducible refine jT ?_);simp(disch:=first|decide|omega) only[↓pkS,pkW,pkA,undef,c_,d_,g_,bg,gG,lvD,iC,lcD,lvK,lcK,aV,aP,bn,ex,St.put,St.ev,kav,gdA,opI,bI,iE,bV,gy,iI,AV.toD,AC.toD,AV.nw,AC.nw,AC.one,a_,aG,ay,aB,aF,aN,aH,if_true,if_false,b_,bW,D.one,D.ones,D.sz,D.szs,h_,i_,e_,f_,reduceIte,pkN,pkV])|((with_reducible refine lq ?_);simp(disch:=first|decide|omega) only[↓pkR,pkD,pkA,undef,c_,d_,g_,bg,gG,lvD,iC,lcD,lvK,lcK,aV,aP,bn,ex,St.put,St.ev,kav,gdA,opI,bI,iE,bV,gy,iI,AV.toD,AC.toD,AV.nw,AC.nw,AC.one,a_,aG,ay,aB,aF,aN,aH,if_true,if_false,b_,bW,D.one,D.ones,D.sz,D.szs,h_,i_,e_,f_,reduceIte,pkN,pkV])|(first|(with_reducible rfl)|(with_reducible refine fC ?_;kernel_rfl)|exact eu _|exact dY _|exact el_ln _|exact el_tk _ _|exact el_td _ _ _|omega|(simp;done)|(simp;omega))|((with_reducible refine fF ?_);simp[aO,iW,fU,jg,AC.toD,aG,ay,aB,aF,a_,eF,bG,eH,eG,fJ,bQ,fO,fM,mJ,mM,pkV];first|done|rfl))
     all_goals first
      |(simp only[l_,q_,n_,o_,r_];omega)
      | (refine eX (1,some 0) ?_ ⟨show 1≤x.rows.length by omega,P_⟩ (show x.rows.length - 1<x.rows.length - 0 by omega)
         simp[dF,gJ,dG,dI,AV.fits,AC.fits,FB,dD,hs,GRow.aj,li,ls, -m_])
    ·have hrows:x.rows= []:=u_ (by omega);have hrlrows:x.rows.length=0:=by omega
     repeat' (first|(with_reducible first|refine fD ?_|refine dA ?_|refine dS ?_|refine dU ?_|refine fE ?_|refine jP ?_|refine dP ?_|refine eY ?_|refine bf ?_|refine cZ ?_|refine dR ?_|refine cu ?_|refine dQ ?_|refine bF ?_|refine bZ ?_)|((with_reducible refine cO ?_ ?_);rfl)|((with_reducible refine dh ?_ ?_);rfl)|((with_reducible refine dw ?_ ?_);rfl)|(with_reducible (refine dn rfl ?_ ?_);all_goals(intro hb;have hb':=hb;(try simp only[pkC]at hb');try(exfalso;omega)))|(refine rg_ ?_;intro K hK)|((first|((with_reducible refine aQ false ?_ ?_);rfl)|((with_reducible refine aQ true ?_ ?_);rfl));intro K hK)|(refine hq_ ?_;clear hK K)|refine ca_ ?_ ?_|((with_reducible refine jT ?_);simp(disch:=first|decide|omega) only[↓pkS,pkW,pkA,undef,c_,d_,g_,bg,gG,lvD,iC,lcD,lvK,lcK,aV,aP,bn,ex,St.put,St.ev,kav,gdA,opI,bI,iE,bV,gy,iI,AV.toD,AC.toD,AV.nw,AC.nw,AC.one,a_,aG,ay,aB,aF,aN,aH,if_true,if_false,b_,bW,D.one,D.ones,D.sz,D.szs,h_,i_,e_,f_,reduceIte,pkN,pkV])|((with_reducible refine lq ?_);simp(disch:=first|decide|omega) only[↓pkR,pkD,pkA,undef,c_,d_,g_,bg,gG,lvD,iC,lcD,lvK,lcK,aV,aP,bn,ex,St.put,St.ev,kav,gdA,opI,bI,iE,bV,gy,iI,AV.toD,AC.toD,AV.nw,AC.nw,AC.one,a_,aG,ay,aB,aF,aN,aH,if_true,if_false,b_,bW,D.one,D.ones,D.sz,D.szs,h_,i_,e_,f_,reduceIte,pkN,pkV])|(first|(with_reducible rfl)|(with_reducible refine fC ?_;kernel_rfl)|exact eu _|exact dY _|exact el_ln _|exact el_tk _ _|exact el_td _ _ _|omega|(simp;done)|(simp;omega))|((with_reducible refine fF ?_);simp[aO,iW,fU,jg,AC.toD,aG,ay,aB,aF,a_,eF,bG,eH,eG,fJ,bQ,fO,fM,mJ,mM,pkV];first|done|rfl))
     exact bH ⟨1,_,rfl,rfl,by rw[hlist0,hrows];simp[eP,jk];exact kF _⟩
   ·simp only at hk hk0;simp only[FB,dD];by_cases hlk:j<x.rows.length
    ·have hrw:=sZ x (p_ hlk);have hc:=jY x.rows[j] (by omega) (by omega);have hs:=eU x.rows hlk;rw[GRow.aK]at hc
     repeat' (first|(with_reducible first|refine fD ?_|refine dA ?_|refine dS ?_|refine dU ?_|refine fE ?_|refine jP ?_|refine dP ?_|refine eY ?_|refine bf ?_|refine cZ ?_|refine dR ?_|refine cu ?_|refine dQ ?_|refine bF ?_|refine bZ ?_)|((with_reducible refine cO ?_ ?_);rfl)|((with_reducible refine dh ?_ ?_);rfl)|((with_reducible refine dw ?_ ?_);rfl)|(with_reducible (refine dn rfl ?_ ?_);all_goals(intro hb;have hb':=hb;(try simp only[pkC]at hb');try(exfalso;omega)))|(refine rg_ ?_;intro K hK)|((first|((with_reducible refine aQ false ?_ ?_);rfl)|((with_reducible refine aQ true ?_ ?_);rfl));intro K hK)|(refine hq_ ?_;clear hK K)|refine ca_ ?_ ?_|(refine cg_ ?_;first|refine cT_ hc ?_)|((with_reducible refine jT ?_);simp(disch:=first|decide|omega) only[↓pkS,pkW,pkA,undef,c_,d_,g_,bg,gG,lvD,iC,lcD,lvK,lcK,aV,aP,bn,ex,St.put,St.ev,kav,gdA,opI,bI,iE,bV,gy,iI,AV.toD,AC.toD,AV.nw,AC.nw,AC.one,a_,aG,ay,aB,aF,aN,aH,if_true,if_false,b_,bW,D.one,D.ones,D.sz,D.szs,h_,i_,e_,f_,reduceIte,pkN,pkV])|((with_reducible refine lq ?_);simp(disch:=first|decide|omega) only[↓pkR,pkD,pkA,undef,c_,d_,g_,bg,gG,lvD,iC,lcD,lvK,lcK,aV,aP,bn,ex,St.put,St.ev,kav,gdA,opI,bI,iE,bV,gy,iI,AV.toD,AC.toD,AV.nw,AC.nw,AC.one,a_,aG,ay,aB,aF,aN,aH,if_true,if_false,b_,bW,D.one,D.ones,D.sz,D.szs,h_,i_,e_,f_,reduceIte,pkN,pkV])|(first|(with_reducible rfl)|(with_reducible refine fC ?_;kernel_rfl)|exact eu _|exact dY _|exact el_ln _|exact el_tk _ _|exact el_td _ _ _|omega|(simp;done)|(simp;omega))|((with_reducible refine fF ?_);simp[aO,iW,fU,jg,AC.toD,aG,ay,aB,aF,a_,eF,bG,eH,eG,fJ,bQ,fO,fM,mJ,mM,pkV];first|done|rfl))
     all_goals first
      |(simp only[l_,q_,n_,o_,r_];omega)
      | (refine eX (j+1,some (u+1)) ?_ ⟨show j+1≤x.rows.length by omega,N_ _⟩ (show x.rows.length - (j+1)<x.rows.length - j by omega)
         simp[dF,gJ,dG,dI,AV.fits,AC.fits,FB,dD,hs,GRow.aj,li,ls, -m_])
    ·obtain rfl:j=x.rows.length:=by omega
     rw[v_]
     repeat' (first|(with_reducible first|refine fD ?_|refine dA ?_|refine dS ?_|refine dU ?_|refine fE ?_|refine jP ?_|refine dP ?_|refine eY ?_|refine bf ?_|refine cZ ?_|refine dR ?_|refine cu ?_|refine dQ ?_|refine bF ?_|refine bZ ?_)|((with_reducible refine cO ?_ ?_);rfl)|((with_reducible refine dh ?_ ?_);rfl)|((with_reducible refine dw ?_ ?_);rfl)|(with_reducible (refine dn rfl ?_ ?_);all_goals(intro hb;have hb':=hb;(try simp only[pkC]at hb');try(exfalso;omega)))|(refine rg_ ?_;intro K hK)|((first|((with_reducible refine aQ false ?_ ?_);rfl)|((with_reducible refine aQ true ?_ ?_);rfl));intro K hK)|(refine hq_ ?_;clear hK K)|refine ca_ ?_ ?_|((with_reducible refine jT ?_);simp(disch:=first|decide|omega) only[↓pkS,pkW,pkA,undef,c_,d_,g_,bg,gG,lvD,iC,lcD,lvK,lcK,aV,aP,bn,ex,St.put,St.ev,kav,gdA,opI,bI,iE,bV,gy,iI,AV.toD,AC.toD,AV.nw,AC.nw,AC.one,a_,aG,ay,aB,aF,aN,aH,if_true,if_false,b_,bW,D.one,D.ones,D.sz,D.szs,h_,i_,e_,f_,reduceIte,pkN,pkV])|((with_reducible refine lq ?_);simp(disch:=first|decide|omega) only[↓pkR,pkD,pkA,undef,c_,d_,g_,bg,gG,lvD,iC,lcD,lvK,lcK,aV,aP,bn,ex,St.put,St.ev,kav,gdA,opI,bI,iE,bV,gy,iI,AV.toD,AC.toD,AV.nw,AC.nw,AC.one,a_,aG,ay,aB,aF,aN,aH,if_true,if_false,b_,bW,D.one,D.ones,D.sz,D.szs,h_,i_,e_,f_,reduceIte,pkN,pkV])|(first|(with_reducible rfl)|(with_reducible refine fC ?_;kernel_rfl)|exact eu _|exact dY _|exact el_ln _|exact el_tk _ _|exact el_td _ _ _|omega|(simp;done)|(simp;omega))|((with_reducible refine fF ?_);simp[aO,iW,fU,jg,AC.toD,aG,ay,aB,aF,a_,eF,bG,eH,eG,fJ,bQ,fO,fM,mJ,mM,pkV];first|done|rfl))
     exact bH ⟨1,_,rfl,rfl,by rw[hlist0];simp[eP,jk];exact kF _⟩
 ·simp only at hk hk0;simp only[FB,dD];by_cases hlk:k<x.list.length
  ·have hc:=hrec x.list[k] (p_ hlk);have hs:=eU x.list hlk;rw[GVal.aK]at hc
   repeat' (first|(with_reducible first|refine fD ?_|refine dA ?_|refine dS ?_|refine dU ?_|refine fE ?_|refine jP ?_|refine dP ?_|refine eY ?_|refine bf ?_|refine cZ ?_|refine dR ?_|refine cu ?_|refine dQ ?_|refine bF ?_|refine bZ ?_)|((with_reducible refine cO ?_ ?_);rfl)|((with_reducible refine dh ?_ ?_);rfl)|((with_reducible refine dw ?_ ?_);rfl)|(with_reducible (refine dn rfl ?_ ?_);all_goals(intro hb;have hb':=hb;(try simp only[pkC]at hb');try(exfalso;omega)))|(refine rg_ ?_;intro K hK)|((first|((with_reducible refine aQ false ?_ ?_);rfl)|((with_reducible refine aQ true ?_ ?_);rfl));intro K hK)|(refine hq_ ?_;clear hK K)|refine ca_ ?_ ?_|(refine cg_ ?_;first|refine cT_ hc ?_)|((with_reducible refine jT ?_);simp(disch:=first|decide|omega) only[↓pkS,pkW,pkA,undef,c_,d_,g_,bg,gG,lvD,iC,lcD,lvK,lcK,aV,aP,bn,ex,St.put,St.ev,kav,gdA,opI,bI,iE,bV,gy,iI,AV.toD,AC.toD,AV.nw,AC.nw,AC.one,a_,aG,ay,aB,aF,aN,aH,if_true,if_false,b_,bW,D.one,D.ones,D.sz,D.szs,h_,i_,e_,f_,reduceIte,pkN,pkV])|((with_reducible refine lq ?_);simp(disch:=first|decide|omega) only[↓pkR,pkD,pkA,undef,c_,d_,g_,bg,gG,lvD,iC,lcD,lvK,lcK,aV,aP,bn,ex,St.put,St.ev,kav,gdA,opI,bI,iE,bV,gy,iI,AV.toD,AC.toD,AV.nw,AC.nw,AC.one,a_,aG,ay,aB,aF,aN,aH,if_true,if_false,b_,bW,D.one,D.ones,D.sz,D.szs,h_,i_,e_,f_,reduceIte,pkN,pkV])|(first|(with_reducible rfl)|(with_reducible refine fC ?_;kernel_rfl)|exact eu _|exact dY _|exact el_ln _|exact el_tk _ _|exact el_td _ _ _|omega|(simp;done)|(simp;omega))|((with_reducible refine fF ?_);simp[aO,iW,fU,jg,AC.toD,aG,ay,aB,aF,a_,eF,bG,eH,eG,fJ,bQ,fO,fM,mJ,mM,pkV];first|done|rfl))
   all_goals first
    |(simp only[l_,q_,n_,o_,r_];omega)
    | (refine eX (k+1,some (v+1)) ?_ ⟨show k+1≤x.list.length by omega,N_ _⟩ (show x.list.length - (k+1)<x.list.length - k by omega)
       simp[dF,gJ,dG,dI,AV.fits,AC.fits,FB,dD,hs,GVal.aj,li,ls, -m_])
  ·obtain rfl:k=x.list.length:=by omega
   rw[v_]
   repeat' (first|(with_reducible first|refine fD ?_|refine dA ?_|refine dS ?_|refine dU ?_|refine fE ?_|refine jP ?_|refine dP ?_|refine eY ?_|refine bf ?_|refine cZ ?_|refine dR ?_|refine cu ?_|refine dQ ?_|refine bF ?_|refine bZ ?_)|((with_reducible refine cO ?_ ?_);rfl)|((with_reducible refine dh ?_ ?_);rfl)|((with_reducible refine dw ?_ ?_);rfl)|(with_reducible (refine dn rfl ?_ ?_);all_goals(intro hb;have hb':=hb;(try simp only[pkC]at hb');try(exfalso;omega)))|(refine rg_ ?_;intro K hK)|((first|((with_reducible refine aQ false ?_ ?_);rfl)|((with_reducible refine aQ true ?_ ?_);rfl));intro K hK)|(refine hq_ ?_;clear hK K)|refine ca_ ?_ ?_|((with_reducible refine jT ?_);simp(disch:=first|decide|omega) only[↓pkS,pkW,pkA,undef,c_,d_,g_,bg,gG,lvD,iC,lcD,lvK,lcK,aV,aP,bn,ex,St.put,St.ev,kav,gdA,opI,bI,iE,bV,gy,iI,AV.toD,AC.toD,AV.nw,AC.nw,AC.one,a_,aG,ay,aB,aF,aN,aH,if_true,if_false,b_,bW,D.one,D.ones,D.sz,D.szs,h_,i_,e_,f_,reduceIte,pkN,pkV])|((with_reducible refine lq ?_);simp(disch:=first|decide|omega) only[↓pkR,pkD,pkA,undef,c_,d_,g_,bg,gG,lvD,iC,lcD,lvK,lcK,aV,aP,bn,ex,St.put,St.ev,kav,gdA,opI,bI,iE,bV,gy,iI,AV.toD,AC.toD,AV.nw,AC.nw,AC.one,a_,aG,ay,aB,aF,aN,aH,if_true,if_false,b_,bW,D.one,D.ones,D.sz,D.szs,h_,i_,e_,f_,reduceIte,pkN,pkV])|(first|(with_reducible rfl)|(with_reducible refine fC ?_;kernel_rfl)|exact eu _|exact dY _|exact el_ln _|exact el_tk _ _|exact el_td _ _ _|omega|(simp;done)|(simp;omega))|((with_reducible refine fF ?_);simp[aO,iW,fU,jg,AC.toD,aG,ay,aB,aF,a_,eF,bG,eH,eG,fJ,bQ,fO,fM,mJ,mM,pkV];first|done|rfl))
   refine dN (X:=Nat×Option Nat) (fun q=> [.d,.k,.k,.k,.d,.v (.c false [.raw (.int .i64 (q.1:Nat))])]) (fun q=>match q.2 with|none=> [⟨x.cols.map ls,9,1,1,false⟩,⟨x.list.map GVal.toD,41,7,v,true⟩]|some w=> [⟨x.cols.map ls,9,1,1,false⟩,⟨x.list.map GVal.toD,41,7,v,true⟩,⟨(x.rows.take q.1).map GRow.toD,111,2,w,true⟩]) (fun q bs=> [[.raw (.int .i64 x.kind),.raw (.int .i64 x.n),.raw (.int .i64 x.step),.raw (.string x.text),.sl false (x.list.map GVal.toD),.sl false (x.cols.map ls),.sl false (x.rows.map GRow.toD)],[.raw (.int .i64 0),.raw (.int .i64 0),.raw (.int .i64 0),.raw (.string ⟨#[]⟩),.raw (.slice none 0 0),.raw (.slice none 0 0),.raw (.slice none 0 0)],[.raw (.int .i64 x.kind),.raw (.int .i64 x.n),.raw (.int .i64 x.step),.raw (.string x.text),.own 1 v,.own 0 1,(match q.2 with|none=> .raw (.slice none 0 0)|some w=> .own 2 w)]]) (fun q=>q.1≤x.rows.length∧(match q.2 with|none=>q.1=0|some _=>0<q.1)) (fun q=>x.rows.length - q.1) (0,none) ⟨w_ _,rfl⟩ ?_ ?_
   ·simp[dF,gJ,dG,dI,AV.fits,AC.fits,FB,dD]
   rintro⟨j,_|u⟩ ⟨hk,hk0⟩
   ·simp only at hk hk0;subst hk0;simp only[FB,dD];by_cases hlk:0<x.rows.length
    ·have hrw:=sZ x (p_ hlk);have hc:=jY x.rows[0] (by omega) (by omega);have hs:=eU x.rows hlk;rw[GRow.aK]at hc
     repeat' (first|(with_reducible first|refine fD ?_|refine dA ?_|refine dS ?_|refine dU ?_|refine fE ?_|refine jP ?_|refine dP ?_|refine eY ?_|refine bf ?_|refine cZ ?_|refine dR ?_|refine cu ?_|refine dQ ?_|refine bF ?_|refine bZ ?_)|((with_reducible refine cO ?_ ?_);rfl)|((with_reducible refine dh ?_ ?_);rfl)|((with_reducible refine dw ?_ ?_);rfl)|(with_reducible (refine dn rfl ?_ ?_);all_goals(intro hb;have hb':=hb;(try simp only[pkC]at hb');try(exfalso;omega)))|(refine rg_ ?_;intro K hK)|((first|((with_reducible refine aQ false ?_ ?_);rfl)|((with_reducible refine aQ true ?_ ?_);rfl));intro K hK)|(refine hq_ ?_;clear hK K)|refine ca_ ?_ ?_|(refine cg_ ?_;first|refine cT_ hc ?_)|((with_reducible refine jT ?_);simp(disch:=first|decide|omega) only[↓pkS,pkW,pkA,undef,c_,d_,g_,bg,gG,lvD,iC,lcD,lvK,lcK,aV,aP,bn,ex,St.put,St.ev,kav,gdA,opI,bI,iE,bV,gy,iI,AV.toD,AC.toD,AV.nw,AC.nw,AC.one,a_,aG,ay,aB,aF,aN,aH,if_true,if_false,b_,bW,D.one,D.ones,D.sz,D.szs,h_,i_,e_,f_,reduceIte,pkN,pkV])|((with_reducible refine lq ?_);simp(disch:=first|decide|omega) only[↓pkR,pkD,pkA,undef,c_,d_,g_,bg,gG,lvD,iC,lcD,lvK,lcK,aV,aP,bn,ex,St.put,St.ev,kav,gdA,opI,bI,iE,bV,gy,iI,AV.toD,AC.toD,AV.nw,AC.nw,AC.one,a_,aG,ay,aB,aF,aN,aH,if_true,if_false,b_,bW,D.one,D.ones,D.sz,D.szs,h_,i_,e_,f_,reduceIte,pkN,pkV])|(first|(with_reducible rfl)|(with_reducible refine fC ?_;kernel_rfl)|exact eu _|exact dY _|exact el_ln _|exact el_tk _ _|exact el_td _ _ _|omega|(simp;done)|(simp;omega))|((with_reducible refine fF ?_);simp[aO,iW,fU,jg,AC.toD,aG,ay,aB,aF,a_,eF,bG,eH,eG,fJ,bQ,fO,fM,mJ,mM,pkV];first|done|rfl))
     all_goals first
      |(simp only[l_,q_,n_,o_,r_];omega)
      | (refine eX (1,some 0) ?_ ⟨show 1≤x.rows.length by omega,P_⟩ (show x.rows.length - 1<x.rows.length - 0 by omega)
         simp[dF,gJ,dG,dI,AV.fits,AC.fits,FB,dD,hs,GRow.aj,li,ls, -m_])
    ·have hrows:x.rows= []:=u_ (by omega);have hrlrows:x.rows.length=0:=by omega
     repeat' (first|(with_reducible first|refine fD ?_|refine dA ?_|refine dS ?_|refine dU ?_|refine fE ?_|refine jP ?_|refine dP ?_|refine eY ?_|refine bf ?_|refine cZ ?_|refine dR ?_|refine cu ?_|refine dQ ?_|refine bF ?_|refine bZ ?_)|((with_reducible refine cO ?_ ?_);rfl)|((with_reducible refine dh ?_ ?_);rfl)|((with_reducible refine dw ?_ ?_);rfl)|(with_reducible (refine dn rfl ?_ ?_);all_goals(intro hb;have hb':=hb;(try simp only[pkC]at hb');try(exfalso;omega)))|(refine rg_ ?_;intro K hK)|((first|((with_reducible refine aQ false ?_ ?_);rfl)|((with_reducible refine aQ true ?_ ?_);rfl));intro K hK)|(refine hq_ ?_;clear hK K)|refine ca_ ?_ ?_|((with_reducible refine jT ?_);simp(disch:=first|decide|omega) only[↓pkS,pkW,pkA,undef,c_,d_,g_,bg,gG,lvD,iC,lcD,lvK,lcK,aV,aP,bn,ex,St.put,St.ev,kav,gdA,opI,bI,iE,bV,gy,iI,AV.toD,AC.toD,AV.nw,AC.nw,AC.one,a_,aG,ay,aB,aF,aN,aH,if_true,if_false,b_,bW,D.one,D.ones,D.sz,D.szs,h_,i_,e_,f_,reduceIte,pkN,pkV])|((with_reducible refine lq ?_);simp(disch:=first|decide|omega) only[↓pkR,pkD,pkA,undef,c_,d_,g_,bg,gG,lvD,iC,lcD,lvK,lcK,aV,aP,bn,ex,St.put,St.ev,kav,gdA,opI,bI,iE,bV,gy,iI,AV.toD,AC.toD,AV.nw,AC.nw,AC.one,a_,aG,ay,aB,aF,aN,aH,if_true,if_false,b_,bW,D.one,D.ones,D.sz,D.szs,h_,i_,e_,f_,reduceIte,pkN,pkV])|(first|(with_reducible rfl)|(with_reducible refine fC ?_;kernel_rfl)|exact eu _|exact dY _|exact el_ln _|exact el_tk _ _|exact el_td _ _ _|omega|(simp;done)|(simp;omega))|((with_reducible refine fF ?_);simp[aO,iW,fU,jg,AC.toD,aG,ay,aB,aF,a_,eF,bG,eH,eG,fJ,bQ,fO,fM,mJ,mM,pkV];first|done|rfl))
     exact bH ⟨1,_,rfl,rfl,by rw[hrows];simp[eP,jk];exact kF _⟩
   ·simp only at hk hk0;simp only[FB,dD];by_cases hlk:j<x.rows.length
    ·have hrw:=sZ x (p_ hlk);have hc:=jY x.rows[j] (by omega) (by omega);have hs:=eU x.rows hlk;rw[GRow.aK]at hc
     repeat' (first|(with_reducible first|refine fD ?_|refine dA ?_|refine dS ?_|refine dU ?_|refine fE ?_|refine jP ?_|refine dP ?_|refine eY ?_|refine bf ?_|refine cZ ?_|refine dR ?_|refine cu ?_|refine dQ ?_|refine bF ?_|refine bZ ?_)|((with_reducible refine cO ?_ ?_);rfl)|((with_reducible refine dh ?_ ?_);rfl)|((with_reducible refine dw ?_ ?_);rfl)|(with_reducible (refine dn rfl ?_ ?_);all_goals(intro hb;have hb':=hb;(try simp only[pkC]at hb');try(exfalso;omega)))|(refine rg_ ?_;intro K hK)|((first|((with_reducible refine aQ false ?_ ?_);rfl)|((with_reducible refine aQ true ?_ ?_);rfl));intro K hK)|(refine hq_ ?_;clear hK K)|refine ca_ ?_ ?_|(refine cg_ ?_;first|refine cT_ hc ?_)|((with_reducible refine jT ?_);simp(disch:=first|decide|omega) only[↓pkS,pkW,pkA,undef,c_,d_,g_,bg,gG,lvD,iC,lcD,lvK,lcK,aV,aP,bn,ex,St.put,St.ev,kav,gdA,opI,bI,iE,bV,gy,iI,AV.toD,AC.toD,AV.nw,AC.nw,AC.one,a_,aG,ay,aB,aF,aN,aH,if_true,if_false,b_,bW,D.one,D.ones,D.sz,D.szs,h_,i_,e_,f_,reduceIte,pkN,pkV])|((with_reducible refine lq ?_);simp(disch:=first|decide|omega) only[↓pkR,pkD,pkA,undef,c_,d_,g_,bg,gG,lvD,iC,lcD,lvK,lcK,aV,aP,bn,ex,St.put,St.ev,kav,gdA,opI,bI,iE,bV,gy,iI,AV.toD,AC.toD,AV.nw,AC.nw,AC.one,a_,aG,ay,aB,aF,aN,aH,if_true,if_false,b_,bW,D.one,D.ones,D.sz,D.szs,h_,i_,e_,f_,reduceIte,pkN,pkV])|(first|(with_reducible rfl)|(with_reducible refine fC ?_;kernel_rfl)|exact eu _|exact dY _|exact el_ln _|exact el_tk _ _|exact el_td _ _ _|omega|(simp;done)|(simp;omega))|((with_reducible refine fF ?_);simp[aO,iW,fU,jg,AC.toD,aG,ay,aB,aF,a_,eF,bG,eH,eG,fJ,bQ,fO,fM,mJ,mM,pkV];first|done|rfl))
     all_goals first
      |(simp only[l_,q_,n_,o_,r_];omega)
      | (refine eX (j+1,some (u+1)) ?_ ⟨show j+1≤x.rows.length by omega,N_ _⟩ (show x.rows.length - (j+1)<x.rows.length - j by omega)
         simp[dF,gJ,dG,dI,AV.fits,AC.fits,FB,dD,hs,GRow.aj,li,ls, -m_])
    ·obtain rfl:j=x.rows.length:=by omega
     rw[v_]
     repeat' (first|(with_reducible first|refine fD ?_|refine dA ?_|refine dS ?_|refine dU ?_|refine fE ?_|refine jP ?_|refine dP ?_|refine eY ?_|refine bf ?_|refine cZ ?_|refine dR ?_|refine cu ?_|refine dQ ?_|refine bF ?_|refine bZ ?_)|((with_reducible refine cO ?_ ?_);rfl)|((with_reducible refine dh ?_ ?_);rfl)|((with_reducible refine dw ?_ ?_);rfl)|(with_reducible (refine dn rfl ?_ ?_);all_goals(intro hb;have hb':=hb;(try simp only[pkC]at hb');try(exfalso;omega)))|(refine rg_ ?_;intro K hK)|((first|((with_reducible refine aQ false ?_ ?_);rfl)|((with_reducible refine aQ true ?_ ?_);rfl));intro K hK)|(refine hq_ ?_;clear hK K)|refine ca_ ?_ ?_|((with_reducible refine jT ?_);simp(disch:=first|decide|omega) only[↓pkS,pkW,pkA,undef,c_,d_,g_,bg,gG,lvD,iC,lcD,lvK,lcK,aV,aP,bn,ex,St.put,St.ev,kav,gdA,opI,bI,iE,bV,gy,iI,AV.toD,AC.toD,AV.nw,AC.nw,AC.one,a_,aG,ay,aB,aF,aN,aH,if_true,if_false,b_,bW,D.one,D.ones,D.sz,D.szs,h_,i_,e_,f_,reduceIte,pkN,pkV])|((with_reducible refine lq ?_);simp(disch:=first|decide|omega) only[↓pkR,pkD,pkA,undef,c_,d_,g_,bg,gG,lvD,iC,lcD,lvK,lcK,aV,aP,bn,ex,St.put,St.ev,kav,gdA,opI,bI,iE,bV,gy,iI,AV.toD,AC.toD,AV.nw,AC.nw,AC.one,a_,aG,ay,aB,aF,aN,aH,if_true,if_false,b_,bW,D.one,D.ones,D.sz,D.szs,h_,i_,e_,f_,reduceIte,pkN,pkV])|(first|(with_reducible rfl)|(with_reducible refine fC ?_;kernel_rfl)|exact eu _|exact dY _|exact el_ln _|exact el_tk _ _|exact el_td _ _ _|omega|(simp;done)|(simp;omega))|((with_reducible refine fF ?_);simp[aO,iW,fU,jg,AC.toD,aG,ay,aB,aF,a_,eF,bG,eH,eG,fJ,bQ,fO,fM,mJ,mM,pkV];first|done|rfl))
     exact bH ⟨1,_,rfl,rfl,by simp[eP,jk];exact kF _⟩
theorem Aj :∀(n:Nat) (x:GVal),x.toD.wt<n→x.toD.wt≤1048576→aJ Try.prog 54 [x.toD] (.c true (x.toD.acs true))
 |0,x,h,_=>by omega
 |n+1,x,h,hw=>Gu x hw fun y hy=>Aj n y (by have:=rM x hy;omega) (by have:=rM x hy;omega)
theorem ou(x:GVal)(hw:x.toD.wt≤1048576):aJ Try.prog 54 [x.toD] (.c true (x.toD.acs true)):=Aj _ x (O_ _) hw
end
section
open Value renaming oneCell'→a_,ownBlock→K_
open Bool renaming false_eq_true→b_
open List renaming flatMap_cons→c_,flatMap_nil→d_,append_nil→g_,length_map→l_,take_append_getElem→m_,length_cons→n_,length_nil→o_,getElem_mem→p_,length_append→q_,length_take→r_,eq_nil_of_length_eq_zero→u_,take_length→v_,map_cons→B_,mem_map_of_mem→D_,getElem?_cons_zero→F_,cons_append→H_,map_nil→I_,nil_append→J_,set_cons_zero→L_,replicate→Q_,mem_map→S_,map_toArray→V_,nodup_nil→Y_
open Nat renaming reduceLeDiff→e_,reduceEqDiff→f_,reduceAdd→h_,reduceSub→i_,le_refl→k_,zero_le→w_,le_succ→G_,succ_pos→N_,lt_succ_self→O_,one_pos→P_,le_trans→R_,mul_le_mul→W_
open Below renaming refl→j_,alloc→s_,drew→t_,setCell→C_,heap_setCell→T_
open Builtin renaming append_→x_,nextslicecap→z_,firstCells→E_,lenOf→M_
open Or renaming inl→y_
open Region renaming wanted→A_
section
variable{P:Program}{f:Nat}
def JI(l:List D)(w:World)(e:Ending)(w':World):Prop:=∃fp v,e= .returned v∧Sl w' l fp v∧aX w' w.heap.size fp∧Below w.heap.size w w'
theorem Gm{ds:List D}{l:List D}{e s:Nat}(h:dH P f ds (.c false [.own 0 0]) [⟨l,e,s,0,⟨true,true⟩⟩]){w:World}{vs:List Value}(hr:Rds w ds vs)(ht:nM w):Calls P f vs.toArray w (JI l w):=(h w vs hr ht).mono fun en w' ⟨v,om,h1,h2,h3,h4⟩=>by
 have h8:Oks ⟨w.heap.size,om,[],[]⟩ [⟨l,e,s,0,⟨true,true⟩⟩] w' [.own 0 0] [v]:=h3;obtain⟨fp,r,m⟩:=MK (dd:= [.sl l]) h2 h4 ht rfl (by simp[lcK]) (by simp[lcK,aW]) h8;rw[dK]at r;obtain⟨f1,f2,c1,c2,hf,hc,hR,h9⟩:=r;obtain⟨rfl,rfl⟩:=h9;simp only[g_]at hf hc;subst hf hc;exact⟨_,v,h1,hR,m,h4⟩
def EY(l:List D)(w:World)(e:Ending)(w':World):Prop:=∃fp v,e= .returned v∧Sl w' l fp v∧sV w' w.heap.size fp∧Below w.heap.size w w'
theorem PL{ds:List D}{l:List D}(h:aJ P f ds (.c false [.sl true l])){w:World}{vs:List Value}(hr:Rds w ds vs)(ht:nM w):Calls P f vs.toArray w (EY l w):=(h w vs hr ht).mono fun en w' ⟨v,h1,h2,h3⟩=>by
 have h8:Oks (kE w.heap.size) [] w' [.sl true l] [v]:=h2;obtain⟨fp,g1,g2⟩:=h8.1;exact⟨fp,v,h1,g1,⟨trivial,fun b hb=>⟨lU.1 (g2 b hb).1,trivial⟩⟩,h3⟩
def D.ff(d:D):D:= .agg d.flat
theorem UU{d:D}{w:World}{fp:List Nat}{cs:List Value}:R w d.ff fp cs↔R w d fp cs:=by
 unfold D.ff;rw[dK];exact jS.symm
theorem Ov{α:Type}{g:α→D}{w:World}:∀{l:List α} {fp:List Nat} {cs:List Value},Rs w (l.map fun x=>(g x).ff) fp cs→Rs w (l.map g) fp cs
 | [],_,_,h=>h
 | x::l,fp,cs,h=>by
   rw[B_,Rs]at h⊢;obtain⟨f1,f2,c1,c2,h1,h2,h3,h4⟩:=h;exact⟨f1,f2,c1,c2,h1,h2,UU.1 h3,Ov h4⟩
theorem SQ{α:Type}{g:α→D}{w:World}{l:List α}{fp:List Nat}{v:Value}(h:Sl w (l.map fun x=>(g x).ff) fp v):Sl w (l.map g) fp v:=by
 unfold Sl at h⊢;rw[R]at h⊢;obtain⟨A,c,h1,h2,h3,h4⟩:=h;refine⟨A,c,by rw[h1,l_,l_],by rw[l_]at h2⊢;exact h2,h3, ?_⟩;rcases h4 with⟨h4,h5⟩|⟨b,o,fp',cs',h4,h5,h6,h7,h8⟩
 ·exact y_ ⟨by rw[List.map_eq_nil_iff]at h4⊢;exact h4,h5⟩
 ·exact Or.inr ⟨b,o,fp',cs',h4,h5,h6,Ov h7,h8⟩
theorem aJ.Q9{α:Type}{g:α→D}{ds:List D}{l:List α}{b:Bool}(h:aJ P f ds (.c false [.sl b (l.map fun x=>(g x).ff)])):aJ P f ds (.c false [.sl b (l.map g)]):=fun w vs hr ht=>(h w vs hr ht).mono fun en w' ⟨v,h1,h2,h3⟩=>by
 have h8:Oks (kE w.heap.size) [] w' [.sl b (l.map fun x=>(g x).ff)] [v]:=h2;obtain⟨fp,g1,g2⟩:=h8.1;exact⟨v,h1,show Oks (kE w.heap.size) [] w' [.sl b (l.map g)] [v] from⟨⟨fp,SQ g1,g2⟩,trivial⟩,h3⟩
theorem dH.Q9{α:Type}{g:α→D}{ds:List D}{l:List α}{r:AV}{e s v:Nat}{nw:Nw}(hel:El s (l.map g))(h:dH P f ds r [⟨l.map fun x=>(g x).ff,e,s,v,nw⟩]):dH P f ds r [⟨l.map g,e,s,v,nw⟩]:=fun w vs hr ht=>(h w vs hr ht).mono fun en w' ⟨u,om,h1,⟨h2,h3,h4,h5,h6⟩,h7,h8⟩=>by
 have one:∀(k:Nat) (o:Own),([⟨l.map g,e,s,v,nw⟩]:List Own)[k]? =some o→k=0∧o=⟨l.map g,e,s,v,nw⟩:=fun k o hk=>by
  cases k with
  |zero=>simp at hk;exact⟨rfl,hk.symm⟩
  |succ k=>simp at hk
 have get0:([⟨l.map fun x=>(g x).ff,e,s,v,nw⟩]:List Own)[0]? =some ⟨l.map fun x=>(g x).ff,e,s,v,nw⟩:=rfl;refine⟨u,om,h1,⟨h2,fun k o p hk hp=> ?_,h4,⟨fun k o p hk hp hl=> ?_,fun i j o o' p p' hij hi hj _ _ _ _=> ?_⟩,fun k o p hk hp hl=> ?_⟩,h7.sim ?_,h8⟩
 ·obtain⟨rfl,rfl⟩:=one k o hk;obtain⟨cs,g1,g2,_,g4⟩:=h3 0 _ p get0 hp;exact⟨cs,by simpa using g1,Ov g2,hel,g4⟩
 ·obtain⟨rfl,rfl⟩:=one k o hk;exact h5.1 0 _ p get0 hp hl
 ·obtain⟨rfl,_⟩:=one i o hi;obtain⟨rfl,_⟩:=one j o' hj;exact absurd rfl hij
 ·obtain⟨rfl,rfl⟩:=one k o hk;exact h6 0 _ p get0 hp hl
 ·exact
   { base:=rfl,size:=k_ _,blk:=fun b _ _=>rfl,old:=fun b _ hm=>hm,box:=fun j p hp=>hp
     own:=fun j o p hj hp=>by
      cases j with
      | zero=>
        simp at hj;subst hj;exact⟨_,p,rfl,hp,k_ _,fun _=>⟨rfl,rfl⟩⟩
      |succ j=>simp at hj}
end
end
section
open Value renaming oneCell'→a_,ownBlock→K_
open Bool renaming false_eq_true→b_
open List renaming flatMap_cons→c_,flatMap_nil→d_,append_nil→g_,length_map→l_,take_append_getElem→m_,length_cons→n_,length_nil→o_,getElem_mem→p_,length_append→q_,length_take→r_,eq_nil_of_length_eq_zero→u_,take_length→v_,map_cons→B_,mem_map_of_mem→D_,getElem?_cons_zero→F_,cons_append→H_,map_nil→I_,nil_append→J_,set_cons_zero→L_,replicate→Q_,mem_map→S_,map_toArray→V_,nodup_nil→Y_
open Nat renaming reduceLeDiff→e_,reduceEqDiff→f_,reduceAdd→h_,reduceSub→i_,le_refl→k_,zero_le→w_,le_succ→G_,succ_pos→N_,lt_succ_self→O_,one_pos→P_,le_trans→R_,mul_le_mul→W_
open Below renaming refl→j_,alloc→s_,drew→t_,setCell→C_,heap_setCell→T_
open Builtin renaming append_→x_,nextslicecap→z_,firstCells→E_,lenOf→M_
open Or renaming inl→y_
open Region renaming wanted→A_
attribute [local irreducible] sw sd sn
theorem Ji(l:List ByteArray):nO (l.map ls):=fun w f cs h=>kF l w f cs h
theorem KP{os:List Own}{k:Nat}{o:Own}(h:os[k]? =some o)(hl:nO o.l):∀o',os[k]? =some o'→nO o'.l:=fun o' h'=>by rw[h]at h';injection h' with h';subst h';exact hl
def KU :IC:=(zd_ [zz_ 2 (.mov (.k (.slice none 0 0)))] (zd_ [zz_ 6 (.brow true 41 7 0 false []),zw_ 3 6] (.seq (zd_ [zw_ 7 0,zf_ 8 false 7,zk_ 9 0] (.block 0 (.loop (zd_ [zl_ 10 .lss 9 8] (.seq (.cond (.t 10) .skip (.exit 0)) (.seq (.block 1 (zd_ [ze_ 11 7 7 9,zr_ 12 7 11,zz_ 5 (.alloc [(.int .i64 0),(.int .i64 0),(.int .i64 0),(.string ⟨#[]⟩),(.slice none 0 0),(.slice none 0 0),(.slice none 0 0)]),⟨none,none,.store 7 (.t 5) (.t 12)⟩] (.reg false [zw_ 13 3,zr_ 14 7 5,zq_ 15 59 14,zz_ 16 (.brow false 41 7 1 false [(.t 15)]),zz_ 17 (.app 41 7 (.t 13) (.t 16)),zw_ 3 17]))) (.reg false [zm_ 18 .add 9 1,zw_ 9 18]))))))) (zd_ [zw_ 19 3,zw_ 2 19] .ret))))
theorem Jp :au Try.prog (Try.f86.body.getD .skip)=some KU:=by kernel_rfl
theorem Ns(l:List GVal)(hn:l.length≤1048576)(hrec:∀x∈l,dH Try.prog 59 [x.toD] (.c true [.raw (.int .i64 x.kind),.raw (.int .i64 x.n),.raw (.int .i64 x.step),.raw (.string x.text),.own 0 0,.own 1 0,.own 2 0]) [⟨x.list.map GVal.toD,41,7,0,⟨true,true⟩⟩,⟨x.cols.map ls,9,1,0,⟨true,true⟩⟩,⟨x.rows.map GRow.toD,111,2,0,⟨true,true⟩⟩]):dH Try.prog 86 [.sl (l.map GVal.toD)] (.c false [.own 0 0]) [⟨l.map GVal.toD,41,7,0,⟨true,true⟩⟩]:=by
 refine gu (fn:=Try.f86) (r:= .tmp 2) (hc:=Jp) (h:= ?_);unfold KU;refine zb_ ?_;change AWP _ _ _ (st0 20 _);refine sS trivial ?_
 repeat' (first|(refine rg_ ?_;intro K hK)|(refine hq_ ?_;clear hK K)|refine ca_ ?_ ?_|refine sz_ trivial ?_|refine nv ?_|(refine c2_ ?_ ?_<;>(intro hb hb';try(exfalso;omega)))|exact bq_|fail)
 refine vP 0 (KP rfl wV) rfl ?_;simp only[Jk,F_,L_];refine dN (X:=Nat×Nat) (fun q=> [.d,.d,.d,.v (.c false [.own 0 q.2]),.d,.d,.d,.k,.k,.v (.c false [.raw (.int .i64 (q.1:Nat))])]) (fun q=> [⟨(l.take q.1).map GVal.toD,41,7,q.2,⟨true,true⟩⟩]) (fun q bs=> []) (fun q=>q.1≤l.length) (fun q=>l.length - q.1) (0,0) (w_ _) ?_ ?_
 ·simp[dF,gJ,dG,dI,AV.fits,AC.fits,FB,dD]
 rintro⟨k,v⟩ hk;have hk':k≤l.length:=hk;clear hk;simp only[FB,dD];by_cases hlk:k<l.length
 ·have hc:=hrec l[k] (p_ hlk);have hs:=eU l hlk;have hg:=dJ GVal.toD l hlk
  repeat' (first|(refine rg_ ?_;intro K hK)|(refine hq_ ?_;clear hK K)|refine ca_ ?_ ?_|(refine cg_ ?_;first|(refine gW hc rfl (by simp) ?_ ?_))|refine sz_ (UZ hg @aW.eq_1) ?_|refine nv ?_|(refine c2_ ?_ ?_<;>(intro hb hb';try(exfalso;omega)))|exact bq_|fail)
  all_goals first
   |exact GVal.el _
   |(simp only[l_,q_,n_,o_,r_];omega)
   | (refine eX (k+1,v+1) ?_ (show k+1≤l.length by omega) (show l.length - (k+1)<l.length - k by omega)
      simp[dF,gJ,dG,dI,AV.fits,AC.fits,FB,dD,hs,GVal.aj,li,ls, -m_])
 ·obtain rfl:k=l.length:=by omega
  rw[v_]
  repeat' (first|(refine rg_ ?_;intro K hK)|(refine hq_ ?_;clear hK K)|refine ca_ ?_ ?_|refine sz_ trivial ?_|refine nv ?_|(refine c2_ ?_ ?_<;>(intro hb hb';try(exfalso;omega)))|exact bq_|fail)
  exact bH ⟨[0],by simp,⟨⟨_,rfl,rfl,y_ ⟨rfl,rfl⟩⟩,trivial⟩,⟨_,rfl,by simp[gB,jy]⟩⟩
def PX :IC:=(zd_ [zz_ 1 (.box (.t 0)),zz_ 2 (.alloc [(.int .i64 0),(.int .i64 0),(.int .i64 0),(.string ⟨#[]⟩),(.slice none 0 0),(.slice none 0 0),(.slice none 0 0)])] (zd_ [zr_ 6 7 1,zz_ 3 (.alloc [(.int .i64 0),(.int .i64 0),(.int .i64 0),(.string ⟨#[]⟩),(.slice none 0 0),(.slice none 0 0),(.slice none 0 0)]),⟨none,none,.store 7 (.t 3) (.t 6)⟩] (zd_ [zt_ 7 4 1,zs_ 8 1 7,zq_ 9 86 8,zt_ 10 4 3,⟨none,none,.store 1 (.t 10) (.t 9)⟩] (zd_ [zz_ 11 (.brow true 9 1 0 false []),zt_ 12 5 1,zs_ 13 1 12,zz_ 14 (.app 9 1 (.t 11) (.t 13)),zt_ 15 5 3,⟨none,none,.store 1 (.t 15) (.t 14)⟩] (zd_ [zt_ 16 6 3,⟨none,none,.store 1 (.t 16) (.k (.slice none 0 0))⟩] (.seq (zd_ [zt_ 17 6 1,zs_ 18 1 17,zf_ 19 false 18,zk_ 20 0] (.block 0 (.loop (zd_ [zl_ 21 .lss 20 19] (.seq (.cond (.t 21) .skip (.exit 0)) (.seq (.block 1 (zd_ [ze_ 22 2 18 20,zr_ 23 2 22,zz_ 5 (.alloc [(.slice none 0 0),(.slice none 0 0)]),⟨none,none,.store 2 (.t 5) (.t 23)⟩] (.regN true true [] [zt_ 24 6 3,zs_ 25 1 24,zr_ 26 2 5,zq_ 27 87 26,zz_ 28 (.brow false 111 2 1 false [(.t 27)]),zz_ 29 (.app 111 2 (.t 25) (.t 28)),zt_ 30 6 3,⟨none,none,.store 1 (.t 30) (.t 29)⟩]))) (.reg false [zm_ 31 .add 20 1,zw_ 20 31]))))))) (zd_ [zr_ 32 7 3,⟨none,none,.store 7 (.t 2) (.t 32)⟩] .ret)))))))
theorem MR :au Try.prog (Try.f59.body.getD .skip)=some PX:=by kernel_rfl
theorem QE(x:GVal)(hw:x.toD.wt≤1048576)(hlist:dH Try.prog 86 [.sl (x.list.map GVal.toD)] (.c false [.own 0 0]) [⟨x.list.map GVal.toD,41,7,0,⟨true,true⟩⟩]):dH Try.prog 59 [x.toD] (.c true [.raw (.int .i64 x.kind),.raw (.int .i64 x.n),.raw (.int .i64 x.step),.raw (.string x.text),.own 0 0,.own 1 0,.own 2 0]) [⟨x.list.map GVal.toD,41,7,0,⟨true,true⟩⟩,⟨x.cols.map ls,9,1,0,⟨true,true⟩⟩,⟨x.rows.map GRow.toD,111,2,0,⟨true,true⟩⟩]:=by
 have hlen:=qG x;refine gu (fn:=Try.f59) (r:= .cell 2 41) (hc:=MR) (h:= ?_);unfold PX;refine zb_ ?_;change AWP _ _ _ (st0 33 _);refine sS trivial ?_
 repeat' (first|(refine hq_ ?_;clear hK K)|refine ca_ ?_ ?_|(refine cg_ ?_;first|(refine gW hlist rfl (by simp) ?_ ?_))|refine sz_ @aW.eq_1 ?_|refine nv ?_|(refine rD ?_;intro K hK)|(refine c2_ ?_ ?_<;>(intro hb hb';try(exfalso;omega)))|exact bq_|fail)
 refine vP 1 (KP rfl (Ji _)) rfl ?_;refine QL 2 6 111 2 true rfl rfl ?_;simp only[St.Gp,Jk,F_,List.getElem?_cons_succ,L_,List.set_cons_succ,n_,o_,List.getD_cons_zero,List.getD_cons_succ,H_,J_,h_];refine dN (X:=Nat×Nat) (fun q=> [.d,.d,.k,.k,.d,.d,.d,.d,.d,.d,.d,.d,.d,.d,.d,.d,.d,.d,.k,.k,.v (.c false [.raw (.int .i64 (q.1:Nat))])]) (fun q=> [⟨x.list.map GVal.toD,41,7,0,⟨true,true⟩⟩,⟨x.cols.map ls,9,1,1,⟨true,true⟩⟩,⟨(x.rows.take q.1).map GRow.toD,111,2,q.2,⟨true,true⟩⟩]) (fun q bs=> [[.raw (.int .i64 x.kind),.raw (.int .i64 x.n),.raw (.int .i64 x.step),.raw (.string x.text),.sl false (x.list.map GVal.toD),.sl false (x.cols.map ls),.sl false (x.rows.map GRow.toD)],[.raw (.int .i64 0),.raw (.int .i64 0),.raw (.int .i64 0),.raw (.string ⟨#[]⟩),.raw (.slice none 0 0),.raw (.slice none 0 0),.raw (.slice none 0 0)],[.raw (.int .i64 x.kind),.raw (.int .i64 x.n),.raw (.int .i64 x.step),.raw (.string x.text),.own 0 0,.own 1 1,.own 2 q.2]]) (fun q=>q.1≤x.rows.length) (fun q=>x.rows.length - q.1) (0,0) (w_ _) ?_ ?_
 ·simp[dF,gJ,dG,dI,AV.fits,AC.fits,FB,dD]
 rintro⟨k,v⟩ hk;have hk':k≤x.rows.length:=hk;clear hk;simp only[FB,dD];by_cases hlk:k<x.rows.length
 ·have hrw:=sZ x (p_ hlk);have hc:=Nv x.rows[k] (by omega) (by omega);have hs:=eU x.rows hlk;have hg:=dJ GRow.toD x.rows hlk
  repeat' (first|(refine rg_ ?_;intro K hK)|((first|(refine xI 100 (by simp[qE,St.ev]) ?_)|(with_reducible refine o7 100 true AU ?_)|(refine o7 100 true (by simp[qE,St.ev]) ?_));intro K hK)|refine nN ?_|(refine hq_ ?_;clear hK K)|refine ca_ ?_ ?_|(refine cg_ ?_;first|(refine QJ (h:=hc.xe) (hK:= ?_);rintro _ _ ⟨rfl,rfl⟩))|((with_reducible refine IY ?_);first|(refine Uj (h:=hc.xe) (hne:=⟨_,_,⟨rfl,rfl⟩,rfl⟩) (hr:= ?_);rintro _ _ ⟨rfl,rfl⟩))|refine sz_ (UZ hg @aW.eq_1) ?_|refine nv ?_|(refine c2_ ?_ ?_<;>(intro hb hb';try(exfalso;omega)))|exact bq_|fail)
  all_goals first
   |exact GRow.el _
   |(simp only[l_,q_,n_,o_,r_];omega)
   | (refine eX (k+1,v+1) ?_ (show k+1≤x.rows.length by omega) (show x.rows.length - (k+1)<x.rows.length - k by omega)
      simp[dF,gJ,dG,dI,AV.fits,AC.fits,FB,dD,hs,GRow.aj,li,ls, -m_])
 ·obtain rfl:k=x.rows.length:=by omega
  rw[v_]
  repeat' (first|(refine hq_ ?_;clear hK K)|refine ca_ ?_ ?_|(refine cg_ ?_;first|(refine gW hlist rfl (by simp) ?_ ?_))|refine sz_ @aW.eq_1 ?_|refine nv ?_|(refine rD ?_;intro K hK)|(refine c2_ ?_ ?_<;>(intro hb hb';try(exfalso;omega)))|exact bq_|fail)
  exact bH ⟨[0,1,2],by simp,⟨⟨_,rfl,rfl,y_ ⟨rfl,rfl⟩⟩,⟨_,rfl,rfl,y_ ⟨rfl,rfl⟩⟩,⟨_,rfl,rfl,y_ ⟨rfl,rfl⟩⟩,trivial⟩,⟨1,_,rfl,rfl,by simp[gB,jy]⟩⟩
theorem LC :∀(n:Nat) (x:GVal),x.toD.wt<n→x.toD.wt≤1048576→dH Try.prog 59 [x.toD] (.c true [.raw (.int .i64 x.kind),.raw (.int .i64 x.n),.raw (.int .i64 x.step),.raw (.string x.text),.own 0 0,.own 1 0,.own 2 0]) [⟨x.list.map GVal.toD,41,7,0,⟨true,true⟩⟩,⟨x.cols.map ls,9,1,0,⟨true,true⟩⟩,⟨x.rows.map GRow.toD,111,2,0,⟨true,true⟩⟩]
 |0,x,h,_=>by omega
 |n+1,x,h,hw=>QE x hw (Ns x.list (by have:=qG x;omega) fun y hy=>LC n y (by have:=rM x hy;omega) (by have:=rM x hy;omega))
theorem Ic(x:GVal)(hw:x.toD.wt≤1048576):dH Try.prog 59 [x.toD] (.c true [.raw (.int .i64 x.kind),.raw (.int .i64 x.n),.raw (.int .i64 x.step),.raw (.string x.text),.own 0 0,.own 1 0,.own 2 0]) [⟨x.list.map GVal.toD,41,7,0,⟨true,true⟩⟩,⟨x.cols.map ls,9,1,0,⟨true,true⟩⟩,⟨x.rows.map GRow.toD,111,2,0,⟨true,true⟩⟩]:=LC _ x (O_ _) hw
theorem nU{l:List GRead}{x:GRead}(h:x∈l)(hw:D.wts (l.map GRead.toD)≤1048576):x.result.toD.wt≤1048576:=by
 have h1:=D.jW (D_ (f:=GRead.toD) h);have h2:=GRead.gZ x;omega
theorem nS{l:List GTape}{x:GTape}(h:x∈l)(hw:D.wts (l.map GTape.toD)≤1048576):x.reads.length+D.wts (x.reads.map GRead.toD)≤1048576:=by
 have h1:=D.jW (D_ (f:=GTape.toD) h);have h2:=GTape.gZ x;rw[l_]at h2;omega
def rdF(x:GRead):D:=x.toD.ff
theorem pF(x:GRead):rdF x= .agg [.leaf (.int .i64 x.kind),.leaf (.int .i64 x.n),.leaf (.int .i64 x.time),.leaf (.string x.text),.leaf (.int .i64 x.result.kind),.leaf (.int .i64 x.result.n),.leaf (.int .i64 x.result.step),.leaf (.string x.result.text),.sl (x.result.list.map GVal.toD),.sl (x.result.cols.map ls),.sl (x.result.rows.map GRow.toD)]:=by
 unfold rdF D.ff;rw[GRead.aI]
theorem aC(l:List GRead):El 11 (l.map rdF):=fun d hd=>by
 obtain⟨x,_,rfl⟩:=S_.1 hd;rw[pF];exact⟨by simp[D.one,D.ones,a_],by simp[D.sz,D.szs]⟩
def KW :IC:=(zd_ [zz_ 2 (.mov (.k (.slice none 0 0)))] (zd_ [zz_ 6 (.brow true 70 11 0 false []),zw_ 3 6] (.seq (zd_ [zw_ 7 0,zf_ 8 false 7,zk_ 9 0] (.block 0 (.loop (zd_ [zl_ 10 .lss 9 8] (.seq (.cond (.t 10) .skip (.exit 0)) (.seq (.block 1 (zd_ [ze_ 11 11 7 9,zr_ 12 11 11,zz_ 5 (.alloc [(.int .i64 0),(.int .i64 0),(.int .i64 0),(.string ⟨#[]⟩),(.int .i64 0),(.int .i64 0),(.int .i64 0),(.string ⟨#[]⟩),(.slice none 0 0),(.slice none 0 0),(.slice none 0 0)]),⟨none,none,.store 11 (.t 5) (.t 12)⟩] (zd_ [zt_ 13 4 5,zr_ 14 7 13,zq_ 15 59 14,zt_ 16 4 5,⟨none,none,.store 7 (.t 16) (.t 15)⟩] (.reg false [zw_ 17 3,zr_ 18 11 5,zz_ 19 (.brow false 70 11 1 false [(.t 18)]),zz_ 20 (.app 70 11 (.t 17) (.t 19)),zw_ 3 20])))) (.reg false [zm_ 21 .add 9 1,zw_ 9 21]))))))) (zd_ [zw_ 22 3,zw_ 2 22] .ret))))
theorem Jq :au Try.prog (Try.f41.body.getD .skip)=some KW:=by kernel_rfl
theorem oC(l:List GRead)(hn:l.length≤1048576)(hw:D.wts (l.map GRead.toD)≤1048576):dH Try.prog 41 [.sl (l.map GRead.toD)] (.c false [.own 0 0]) [⟨l.map GRead.toD,70,11,0,⟨true,true⟩⟩]:=by
 refine dH.Q9 (GRead.el l) (show dH _ _ _ _ [⟨l.map rdF,_,_,_,_⟩] from ?_);refine gu (fn:=Try.f41) (r:= .tmp 2) (hc:=Jq) (h:= ?_);unfold KW;refine zb_ ?_;change AWP _ _ _ (st0 23 _);refine sS trivial ?_
 repeat' (first|(refine rg_ ?_;intro K hK)|(refine hq_ ?_;clear hK K)|refine ca_ ?_ ?_|refine sz_ trivial ?_|refine nv ?_|(refine c2_ ?_ ?_<;>(intro hb hb';try(exfalso;omega)))|(exact GTape.el _)|exact bq_|fail)
 refine vP 0 (KP rfl wV) rfl ?_;simp only[Jk,F_,L_];refine dN (X:=Nat×Nat) (fun q=> [.d,.d,.d,.v (.c false [.own 0 q.2]),.d,.d,.d,.k,.k,.v (.c false [.raw (.int .i64 (q.1:Nat))])]) (fun q=> [⟨(l.take q.1).map rdF,70,11,q.2,⟨true,true⟩⟩]) (fun q bs=> []) (fun q=>q.1≤l.length) (fun q=>l.length - q.1) (0,0) (w_ _) ?_ ?_
 ·simp[dF,gJ,dG,dI,AV.fits,AC.fits,FB,dD]
 rintro⟨k,v⟩ hk;have hk':k≤l.length:=hk;clear hk;simp only[FB,dD];by_cases hlk:k<l.length
 ·have hc:=Ic l[k].result (nU (p_ hlk) hw);have hs:=eU l hlk;have hg:=dJ GRead.toD l hlk
  repeat' (first|(refine rg_ ?_;intro K hK)|(refine hq_ ?_;clear hK K)|refine ca_ ?_ ?_|(refine cg_ ?_;first|(refine gW hc rfl (by simp) ?_ ?_))|refine sz_ (UZ hg @aW.eq_1) ?_|refine nv ?_|(refine c2_ ?_ ?_<;>(intro hb hb';try(exfalso;omega)))|(exact GTape.el _)|exact bq_|fail)
  all_goals first
   |exact aC _
   |exact GRead.el _
   |(simp only[l_,q_,n_,o_,r_];omega)
   | (refine eX (k+1,v+1) ?_ (show k+1≤l.length by omega) (show l.length - (k+1)<l.length - k by omega)
      simp[dF,gJ,dG,dI,AV.fits,AC.fits,FB,dD,hs,pF, -m_])
 ·obtain rfl:k=l.length:=by omega
  rw[v_]
  repeat' (first|(refine rg_ ?_;intro K hK)|(refine hq_ ?_;clear hK K)|refine ca_ ?_ ?_|refine sz_ trivial ?_|refine nv ?_|(refine c2_ ?_ ?_<;>(intro hb hb';try(exfalso;omega)))|(exact GTape.el _)|exact bq_|fail)
  exact bH ⟨[0],by simp,⟨⟨_,rfl,rfl,y_ ⟨rfl,rfl⟩⟩,trivial⟩,⟨_,rfl,by simp[gB,jy]⟩⟩
def Au :IC:=(zd_ [zz_ 1 (.box (.t 0)),zz_ 2 (.alloc [(.int .i64 0),(.int .i64 0),(.int .i64 0),(.string ⟨#[]⟩),(.int .i64 0),(.int .i64 0),(.int .i64 0),(.string ⟨#[]⟩),(.slice none 0 0),(.slice none 0 0),(.slice none 0 0)])] (zd_ [zt_ 3 4 1,zr_ 4 7 3,zq_ 5 54 4,zt_ 6 4 1,⟨none,none,.store 7 (.t 6) (.t 5)⟩] (zd_ [zr_ 7 11 1,⟨none,none,.store 11 (.t 2) (.t 7)⟩] .ret)))
theorem BZ :au Try.prog (Try.f72.body.getD .skip)=some Au:=by kernel_rfl
theorem tK(x:GRead)(hw:x.result.toD.wt≤1048576):aJ Try.prog 72 [x.toD] (.c true (x.toD.acs true)):=by
 have hc:=ou x.result hw;rw[GVal.aK]at hc;rw[GRead.aK];refine uf (fn:=Try.f72) (t:=2) (ty:=70) (hc:=BZ) (h:= ?_);unfold Au;refine zb_ ?_;change AWP _ _ _ (st0 8 _);refine sS trivial ?_
 repeat' (first|(refine rg_ ?_;intro K hK)|(refine hq_ ?_;clear hK K)|refine ca_ ?_ ?_|(refine cg_ ?_;first|refine cT_ hc ?_)|refine sz_ trivial ?_|refine nv ?_|(refine c2_ ?_ ?_<;>(intro hb hb';try(exfalso;omega)))|(exact GTape.el _)|exact bq_|fail)
 exact bH ⟨1,_,rfl,rfl,by simp[eP,jk]⟩
def yA :IC:=(zd_ [zz_ 2 (.mov (.k (.slice none 0 0)))] (zd_ [zz_ 5 (.brow true 70 11 0 false []),zw_ 3 5] (.seq (zd_ [zk_ 4 0] (.block 0 (.loop (.seq (zd_ [zw_ 6 4,zw_ 7 0,zf_ 8 false 7,zl_ 9 .lss 6 8] (.cond (.t 9) .skip (.exit 0))) (.seq (.block 1 (.reg false [zw_ 12 3,zw_ 13 0,zw_ 14 4,ze_ 15 11 13 14,zr_ 16 11 15,zq_ 17 72 16,zz_ 18 (.brow false 70 11 1 false [(.t 17)]),zz_ 19 (.app 70 11 (.t 12) (.t 18)),zw_ 3 19])) (.reg false [zw_ 10 4,zm_ 11 .add 10 1,zw_ 4 11])))))) (zd_ [zw_ 20 3,zw_ 2 20] .ret))))
theorem Ar :au Try.prog (Try.f38.body.getD .skip)=some yA:=by kernel_rfl
theorem yx(l:List GRead)(hn:l.length≤1048576)(hw:D.wts (l.map GRead.toD)≤1048576):aJ Try.prog 38 [.sl (l.map GRead.toD)] (.c false [.sl true (l.map GRead.toD)]):=by
 refine aJ.Q9 (g:=GRead.toD) (show aJ _ _ _ (.c false [.sl true (l.map rdF)]) from ?_);refine gQ (fn:=Try.f38) (t:=2) (hc:=Ar) (h:= ?_);unfold yA;refine zb_ ?_;change AWP _ _ _ (st0 21 _);refine sS trivial ?_
 repeat' (first|(refine rg_ ?_;intro K hK)|(refine hq_ ?_;clear hK K)|refine ca_ ?_ ?_|refine sz_ trivial ?_|refine nv ?_|(refine c2_ ?_ ?_<;>(intro hb hb';try(exfalso;omega)))|(exact GTape.el _)|exact bq_|fail)
 refine dN (X:=Nat×Nat) (fun q=> [.k,.d,.d,.v (.c false [.own 0 q.2]),.v (.c false [.raw (.int .i64 (q.1:Nat))])]) (fun q=> [⟨(l.take q.1).map rdF,70,11,q.2,true⟩]) (fun q bs=> []) (fun q=>q.1≤l.length) (fun q=>l.length - q.1) (0,0) (w_ _) ?_ ?_
 ·simp[dF,gJ,dG,dI,AV.fits,AC.fits,FB,dD]
 rintro⟨k,v⟩ hk;have hk':k≤l.length:=hk;clear hk;simp only[FB,dD];by_cases hlk:k<l.length
 ·have hc:=tK l[k] (nU (p_ hlk) hw);rw[GRead.aK]at hc;have hs:=eU l hlk;have hg:=dJ GRead.toD l hlk
  repeat' (first|(refine rg_ ?_;intro K hK)|(refine hq_ ?_;clear hK K)|refine ca_ ?_ ?_|(refine cg_ ?_;first|refine cT_ hc ?_)|refine sz_ hg ?_|refine nv ?_|(refine c2_ ?_ ?_<;>(intro hb hb';try(exfalso;omega)))|(exact GTape.el _)|exact bq_|fail)
  all_goals first
   |exact aC _
   |exact GRead.el _
   |(simp only[l_,q_,n_,o_,r_];omega)
   | (refine eX (k+1,v+1) ?_ (show k+1≤l.length by omega) (show l.length - (k+1)<l.length - k by omega)
      simp[dF,gJ,dG,dI,AV.fits,AC.fits,FB,dD,hs,pF, -m_])
 ·obtain rfl:k=l.length:=by omega
  rw[v_]
  repeat' (first|(refine rg_ ?_;intro K hK)|(refine hq_ ?_;clear hK K)|refine ca_ ?_ ?_|refine sz_ trivial ?_|refine nv ?_|(refine c2_ ?_ ?_<;>(intro hb hb';try(exfalso;omega)))|(exact GTape.el _)|exact bq_|fail)
  exact bH ⟨_,rfl,⟨_,rfl,rfl,rfl,y_ rfl⟩,trivial⟩
def tpP(c v:Int)(t:GTape):Bool:=t.cell==c && t.ver==v
def jR(p:GTape→Bool):List GTape→Nat→Int
 | [],_=> -1
 |t::l,k=>if p t then(k:Int)else jR p l (k+1)
theorem JR{p:GTape→Bool}{l:List GTape}{k:Nat}(h:k<l.length):jR p (l.drop k) k=if p l[k]then(k:Int)else jR p (l.drop (k+1)) (k+1):=by
 rw[List.drop_eq_getElem_cons h,jR]
theorem FD{p:GTape→Bool}{l:List GTape}{k:Nat}(h:¬k<l.length):jR p (l.drop k) k= -1:=by
 rw[List.drop_eq_nil_of_le (by omega),jR]
theorem mY{p:GTape→Bool}:∀(l:List GTape) (k:Nat),(jR p l k= -1∧l.find? p=none)∨∃(i:Nat) (h:i<l.length),jR p l k=((k+i:Nat):Int)∧l.find? p=some l[i]
 | [],k=>y_ ⟨rfl,rfl⟩
 | t ::l,k=>by
   rw[jR,List.find?_cons];cases hp:p t with
   |true=>exact Or.inr ⟨0,by simp,by simp,by simp⟩
   | false=>
     rcases mY (p:=p) l (k+1)with⟨h1,h2⟩|⟨i,h,h1,h2⟩
     ·exact y_ ⟨by simpa using h1,h2⟩
     ·exact Or.inr ⟨i+1,by simpa using h,by simp[h1];omega,by simp[h2]⟩
def lQ(l:List GTape)(c v:Int):List GRead:=match l.find? (tpP c v)with|some t=>t.reads|none=> []
def uQ :IC:=(zd_ [zk_ 6 0] (.seq (zd_ [zk_ 7 0] (.block 0 (.loop (.seq (zd_ [zw_ 8 7,zw_ 9 0,zf_ 10 false 9,zl_ 11 .lss 8 10] (.cond (.t 11) .skip (.exit 0))) (.seq (.block 1 (zd_ [zw_ 14 0,zw_ 15 7,ze_ 16 3 14 15,zt_ 17 0 16,zs_ 18 1 17,zw_ 19 1,zl_ 20 .eql 18 19,zw_ 21 20,zv_ 22 21 0,zv_ 23 21 7,zy_ 24 21 (.iad 3 (.t 22) (.t 23)),zy_ 25 21 (.fad 1 (.t 24)),zy_ 26 21 (.load 1 false (.t 25)),zv_ 27 21 2,zy_ 28 21 (.bin .eql (.t 26) (.t 27)),zh_ 29 21 28 false] (.cond (.t 29) (zd_ [zw_ 30 7,zw_ 6 30] .ret) .skip))) (.reg false [zw_ 12 7,zm_ 13 .add 12 1,zw_ 7 13])))))) (zd_ [zk_ 6 (-1)] .ret)))
theorem yP :au Try.prog (Try.f37.body.getD .skip)=some uQ:=by kernel_rfl
theorem mV(l:List GTape)(c v:Int)(hn:l.length≤1048576):aJ Try.prog 37 [.sl (l.map GTape.toD),li c,li v] (.c false [.raw (.int .i64 (jR (tpP c v) l 0))]):=by
 refine gQ (fn:=Try.f37) (t:=6) (hc:=yP) (h:= ?_);unfold uQ;refine zb_ ?_;change AWP _ _ _ (st0 31 _);refine sS trivial ?_
 repeat' (first|(refine rg_ ?_;intro K hK)|(refine hq_ ?_;clear hK K)|refine ca_ ?_ ?_|refine gq_ ?_|(refine c2_ ?_ ?_<;>(intro hb hb';try(exfalso;omega)))|refine sz_ trivial ?_|refine nv ?_|(exact GTape.el _)|exact bq_|fail)
 refine dN (X:=Nat) (fun q=> [.k,.k,.k,.d,.d,.d,.d,.v (.c false [.raw (.int .i64 (q:Nat))])]) (fun q=> []) (fun q bs=> []) (fun q=>q≤l.length∧jR (tpP c v) (l.drop q) q=jR (tpP c v) l 0) (fun q=>l.length - q) 0 ⟨w_ _,rfl⟩ ?_ ?_
 ·simp[dF,gJ,dG,dI,AV.fits,AC.fits,FB,dD]
 rintro k ⟨hk,hf⟩;simp only[FB,dD];by_cases hlk:k<l.length
 ·have hat:=JR (p:=tpP c v) hlk;have hg:=dJ GTape.toD l hlk;cases he:(l[k].cell==c)with
  | false=>
    rw[show tpP c v l[k]=false by unfold tpP;rw[he];rfl]at hat
    repeat' (first|(refine rg_ ?_;intro K hK)|(refine hq_ ?_;clear hK K)|refine ca_ ?_ ?_|refine gq_ ?_|(refine c2_ ?_ ?_<;>(intro hb hb';try(exfalso;omega)))|refine sz_ (UZ hg he) ?_|refine nv ?_|(exact GTape.el _)|exact bq_|fail)
    refine eX (k+1) ?_ ⟨by omega,by rw[← hf,hat];rfl⟩ (show l.length - (k+1)<l.length - k by omega);simp[dF,gJ,dG,dI,AV.fits,AC.fits,FB,dD]
  | true=>
    cases hv:(l[k].ver==v)with
    | false=>
      rw[show tpP c v l[k]=false by unfold tpP;rw[he,hv];rfl]at hat
      repeat' (first|(refine rg_ ?_;intro K hK)|(refine hq_ ?_;clear hK K)|refine ca_ ?_ ?_|refine gq_ ?_|(refine c2_ ?_ ?_<;>(intro hb hb';try(exfalso;omega)))|refine sz_ (a3_ hg he hv) ?_|refine nv ?_|(exact GTape.el _)|exact bq_|fail)
      refine eX (k+1) ?_ ⟨by omega,by rw[← hf,hat];rfl⟩ (show l.length - (k+1)<l.length - k by omega);simp[dF,gJ,dG,dI,AV.fits,AC.fits,FB,dD]
    | true=>
      rw[show tpP c v l[k]=true by unfold tpP;rw[he,hv];rfl]at hat;have hr:jR (tpP c v) l 0=(k:Int):=by rw[← hf,hat];rfl
      repeat' (first|(refine rg_ ?_;intro K hK)|(refine hq_ ?_;clear hK K)|refine ca_ ?_ ?_|refine gq_ ?_|(refine c2_ ?_ ?_<;>(intro hb hb';try(exfalso;omega)))|refine sz_ (a3_ hg he hv) ?_|refine nv ?_|(exact GTape.el _)|exact bq_|fail)
      exact bH ⟨_,rfl,by rw[hr];rfl,trivial⟩
 ·have hr:jR (tpP c v) l 0= -1:=by rw[← hf];exact FD hlk
  have hkl:k=l.length:=by omega
  subst hkl
  repeat' (first|(refine rg_ ?_;intro K hK)|(refine hq_ ?_;clear hK K)|refine ca_ ?_ ?_|refine gq_ ?_|(refine c2_ ?_ ?_<;>(intro hb hb';try(exfalso;omega)))|refine sz_ trivial ?_|refine nv ?_|(exact GTape.el _)|exact bq_|fail)
  exact bH ⟨_,rfl,by rw[hr];rfl,trivial⟩
def uS :IC:=(zd_ [zk_ 6 0] (.seq (zd_ [zw_ 9 0,zf_ 10 false 9,zk_ 11 0] (.block 0 (.loop (zd_ [zl_ 12 .lss 11 10] (.seq (.cond (.t 12) .skip (.exit 0)) (.seq (.block 1 (zd_ [zw_ 13 11,ze_ 14 3 9 11,zr_ 15 3 14,zz_ 8 (.alloc [(.int .i64 0),(.int .i64 0),(.slice none 0 0)]),zw_ 7 13,⟨none,none,.store 3 (.t 8) (.t 15)⟩] (zd_ [zt_ 16 0 8,zs_ 17 1 16,zw_ 18 1,zl_ 19 .eql 17 18,zw_ 20 19,zy_ 21 20 (.fad 1 (.t 8)),zy_ 22 20 (.load 1 false (.t 21)),zv_ 23 20 2,zy_ 24 20 (.bin .eql (.t 22) (.t 23)),zh_ 25 20 24 false] (.cond (.t 25) (zd_ [zw_ 26 7,zw_ 6 26] .ret) .skip)))) (.reg false [zm_ 27 .add 11 1,zw_ 11 27]))))))) (zd_ [zk_ 6 (-1)] .ret)))
theorem yQ :au Try.prog (Try.f40.body.getD .skip)=some uS:=by kernel_rfl
theorem kR(l:List GTape)(c v:Int)(hn:l.length≤1048576):aJ Try.prog 40 [.sl (l.map GTape.toD),li c,li v] (.c false [.raw (.int .i64 (jR (tpP c v) l 0))]):=by
 refine gQ (fn:=Try.f40) (t:=6) (hc:=yQ) (h:= ?_);unfold uS;refine zb_ ?_;change AWP _ _ _ (st0 28 _);refine sS trivial ?_
 repeat' (first|(refine rg_ ?_;intro K hK)|(refine hq_ ?_;clear hK K)|refine ca_ ?_ ?_|refine gq_ ?_|(refine c2_ ?_ ?_<;>(intro hb hb';try(exfalso;omega)))|refine sz_ trivial ?_|refine nv ?_|(exact GTape.el _)|exact bq_|fail)
 refine dN (X:=Nat) (fun q=> [.d,.k,.k,.d,.d,.d,.d,.d,.d,.k,.k,.v (.c false [.raw (.int .i64 (q:Nat))])]) (fun q=> []) (fun q bs=> []) (fun q=>q≤l.length∧jR (tpP c v) (l.drop q) q=jR (tpP c v) l 0) (fun q=>l.length - q) 0 ⟨w_ _,rfl⟩ ?_ ?_
 ·simp[dF,gJ,dG,dI,AV.fits,AC.fits,FB,dD]
 rintro k ⟨hk,hf⟩;simp only[FB,dD];by_cases hlk:k<l.length
 ·have hat:=JR (p:=tpP c v) hlk;have hg:=dJ GTape.toD l hlk;cases he:(l[k].cell==c)with
  | false=>
    rw[show tpP c v l[k]=false by unfold tpP;rw[he];rfl]at hat
    repeat' (first|(refine rg_ ?_;intro K hK)|(refine hq_ ?_;clear hK K)|refine ca_ ?_ ?_|refine gq_ ?_|(refine c2_ ?_ ?_<;>(intro hb hb';try(exfalso;omega)))|refine sz_ (UZ hg he) ?_|refine nv ?_|(exact GTape.el _)|exact bq_|fail)
    refine eX (k+1) ?_ ⟨by omega,by rw[← hf,hat];rfl⟩ (show l.length - (k+1)<l.length - k by omega);simp[dF,gJ,dG,dI,AV.fits,AC.fits,FB,dD]
  | true=>
    cases hv:(l[k].ver==v)with
    | false=>
      rw[show tpP c v l[k]=false by unfold tpP;rw[he,hv];rfl]at hat
      repeat' (first|(refine rg_ ?_;intro K hK)|(refine hq_ ?_;clear hK K)|refine ca_ ?_ ?_|refine gq_ ?_|(refine c2_ ?_ ?_<;>(intro hb hb';try(exfalso;omega)))|refine sz_ (a3_ hg he hv) ?_|refine nv ?_|(exact GTape.el _)|exact bq_|fail)
      refine eX (k+1) ?_ ⟨by omega,by rw[← hf,hat];rfl⟩ (show l.length - (k+1)<l.length - k by omega);simp[dF,gJ,dG,dI,AV.fits,AC.fits,FB,dD]
    | true=>
      rw[show tpP c v l[k]=true by unfold tpP;rw[he,hv];rfl]at hat;have hr:jR (tpP c v) l 0=(k:Int):=by rw[← hf,hat];rfl
      repeat' (first|(refine rg_ ?_;intro K hK)|(refine hq_ ?_;clear hK K)|refine ca_ ?_ ?_|refine gq_ ?_|(refine c2_ ?_ ?_<;>(intro hb hb';try(exfalso;omega)))|refine sz_ (a3_ hg he hv) ?_|refine nv ?_|(exact GTape.el _)|exact bq_|fail)
      exact bH ⟨_,rfl,by rw[hr];rfl,trivial⟩
 ·have hr:jR (tpP c v) l 0= -1:=by rw[← hf];exact FD hlk
  have hkl:k=l.length:=by omega
  subst hkl
  repeat' (first|(refine rg_ ?_;intro K hK)|(refine hq_ ?_;clear hK K)|refine ca_ ?_ ?_|refine gq_ ?_|(refine c2_ ?_ ?_<;>(intro hb hb';try(exfalso;omega)))|refine sz_ trivial ?_|refine nv ?_|(exact GTape.el _)|exact bq_|fail)
  exact bH ⟨_,rfl,by rw[hr];rfl,trivial⟩
def qO :IC:=(zd_ [zz_ 6 (.mov (.k (.slice none 0 0)))] (zd_ [zw_ 8 0,zw_ 9 1,zw_ 10 2,zo_ 11 37 8 9 10,zw_ 7 11] (.seq (zd_ [zw_ 12 7,zm_ 13 .lss 12 0] (.cond (.t 13) (zd_ [zz_ 14 (.brow true 70 11 0 false []),zw_ 6 14] .ret) .skip)) (zd_ [zw_ 15 0,zw_ 16 7,ze_ 17 3 15 16,zt_ 18 2 17,zs_ 19 1 18,zq_ 20 38 19,zw_ 6 20] .ret))))
theorem uP :au Try.prog (Try.f8.body.getD .skip)=some qO:=by kernel_rfl
theorem zM(l:List GTape)(c v:Int)(hn:l.length≤1048576)(hw:D.wts (l.map GTape.toD)≤1048576):aJ Try.prog 8 [.sl (l.map GTape.toD),li c,li v] (.c false [.sl true ((lQ l c v).map GRead.toD)]):=by
 have hi:=mV l c v hn;refine gQ (fn:=Try.f8) (t:=6) (hc:=uP) (h:= ?_);unfold qO;refine zb_ ?_;change AWP _ _ _ (st0 21 _);refine sS trivial ?_;rcases mY (p:=tpP c v) l 0 with⟨h1,h2⟩|⟨i,h,h1,h2⟩
 ·rw[show lQ l c v= [] by unfold lQ;rw[h2]];rw[h1]at hi;have hz:decide ((-1:Int)<0)=true:=rfl
  repeat' (first|(refine rg_ ?_;intro K hK)|(refine hq_ ?_;clear hK K)|refine ca_ ?_ ?_|(refine cg_ ?_;first|refine cT_ hi ?_)|refine sz_ hz ?_|refine nv ?_|(refine c2_ ?_ ?_<;>(intro hb hb';try(exfalso;omega)))|(exact GTape.el _)|exact bq_|fail)
  exact bH ⟨_,rfl,⟨_,rfl,rfl,rfl,y_ rfl⟩,trivial⟩
 ·rw[show lQ l c v=l[i].reads by unfold lQ;rw[h2]];rw[h1,Nat.zero_add]at hi;have hz:decide ((i:Int)<0)=false:=by simp
  have htw:=nS (p_ h) hw;have hc:=yx l[i].reads (by omega) (by omega);have hg:=dJ GTape.toD l h
  repeat' (first|(refine rg_ ?_;intro K hK)|(refine hq_ ?_;clear hK K)|refine ca_ ?_ ?_|(refine cg_ ?_;first|refine cT_ hi ?_|refine cT_ hc ?_)|refine sz_ (a3_ hz hg @aW.eq_1) ?_|refine nv ?_|(refine c2_ ?_ ?_<;>(intro hb hb';try(exfalso;omega)))|(exact GTape.el _)|exact bq_|fail)
  all_goals first
   |(simp only[l_];omega)
   |exact bH ⟨_,rfl,by simp[eP,jk]⟩
def nH :IC:=(zd_ [zz_ 6 (.mov (.k (.slice none 0 0)))] (zd_ [zw_ 8 0,zw_ 9 1,zw_ 10 2,zo_ 11 40 8 9 10,zw_ 7 11] (.seq (zd_ [zw_ 12 7,zm_ 13 .lss 12 0] (.cond (.t 13) (zd_ [zz_ 6 (.mov (.k (.slice none 0 0)))] .ret) .skip)) (zd_ [zw_ 14 0,zw_ 15 7,ze_ 16 3 14 15,zt_ 17 2 16,zs_ 18 1 17,zq_ 19 41 18,zw_ 6 19] .ret))))
theorem nZ :au Try.prog (Try.f10.body.getD .skip)=some nH:=by kernel_rfl
theorem yN(l:List GTape)(c v:Int)(hn:l.length≤1048576)(hw:D.wts (l.map GTape.toD)≤1048576)(h1:jR (tpP c v) l 0= -1):aJ Try.prog 10 [.sl (l.map GTape.toD),li c,li v] (.c false [.raw (.slice none 0 0)]):=by
 have hi:=kR l c v hn;rw[h1]at hi;refine gQ (fn:=Try.f10) (t:=6) (hc:=nZ) (h:= ?_);unfold nH;refine zb_ ?_;change AWP _ _ _ (st0 20 _);refine sS trivial ?_;have hz:decide ((-1:Int)<0)=true:=rfl
 repeat' (first|(refine rg_ ?_;intro K hK)|(refine hq_ ?_;clear hK K)|refine ca_ ?_ ?_|(refine cg_ ?_;first|refine cT_ hi ?_)|refine sz_ hz ?_|refine nv ?_|(refine c2_ ?_ ?_<;>(intro hb hb';try(exfalso;omega)))|(exact GTape.el _)|exact bq_|fail)
 exact bH ⟨_,rfl,rfl,trivial⟩
theorem BP(l:List GTape)(c v:Int)(hn:l.length≤1048576)(hw:D.wts (l.map GTape.toD)≤1048576){i:Nat}(h:i<l.length)(h1:jR (tpP c v) l 0=(i:Int)):dH Try.prog 10 [.sl (l.map GTape.toD),li c,li v] (.c false [.own 0 0]) [⟨l[i].reads.map GRead.toD,70,11,0,⟨true,true⟩⟩]:=by
 have hi:=kR l c v hn;rw[h1]at hi;refine gu (fn:=Try.f10) (r:= .tmp 6) (hc:=nZ) (h:= ?_);unfold nH;refine zb_ ?_;change AWP _ _ _ (st0 20 _);refine sS trivial ?_;have hz:decide ((i:Int)<0)=false:=by simp
 have htw:=nS (p_ h) hw;have hc:=oC l[i].reads (by omega) (by omega);have hg:=dJ GTape.toD l h
 repeat' (first|(refine rg_ ?_;intro K hK)|(refine hq_ ?_;clear hK K)|refine ca_ ?_ ?_|(refine cg_ ?_;first|refine cT_ hi ?_|(refine gW hc rfl (by simp) ?_ ?_))|refine sz_ (a3_ hz hg @aW.eq_1) ?_|refine nv ?_|(refine c2_ ?_ ?_<;>(intro hb hb';try(exfalso;omega)))|(exact GTape.el _)|exact bq_|fail)
 all_goals first
  |(simp only[l_];omega)
  |exact bH ⟨[0],by simp,⟨⟨_,rfl,rfl,y_ ⟨rfl,rfl⟩⟩,trivial⟩,⟨_,rfl,by simp[gB,jy]⟩⟩
end
end Go.Proofs.Ytagaefgglphkgaa
