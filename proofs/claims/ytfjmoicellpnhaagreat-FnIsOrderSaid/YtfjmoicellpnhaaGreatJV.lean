/-
  Texts joined: Defs2 Sort2 Sort3 SortLaw Lgb.
-/
import Derived.Test.YtfjmoicellpnhaaGreatJR
import Derived.BigQuiet
import Derived.Test.YtfjmoicellpnhaaGreatJG
import Derived.Sort.OwnSorted
import Derived.Sort.Walk0
import Derived.Test.YtfjmoicellpnhaaGreatJU
import Derived.Test.YtfjmoicellpnhaaGreatJA
set_option maxHeartbeats 8000000
set_option maxRecDepth 20000
set_option linter.unusedSimpArgs false
set_option linter.unusedVariables false
namespace Go.Proofs.YtfjmoicellpnhaaGreat
open Go.RowKit
section
open Nat renaming le_refl→a_,le_trans→h_,lt_of_lt_of_le→k_,mul_one→C_,lt_irrefl→H_,zero_add→J_
open List renaming length_map→b_,getElem?_eq_getElem→c_,mem_cons→e_,take_succ_eq_append_getElem→g_,pairwise_cons→i_,map_append→n_,getElem?_map→o_,take_of_length_le→p_,append_nil→q_,mem_append→s_,drop_eq_getElem_cons→t_,foldl_cons→u_,mem_singleton→x_,mem_mergeSort→y_,foldl_append→z_,length_cons→D_,map_cons→E_,map_drop→F_,map_take→G_,mem_map→K_
open Below renaming refl→d_
open Lib renaming hid→f_
open Option.some renaming inj→j_
open Or renaming inr→l_,inl→m_
open Value renaming string→r_,int→L_
open Instr renaming slice→v_
open UInt8 renaming ofNat→w_
theorem Dv.tos{w w':World}{l:List Int}{v:Value}(h:Dv w' w.heap.size l v)(hb:Below w.heap.size w w'):wJ (l.map li) w (.returned v) w':=
 ⟨v.ownBlock.toList,v,rfl,h.sl,by have:=gG.of_own h gG.nil (fun g _=>by simp);rwa[q_]at this,hb⟩
theorem zk.tos{l:List GPart}{nm:ByteArray}{w w':World}{e:Ending}(h:zk l nm w e w'):wJ ((dZ l nm l.length).map li) w e w':=by
 obtain⟨v,rfl,ho,hb⟩:=h;exact ho.tos hb
theorem Oc(l:List GPart)(nm:ByteArray)(fp:List Nat)(v:Value)(w:World)(hS:Sl w (l.map GPart.toD) fp v)(hn:l.length≤1048576):Calls Tryz.prog 22 #[v,.string nm] w (Ey (.int .i64 (FT (dZ l nm l.length))) w):=by
 have hc:=zT l nm fp v w hS hn;have hle:=f_ (rY l nm l.length);unfold zk at hc;generalize dZ l nm l.length=D at*;obtain⟨A,c,rfl,_,_⟩:=hS.jk;clear hS
 go_enter Tryz.func22,Tryz.ntmps22
 go_wp2_with fail
 refine hc.mono ?_;rintro e w1 ⟨v1,rfl,ho,hb⟩;have hsl:=ho.sl;obtain⟨A1,c1,rfl,_,_⟩:=hsl.jk
 match D,ho,hsl,hle with
 | [],ho,hsl,hle=>
   clear ho hsl hle
   go_wp2_with fail
   go_ret
   exact⟨rfl,hb⟩
 | [x],ho,hsl,hle=>
   obtain⟨b,o,fi,ci,rfl,hbb,hbf,hri,hfi,hat⟩:=hsl.elem Oz (k:=0) (d:=li x) rfl;obtain⟨rfl,rfl⟩:=hri;have q0:w1.cell? ⟨b,o,none⟩=some (.int .i64 x):=by simpa using hat.head
   clear hat ho hsl hle
   go_wp2_with fail
   go_ret
   exact⟨rfl,hb⟩
 | x::y::r,ho,hsl,hle=>
   have hl:(x::y::r).length≤1048576:=h_ hle.out hn;rw[D_,D_]at hl;clear ho hsl hle
   go_wp2_with fail
   go_ret
   exact⟨rfl,hb⟩
theorem yY{w:World}{l:List ByteArray}:∀(f:List Nat) (cs:List Value),Rs w (l.map ls) f cs→f= []:=by
 induction l with
 |nil=>intro f cs h;exact h.1
 | cons x l ih=>
   intro f cs h;rw[E_,Rs]at h;obtain⟨f1,f2,c1,c2,rfl,rfl,h1,h2⟩:=h;rw[h1.1,ih f2 c2 h2];rfl
def IE(acc:List ByteArray)(x:ByteArray)(at_:Nat):List ByteArray:=if acc[at_]? =some x then acc else acc.take at_++ [x]++acc.drop at_
def ltS(a b:ByteArray):Bool:=Op.bytesLess a.toList b.toList
def zn :List ByteArray→ByteArray→Nat
 | [],_=>0
 |y::r,x=>if ltS y x then zn r x+1 else 0
theorem afn(l:List ByteArray)(x:ByteArray):zn l x≤l.length:=by
 induction l with
 |nil=>simp[zn]
 |cons y r ih=>rw[zn];split<;>simp<;>omega
def vg(acc:List ByteArray)(x:ByteArray):List ByteArray:=IE acc x (zn acc x)
theorem adf(acc:List ByteArray)(x:ByteArray):(vg acc x).length≤acc.length+1:=by
 unfold vg IE;have:=afn acc x;split<;>simp<;>omega
def kH(l:List ByteArray)(k:Nat):List ByteArray:=(l.take k).foldl vg []
theorem Ho(l:List ByteArray)(k:Nat):(kH l k).length≤k:=by
 induction k with
 |zero=>simp[kH]
 | succ k ih=>
   by_cases h:k<l.length
   ·unfold kH;rw[g_ h,z_];have:=adf ((l.take k).foldl vg []) l[k];unfold kH at ih;simp only[u_,List.foldl_nil];omega
   ·unfold kH at ih⊢;rw[p_ (by omega)]at ih⊢;omega
theorem Qe(l:List ByteArray)(k:Nat)(h:k<l.length):kH l (k+1)=vg (kH l k) l[k]:=by
 unfold kH;rw[g_ h,z_];rfl
def wM(l:List ByteArray)(w:World)(en:Ending)(w':World):Prop:=∃f v,en= .returned v∧fJ w' w.heap.size 9 1 (l.map ls) f v∧Below w.heap.size w w'
theorem wM.tos{l:List ByteArray}{w w':World}{en:Ending}(h:wM l w en w'):wJ (l.map ls) w en w':=by
 obtain⟨f,v,rfl,h1,h2⟩:=h;exact h1.tos h2
theorem zW(l:List ByteArray)(fp:List Nat)(v:Value)(w:World)(hS:Sl w (l.map ls) fp v)(hn:l.length≤1048576):Calls Tryz.prog 68 #[v] w (wM (kH l l.length) w):=by
 obtain⟨A,c,rfl,hl,hc⟩:=hS.jk;have hm:l.length≤9223372036854775807:=by omega
 have hn':=f_ hn;clear hl hc hn
 go_enter Tryz.func68,Tryz.ntmps68
 go_wp2_with fail
 go_loopw [3,4] (fun nv iv wr=>∃(k:Nat) (g c1:Nat),k≤l.length∧iv= .int .i64 k∧nv= .slice (some ⟨g,0,none⟩) (kH l k).length c1∧fJ wr w.heap.size 9 1 ((kH l k).map ls) [] nv∧Below w.heap.size w wr) (fun _ iv _=>l.length - (intOf iv).toNat)
 case atStart=>exact⟨0,_,_,by omega,rfl,rfl,fJ.lit rfl (a_ _),(d_ _ _).alloc (a_ _) _⟩
 case round=>
  obtain⟨k,g,c1,hk,rfl,rfl,ho,hb⟩:=hrel;by_cases hlt:k<l.length
  ·have hd:(l.map ls)[k]? =some (ls l[k]):=by rw[o_,c_ hlt];rfl
   obtain⟨b,o,fi,ci,rfl,hbb,hbf,hri,hfi,hat⟩:=hS.elem kX hd;obtain⟨rfl,rfl⟩:=hri;simp only[C_]at hat;have hsl:=f_ (Ho l k);have hsu:=f_ (Qe l k hlt);generalize hacc:kH l k=acc at*;have hx:w.cell? ⟨b,o+k,none⟩=some (.string l[k]):=hat.head;generalize l[k]=x at*;clear hacc hat hd;have q0:wr.cell? ⟨b,o+k,none⟩=some (.string x):=(hb.cell (p:=⟨b,o+k,none⟩) hbb).trans hx;have hk1:(k:Int)<l.length:=by omega
   have hk0:(0:Int)≤(k:Int):=by omega
   have hal:acc.length≤1048576:=by have:=hsl.out;have:=hn'.out;omega
   have hbr:b<wr.heap.size:=k_ hbb hb.size;have hac:acc.length≤c1:=by
    obtain⟨A',c',e1,e2,_⟩:=ho.sl.jk;injection e1 with _ _ e1
    omega
   go_wp2_with fail
   go_loopw [5] (fun av w2=>∃(j n:Nat),j≤acc.length∧av= .int .i64 j∧zn acc x=zn (acc.drop j) x+j∧w2=wr.drewN n) (fun av _=>acc.length - (intOf av).toNat)
   case atStart=>exact⟨0,0,by omega,rfl,by simp,rfl⟩
   case round=>
    obtain⟨j,n,hj,rfl,hpos,hw2⟩:=hrel;subst hw2;have hpos':=f_ hpos;clear hpos;have hj0:(0:Int)≤(j:Int):=by omega
    by_cases hjl:j<acc.length
    ·have hj1:(j:Int)<acc.length:=by omega
     have hda:(acc.map ls)[j]? =some (ls acc[j]):=by rw[o_,c_ hjl];rfl
     obtain⟨b2,o2,fi2,ci2,hbo,hbb2,hbf2,hri2,hfi2,hat2⟩:=ho.sl.elem kX hda;obtain⟨rfl,rfl⟩:=hri2;injection hbo with hbo
     injection hbo with hb1 hb2 _
     subst hb1 hb2;simp only[C_,J_]at hat2;have q1:wr.cell? ⟨g,j,none⟩=some (.string acc[j]):=hat2.head;clear hat2 hda;generalize hy:acc[j]=y at*;have hy':=f_ hy;clear hy;have h1:∀W:World,(v_ 29 (.slice (some ⟨g,0,none⟩) acc.length c1) none (some (.int .i64 (j:Int))) none).run Tryz.prog W= .ok (.slice (some ⟨g,0,none⟩) j c1) W:=yx.abw j hj hac;obtain⟨A2,h2',h2s⟩:=yx.abv (A:=some ⟨g,0,none⟩) j hj hac;have h2:∀W:World,(v_ 29 (.slice (some ⟨g,0,none⟩) acc.length c1) (some (.int .i64 (j:Int))) none none).run Tryz.prog W= .ok (.slice A2 (acc.length - j) (c1 - j)) W:=h2';obtain⟨fd,hSd,_⟩:=h2s wr _ _ kX ho.sl;rw[← F_]at hSd;clear h2' h2s;cases e2:Op.bytesLess y.toList x.toList with
     | true=>
       have hst:=f_ (show zn acc x=zn (acc.drop (j+1)) x+(j+1) by
        have h1:=hpos'.out;rw[t_ hjl,zn,hy'.out,ltS,e2,if_pos rfl]at h1;omega)
       go_wp2_with fail
       go_quiet (fail)
       go_wp2_with fail
       go_roundw
       case rel=>exact⟨j+1,_,by omega,by go_num,hst.out,by first|rfl|rw[World.drewN_drewN]⟩
       case measure=>(simp[intOf]<;>omega)
     | false=>
       have hst:=f_ (show zn acc x=j by
        have h1:=hpos'.out;rw[t_ hjl,zn,hy'.out,ltS,e2,if_neg (by simp)]at h1;omega)
       cases e3:(y.toList==x.toList)with
       | true=>
         have heq:=f_ (show vg acc x=acc by
          have hyx:y=x:=qw (by simpa using e3);unfold vg IE;rw[hst.out,c_ hjl,hy'.out,hyx,if_pos rfl])
         go_wp2_with fail
         go_quiet (fail)
         go_wp2_with fail
         go_quiet (fail)
         go_wp2_with fail
         go_roundw
         case rel=>exact⟨k+1,g,c1,by omega,by go_num,by rw[hsu.out,heq.out],by rw[hsu.out,heq.out];exact ho.below (lC (d_ _ _) _),lC hb _⟩
         case measure=>(simp[intOf]<;>omega)
       | false=>
         have heq:=f_ (show vg acc x=acc.take j++ [x]++acc.drop j by
          have hyx:¬y=x:=fun e=>by simp[e]at e3
          unfold vg IE;rw[hst.out,c_ hjl,hy'.out,if_neg (by simpa using hyx)])
         go_wp2_with fail
         go_quiet (fail)
         go_wp2_with fail
         go_quiet (fail)
         go_wp2_with (at_builtin;refine mF rfl yx (.tmp 46) (.tmp 49) rfl wr.heap.size _ (by rfl) [] [] (by first|exact(fJ.lit rfl (a_ _)).drewN _|exact fJ.lit rfl (a_ _)) ((acc.drop j).map ls) [] _ (by rfl) (Src.of_flat (hSd.below (by first|exact lC ((d_ _ _).alloc (a_ _) _) _|exact(d_ _ _).alloc (a_ _) _)) yY) rF kX oC tY (by simp;try omega) (by simp) ?_;intro v1 w1 ho1 hg1 hat1;have L1:Below wr.heap.size wr w1:=jH (by first|exact lC ((d_ _ _).alloc (a_ _) _) _|exact(d_ _ _).alloc (a_ _) _) hg1 (by simp) (fun g' h=>by have h:=j_ h;try dsimp only at h;omega);clear hg1 hat1)
         have hot:fJ w1 w.heap.size 9 1 ((acc.take j).map ls) [] (.slice (some ⟨g,0,none⟩) j c1):=by rw[G_];exact(ho.below L1).trunc kX (by rw[b_];exact hj)
         have q2:w1.cell? ⟨b,o+k,none⟩=some (.string x):=(L1.cell (p:=⟨b,o+k,none⟩) hbr).trans q0;have hgl:=(ho.ge g rfl)
         have tok1:True:=trivial
         go_region_held3 (fun w'=>w'.cell? ⟨b,o+k,none⟩=some (.string x)) (go_keep)
          (first
          |(refine pV rfl yx (.tmp 59) (.tmp 60) rfl w.heap.size _ (by rfl) _ [] ho3 ((acc.drop j).map ls) [] _ (by rfl) (Src.of_flat hS4 yY) rF kX oC tY (by simp;try omega) Z3 ?_;intro v3 w3 ho4 hg3 hat3;have q4:w3.cell? ⟨b,o+k,none⟩=some (.string x):=(hg3.cell_far _ (k_ hbr Z4) (fun e=>H_ _ (k_ hbb (ho3.ge _ e.symm).1))).trans q3)
          |(have _t:=tok1;refine pV rfl yx (.tmp 53) (.tmp 58) rfl w.heap.size _ (by rfl) _ [] (hot.below ((d_ _ _).alloc (a_ _) _).drew) ([x].map ls) [] _ (by rfl) (Src.one (Row.drew (Row.Ot rfl)) ⟨rfl,rfl⟩) rF kX oC tY (by simp;try omega) (by have:=hb.size;have:=L1.size;simp;omega) ?_;intro v2 w2 ho3 hg2 hat2;have hS4:Sl w2 ((acc.drop j).map ls) _ v1:=R.grown (ho1.sl.below ((d_ _ _).alloc (a_ _) _).drew) hg2 (fun g' e hm=>by have e1:=j_ e;dsimp only at e1;subst e1;have:=(ho1.ge g (Option.mem_toList.1 (by simpa using hm))).1;omega);have Z4:wr.heap.size≤w2.heap.size:=h_ L1.size (h_ (by simp) hg2.size);have Z3:w.heap.size≤w2.heap.size:=h_ hb.size Z4;have L2:Below w.heap.size w w2:=jH (((hb.trans (L1.mono hb.size)).alloc (h_ hb.size L1.size) _).drew) hg2 (by have:=hb.size;have:=L1.size;simp;omega) (fun g' h=>by have h:=j_ h;dsimp only at h;omega);have q3:w2.cell? ⟨b,o+k,none⟩=some (.string x):=(L2.cell (p:=⟨b,o+k,none⟩) hbb).trans hx;clear tok1))
         rw[← n_,← n_,← heq.out,← hsu.out]at ho4;have hlen:0<(kH l (k+1)).length:=by rw[hsu.out,heq.out];simp;try omega
         obtain⟨g5,c5,hv5⟩:=ho4.GH (by rw[b_];exact hlen);rw[b_]at hv5;subst hv5;have L3:Below w.heap.size w w3:=jH L2 hg3 Z3 (fun g' h=>(ho3.ge g' h).1);clear hg3 hg2 hat3 hat2
         go_wp2_with fail
         go_roundw
         case rel=>exact⟨k+1,g5,c5,by omega,by go_num,rfl,ho4,L3⟩
         case measure=>(simp[intOf]<;>omega)
    ·have hj2:decide (j<acc.length)=false:=by simpa using hjl
     have hjn:¬(j:Int)<acc.length:=by omega
     have hst:=f_ (show zn acc x=j by
      have h1:=hpos'.out;rw[List.drop_eq_nil_of_le (by omega),zn]at h1;omega)
     have heq:=f_ (show vg acc x=acc.take j++ [x]++acc.drop j by
      unfold vg IE;rw[hst.out,List.getElem?_eq_none (by omega),if_neg (by simp)])
     have h1:∀W:World,(v_ 29 (.slice (some ⟨g,0,none⟩) acc.length c1) none (some (.int .i64 (j:Int))) none).run Tryz.prog W= .ok (.slice (some ⟨g,0,none⟩) j c1) W:=yx.abw j hj hac;obtain⟨A2,h2',h2s⟩:=yx.abv (A:=some ⟨g,0,none⟩) j hj hac;have h2:∀W:World,(v_ 29 (.slice (some ⟨g,0,none⟩) acc.length c1) (some (.int .i64 (j:Int))) none none).run Tryz.prog W= .ok (.slice A2 (acc.length - j) (c1 - j)) W:=h2';obtain⟨fd,hSd,_⟩:=h2s wr _ _ kX ho.sl;rw[← F_]at hSd;clear h2' h2s;clear hjl
     go_wp2_with fail
     go_quiet (fail)
     go_wp2_with fail
     go_quiet (fail)
     go_wp2_with (at_builtin;refine mF rfl yx (.tmp 46) (.tmp 49) rfl wr.heap.size _ (by rfl) [] [] (by first|exact(fJ.lit rfl (a_ _)).drewN _|exact fJ.lit rfl (a_ _)) ((acc.drop j).map ls) [] _ (by rfl) (Src.of_flat (hSd.below (by first|exact lC ((d_ _ _).alloc (a_ _) _) _|exact(d_ _ _).alloc (a_ _) _)) yY) rF kX oC tY (by simp;try omega) (by simp) ?_;intro v1 w1 ho1 hg1 hat1;have L1:Below wr.heap.size wr w1:=jH (by first|exact lC ((d_ _ _).alloc (a_ _) _) _|exact(d_ _ _).alloc (a_ _) _) hg1 (by simp) (fun g' h=>by have h:=j_ h;try dsimp only at h;omega);clear hg1 hat1)
     have hot:fJ w1 w.heap.size 9 1 ((acc.take j).map ls) [] (.slice (some ⟨g,0,none⟩) j c1):=by rw[G_];exact(ho.below L1).trunc kX (by rw[b_];exact hj)
     have q2:w1.cell? ⟨b,o+k,none⟩=some (.string x):=(L1.cell (p:=⟨b,o+k,none⟩) hbr).trans q0;have hgl:=(ho.ge g rfl)
     have tok1:True:=trivial
     go_region_held3 (fun w'=>w'.cell? ⟨b,o+k,none⟩=some (.string x)) (go_keep)
      (first
      |(refine pV rfl yx (.tmp 59) (.tmp 60) rfl w.heap.size _ (by rfl) _ [] ho3 ((acc.drop j).map ls) [] _ (by rfl) (Src.of_flat hS4 yY) rF kX oC tY (by simp;try omega) Z3 ?_;intro v3 w3 ho4 hg3 hat3;have q4:w3.cell? ⟨b,o+k,none⟩=some (.string x):=(hg3.cell_far _ (k_ hbr Z4) (fun e=>H_ _ (k_ hbb (ho3.ge _ e.symm).1))).trans q3)
      |(have _t:=tok1;refine pV rfl yx (.tmp 53) (.tmp 58) rfl w.heap.size _ (by rfl) _ [] (hot.below ((d_ _ _).alloc (a_ _) _).drew) ([x].map ls) [] _ (by rfl) (Src.one (Row.drew (Row.Ot rfl)) ⟨rfl,rfl⟩) rF kX oC tY (by simp;try omega) (by have:=hb.size;have:=L1.size;simp;omega) ?_;intro v2 w2 ho3 hg2 hat2;have hS4:Sl w2 ((acc.drop j).map ls) _ v1:=R.grown (ho1.sl.below ((d_ _ _).alloc (a_ _) _).drew) hg2 (fun g' e hm=>by have e1:=j_ e;dsimp only at e1;subst e1;have:=(ho1.ge g (Option.mem_toList.1 (by simpa using hm))).1;omega);have Z4:wr.heap.size≤w2.heap.size:=h_ L1.size (h_ (by simp) hg2.size);have Z3:w.heap.size≤w2.heap.size:=h_ hb.size Z4;have L2:Below w.heap.size w w2:=jH (((hb.trans (L1.mono hb.size)).alloc (h_ hb.size L1.size) _).drew) hg2 (by have:=hb.size;have:=L1.size;simp;omega) (fun g' h=>by have h:=j_ h;dsimp only at h;omega);have q3:w2.cell? ⟨b,o+k,none⟩=some (.string x):=(L2.cell (p:=⟨b,o+k,none⟩) hbb).trans hx;clear tok1))
     rw[← n_,← n_,← heq.out,← hsu.out]at ho4;have hlen:0<(kH l (k+1)).length:=by rw[hsu.out,heq.out];simp;try omega
     obtain⟨g5,c5,hv5⟩:=ho4.GH (by rw[b_];exact hlen);rw[b_]at hv5;subst hv5;have L3:Below w.heap.size w w3:=jH L2 hg3 Z3 (fun g' h=>(ho3.ge g' h).1);clear hg3 hg2 hat3 hat2
     go_wp2_with fail
     go_roundw
     case rel=>exact⟨k+1,g5,c5,by omega,by go_num,rfl,ho4,L3⟩
     case measure=>(simp[intOf]<;>omega)
  ·have hf:=f_ (show k=l.length by omega)
   go_wp2_with fail
   go_ret
   have e:=hf.out;clear hf;subst e;exact⟨_,_,rfl,ho,hb⟩
def toB(x:List UInt8):ByteArray:=⟨x.toArray⟩
def ofB(s:ByteArray):List UInt8:=s.data.toList
theorem Bv(s:ByteArray):toB (ofB s)=s:=by cases s;simp[toB,ofB]
theorem XY(x:List UInt8):ofB (toB x)=x:=by simp[toB,ofB]
def xB(l:List ByteArray):List ByteArray:=((l.map ofB).mergeSort fun x y=>decide (x≤y)).map toB
theorem ZC(l:List ByteArray):(xB l).length=l.length:=by simp[xB]
theorem GU{w:World}:∀{l:List ByteArray} {fp:List Nat} {cs:List Value},Rs w (l.map ls) fp cs↔fp= []∧cs=l.map r_
 | [],fp,cs=>by rw[List.map_nil,Rs];rfl
 | x::l,fp,cs=>by
   rw[E_,Rs];constructor
   ·rintro⟨f1,f2,c1,c2,rfl,rfl,⟨rfl,rfl⟩,h2⟩;obtain⟨rfl,rfl⟩:=GU.1 h2;exact⟨rfl,rfl⟩
   ·rintro⟨rfl,rfl⟩;exact⟨[],[],[.string x],l.map r_,rfl,rfl,⟨rfl,rfl⟩,GU.2 ⟨rfl,rfl⟩⟩
theorem aiW(s:ByteArray):encStr (ofB s)= .string s:=by show r_ (toB (ofB s))=_;rw[Bv]
theorem FN(l:List ByteArray)(g c base:Nat)(w:World)(h:fJ w base 9 1 (l.map ls) [] (.slice (some ⟨g,0,none⟩) l.length c))(hn:l.length≤4194304):
 Calls Tryz.prog 96 #[.slice (some ⟨g,0,none⟩) l.length c] w fun e w'=>e= .returned (.tuple #[])∧fJ w' base 9 1 ((xB l).map ls) [] (.slice (some ⟨g,0,none⟩) l.length c)∧w.grownBy w' (some g):=by
 obtain⟨cs,⟨h1,h2⟩,h3,h4,h5⟩:=h;obtain⟨_,rfl⟩:=GU.1 h3;rw[b_]at h1 h2;rcases h2 with⟨h6,_⟩|⟨g',cap,cur,h6,h7,h8,h9,h10,h11,h12⟩
 ·injection h6 with h6
  cases h6
 ·injection h6 with h61 _ h63
  injection h61 with h61
  injection h61 with h61
  subst h61 h63;have hg:g<w.heap.size:=(Array.getElem?_eq_some_iff.1 h8).1;have hH:Go.Sort.Holds encStr w g 0 (l.map ofB).toArray:=by
   intro j hj;have hj':j<l.length:=by simpa using hj
   have hc:cur[j]? =some (.string l[j]):=by
    have e:(cur.toList.take (l.length*1))[j]? =(l.map r_)[j]? :=by rw[h12]
    rw[List.getElem?_take_of_lt (by omega),Array.getElem?_toList,o_,c_ hj']at e;exact e
   refine⟨?_,by simp[World.frozen?,h8]⟩;have e2:encStr (l.map ofB).toArray[j]! = .string l[j]:=by
    rw[getElem!_pos _ j hj];simp only[List.getElem_toArray,List.getElem_map];exact aiW _
   rw[e2];simpa[World.cell?,h8]using hc
  have hc:=Tryz.sort_Strings g 0 c (l.map ofB) w hH hg (by rw[b_];omega);rw[b_]at hc;refine hc.mono ?_;rintro e w' ⟨rfl,n,os,rfl⟩;have hlen:((l.map ofB).mergeSort fun x y=>decide (x≤y)).length=(l.map ofB).length:=by simp
  have ho:=ownsRow_sorted (w:=w) (n:=n) (os:=os) (base:=base) (e:=9) hlen h7 h8 (by rw[b_];exact h9) h10 h11;rw[b_]at ho;refine⟨rfl,⟨_, ?_,GU.2 ⟨rfl,rfl⟩,gG.nil,fun _ _=>by simp⟩,grownBy_sorted _⟩;rw[b_,ZC];have e3:((l.map ofB).mergeSort fun x y=>decide (x≤y)).map encStr=(xB l).map r_:=by
   unfold xB;rw[List.map_map];rfl
  rw[e3]at ho;exact ho
def dM(l:List ByteArray):Nat→List ByteArray
 |0=> []
 |k+1=>dM l k++(match l[k]? with|some x=>if Eb l x=(k:Int)then [x]else []|none=> [])
theorem vY(l:List ByteArray):∀k,(dM l k).length≤k
 |0=>a_ _
 | k+1=>by
   have:=vY l k;rw[dM,List.length_append];split
   ·split<;>simp<;>omega
   ·simp;omega
theorem KR(l:List ByteArray)(k:Nat)(h:k<l.length):dM l (k+1)=dM l k++(if Eb l l[k]=(k:Int)then [l[k]]else []):=by rw[dM,c_ h]
theorem FP(l:List ByteArray)(fp:List Nat)(v:Value)(w:World)(hS:Sl w (l.map ls) fp v)(hn:l.length≤1048576):Calls Tryz.prog 67 #[v] w (wM (xB (dM l l.length)) w):=by
 obtain⟨A,c,rfl,hl,hc⟩:=hS.jk;have hm:l.length≤9223372036854775807:=by omega
 have hn':=f_ hn;clear hl hc hn
 go_enter Tryz.func67,Tryz.ntmps67
 go_wp2_with fail
 go_loopw [3,9] (fun nv iv wr=>∃(k g c1:Nat),k≤l.length∧iv= .int .i64 k∧nv= .slice (some ⟨g,0,none⟩) (dM l k).length c1∧fJ wr w.heap.size 9 1 ((dM l k).map ls) [] nv∧Below w.heap.size w wr) (fun _ iv _=>l.length - (intOf iv).toNat)
 case atStart=>exact⟨0,_,_,by omega,rfl,rfl,fJ.lit rfl (a_ _),(d_ _ _).alloc (a_ _) _⟩
 case round=>
  obtain⟨k,g,c1,hk,rfl,rfl,ho,hb⟩:=hrel;by_cases hlt:k<l.length
  ·have hd:(l.map ls)[k]? =some (ls l[k]):=by rw[o_,c_ hlt];rfl
   obtain⟨b,o,fi,ci,rfl,hbb,hbf,hri,hfi,hat⟩:=hS.elem kX hd;obtain⟨rfl,rfl⟩:=hri;simp only[C_]at hat;have q0:wr.cell? ⟨b,o+k,none⟩=some (.string l[k]):=(hb.cell (p:=⟨b,o+k,none⟩) hbb).trans hat.head;have hsu:=f_ (KR l k hlt);have hfl:=f_ (vY l k);have hI:=fun W h=>Ci l l[k] fp _ W (hS.below (w':=W) h)
   clear hat hd;cases e1:(Eb l l[k]==(k:Int))with
   | false=>
     have e2:=f_ (show dM l (k+1)=dM l k by rw[hsu.out,if_neg (by simpa using e1),q_])
     go_wp2_with (go_at_call 95;refine(hI _ hb).mono ?_;rintro e w' ⟨rfl,rfl⟩)
     go_roundw
     case rel=>exact⟨k+1,g,c1,by omega,by go_num,by rw[e2.out],by rw[e2.out];exact ho,hb⟩
     case measure=>(simp[intOf]<;>omega)
   | true=>
     have e2:=f_ (show dM l (k+1)=dM l k++ [l[k]] by rw[hsu.out,if_pos (by simpa using e1)])
     go_wp2_with (first
      |(go_at_call 95;refine(hI _ hb).mono ?_;rintro e w' ⟨rfl,rfl⟩)
      |(at_builtin;refine mF rfl yx (.tmp 19) (.tmp 21) rfl w.heap.size _ (by rfl) _ [] (ho.below ((d_ _ _).alloc (a_ _) _)) ([l[k]].map ls) [] _ (by rfl) (Src.one (Row.Ot rfl) ⟨rfl,rfl⟩) rF kX oC tY (by have:=hfl.out;have:=hn'.out;simp;omega) (by have:=hb.size;simp;omega) ?_;intro v1 w1 ho1 hg1 hat1))
     rw[← n_,← e2.out]at ho1;have hlen:0<(dM l (k+1)).length:=by rw[e2.out];simp
     obtain⟨g5,c5,hv5⟩:=ho1.GH (by rw[b_];exact hlen);rw[b_]at hv5;subst hv5;have L3:Below w.heap.size w w1:=jH (hb.alloc hb.size _) hg1 (by have:=hb.size;simp;omega) (fun g' h=>(ho.ge g' h).1)
     go_roundw
     case rel=>exact⟨k+1,g5,c5,by omega,by go_num,rfl,ho1,L3⟩
     case measure=>(simp[intOf]<;>omega)
  ·have hf:=f_ (show k=l.length by omega);have hfl:=vY l k;have hs:=FN (dM l k) g c1 w.heap.size wr ho (by have:=hn'.out;omega);clear hfl
   go_wp2_with (go_at_call 96;refine hs.mono ?_;rintro e w2 ⟨rfl,ho2,hg2⟩)
   have L2:Below w.heap.size w w2:=jH (v:= .slice (some ⟨g,0,none⟩) 0 0) hb hg2 hb.size (fun g' h=>by have h:=j_ h;subst h;exact(ho.ge g rfl).1)
   go_ret
   have e:=hf.out;clear hf;subst e;exact⟨_,_,rfl,ho2,L2⟩
def LtB(a b:ByteArray):Prop:=ofB a<ofB b
theorem Ya{a b:ByteArray}:ltS a b=true↔LtB a b:=by
 unfold ltS LtB ofB;rw[bytesLess_eq,decide_eq_true_eq,ByteArray.toList_eq,ByteArray.toList_eq]
theorem XZ{a b:ByteArray}(h:ofB a=ofB b):a=b:=by rw[← Bv a,← Bv b,h]
theorem LtB.irrefl{a:ByteArray}:¬LtB a a:=List.lt_irrefl _
theorem LtB.trans{a b c:ByteArray}(h:LtB a b)(k:LtB b c):LtB a c:=List.lt_trans h k
theorem LtB.tri{a b:ByteArray}(h:¬LtB a b)(k:a≠b):LtB b a:=by
 unfold LtB at*;rcases Std.lt_trichotomy (ofB a) (ofB b)with h1|h1|h1
 ·exact absurd h1 h
 ·exact absurd (XZ h1) k
 ·exact h1
theorem Rj(x:ByteArray):vg [] x= [x]:=by simp[vg,IE,zn]
theorem LW(y:ByteArray)(r:List ByteArray)(x:ByteArray):vg (y::r) x=if ltS y x then y::vg r x else if y=x then y::r else x::y::r:=by
 unfold vg IE;rw[zn];split
 ·rw[List.getElem?_cons_succ,List.take_succ_cons,List.drop_succ_cons];split<;>rfl
 ·rw[List.getElem?_cons_zero,List.take_zero,List.drop_zero];by_cases h:y=x
  ·rw[if_pos (by rw[h]),if_pos h]
  ·rw[if_neg (by intro e;injection e with e;exact h e),if_neg h];rfl
theorem Rk{acc:List ByteArray}{x y:ByteArray}:y∈vg acc x↔y=x∨y∈acc:=by
 induction acc with
 |nil=>rw[Rj];simp
 | cons z r ih=>
   rw[LW];split
   ·rw[e_,ih,e_];exact⟨fun h=>h.elim (fun h=>l_ (m_ h)) (fun h=>h.elim m_ (fun h=>l_ (l_ h))),fun h=>h.elim (fun h=>l_ (m_ h)) (fun h=>h.elim m_ (fun h=>l_ (l_ h)))⟩
   ·split
    ·next h=>subst h;rw[e_];exact⟨fun h=>l_ h,fun h=>h.elim m_ id⟩
    ·rw[e_]
theorem Ri{acc:List ByteArray}{x:ByteArray}(h:acc.Pairwise LtB):(vg acc x).Pairwise LtB:=by
 induction acc with
 |nil=>rw[Rj];simp
 | cons z r ih=>
   rw[i_]at h;rw[LW];split
   ·next hz=>
    rw[i_];refine⟨fun y hy=> ?_,ih h.2⟩;rcases Rk.1 hy with rfl|hy
    ·exact Ya.1 hz
    ·exact h.1 y hy
   ·next hz=>
    split
    ·exact i_.2 h
    ·next hne=>
     have hx:LtB x z:=LtB.tri (fun e=>hz (Ya.2 e)) hne;refine i_.2 ⟨fun y hy=> ?_,i_.2 h⟩;rcases e_.1 hy with rfl|hy
     ·exact hx
     ·exact hx.trans (h.1 y hy)
theorem adF{l acc:List ByteArray}{y:ByteArray}:y∈l.foldl vg acc↔y∈acc∨y∈l:=by
 induction l generalizing acc with
 |nil=>simp
 | cons x l ih=>
   rw[u_,ih,Rk,e_];exact⟨fun h=>h.elim (fun h=>h.elim (fun h=>l_ (m_ h)) m_) (fun h=>l_ (l_ h)),fun h=>h.elim (fun h=>m_ (l_ h)) (fun h=>h.elim (fun h=>m_ (m_ h)) l_)⟩
theorem TJ{l acc:List ByteArray}(h:acc.Pairwise LtB):(l.foldl vg acc).Pairwise LtB:=by
 induction l generalizing acc with
 |nil=>exact h
 |cons x l ih=>rw[u_];exact ih (Ri h)
theorem Lh :∀{a b:List ByteArray},a.Pairwise LtB→b.Pairwise LtB→(∀y,y∈a↔y∈b)→a=b
 | [],[],_,_,_=>rfl
 | [],y::b,_,_,h=>absurd ((h y).2 (by simp)) (by simp)
 |x::a,[],_,_,h=>absurd ((h x).1 (by simp)) (by simp)
 | x ::a,y::b,ha,hb,h=>by
   rw[i_]at ha hb;have hxy:x=y:=by
    rcases e_.1 ((h x).1 (by simp))with e|e
    ·exact e
    ·rcases e_.1 ((h y).2 (by simp))with e'|e'
     ·exact e'.symm
     ·exact absurd ((ha.1 y e').trans (hb.1 x e)) LtB.irrefl
   subst hxy;have:a=b:=Lh ha.2 hb.2 fun z=>by
    constructor
    ·intro hz;rcases e_.1 ((h z).1 (by simp[hz]))with e|e
     ·subst e;exact absurd (ha.1 z hz) LtB.irrefl
     ·exact e
    ·intro hz;rcases e_.1 ((h z).2 (by simp[hz]))with e|e
     ·subst e;exact absurd (hb.1 z hz) LtB.irrefl
     ·exact e
   rw[this]
theorem zN{s:ByteArray}:∀(l:List ByteArray) (k:Nat),s∈l→∃i,i<l.length∧jZ l s k=((k+i:Nat):Int)∧l[i]? =some s
 | [],_,h=>by simp at h
 | x ::l,k,h=>by
   rw[jZ];by_cases e:x=s
   ·rw[if_pos e];exact⟨0,by simp,by simp,by simp[e]⟩
   ·rw[if_neg e];rcases e_.1 h with h|h
    ·exact absurd h.symm e
    ·obtain⟨i,h1,h2,h3⟩:=zN l (k+1) h;exact⟨i+1,by simp;omega,by rw[h2];congr 1;omega,by simpa using h3⟩
theorem Bc{l:List ByteArray}{y:ByteArray}:∀{k:Nat},y∈dM l k→y∈l∧∃i,i<k∧Eb l y=(i:Int)
 |0,h=>by simp[dM]at h
 | k +1,h=>by
   rw[dM,s_]at h;rcases h with h|h
   ·obtain⟨h1,i,h2,h3⟩:=Bc h;exact⟨h1,i,by omega,h3⟩
   ·split at h
    ·next x hx=>
     split at h
     ·next e=>
      rw[x_]at h;subst h;exact⟨List.mem_of_getElem? hx,k,by omega,e⟩
     ·simp at h
    ·simp at h
theorem qM(l:List ByteArray):∀k,(dM l k).Nodup
 |0=>List.nodup_nil
 | k +1=>by
   rw[dM];split
   ·next x hx=>
    split
    ·next e=>
     refine List.nodup_append.2 ⟨qM l k,by simp,fun a ha b hb e2=> ?_⟩;rw[x_]at hb;subst hb e2;obtain⟨_,i,h1,h2⟩:=Bc ha;rw[h2]at e;omega
    ·rw[q_];exact qM l k
   ·rw[q_];exact qM l k
theorem Fg{l:List ByteArray}{y:ByteArray}{k:Nat}(h:y∈dM l k):∀n,y∈dM l (k+n)
 |0=>h
 |n+1=>by rw[← Nat.add_assoc,dM,s_];exact m_ (Fg h n)
theorem Wv{l:List ByteArray}{y:ByteArray}(h:y∈l):y∈dM l l.length:=by
 obtain⟨i,h1,h2,h3⟩:=zN l 0 h;rw[J_]at h2;have h4:y∈dM l (i+1):=by
  rw[dM,h3,s_];refine l_ ?_;show y∈if Eb l y=(i:Int)then [y]else []
  rw[if_pos (show Eb l y=(i:Int) from h2)];simp
 have:=Fg h4 (l.length - (i+1));rwa[show i+1+(l.length - (i+1))=l.length by omega]at this
theorem ZB{l:List ByteArray}{y:ByteArray}:y∈xB l↔y∈l:=by
 unfold xB;rw[K_];constructor
 ·rintro⟨x,hx,rfl⟩;rw[y_,K_]at hx;obtain⟨z,hz,rfl⟩:=hx;rwa[Bv]
 ·intro h;exact⟨ofB y,by rw[y_];exact List.mem_map_of_mem h,Bv y⟩
theorem NY{l:List ByteArray}(h:l.Nodup):(xB l).Pairwise LtB:=by
 unfold xB;rw[List.pairwise_map];have h1:=List.pairwise_mergeSort (le:=fun x y:List UInt8=>decide (x≤y)) (fun a b c h1 h2=>by
  rw[decide_eq_true_eq]at*;exact List.le_trans h1 h2) (fun a b=>by
  rcases List.le_total a b with h|h<;>simp[h]) (l.map ofB)
 have h2:((l.map ofB).mergeSort fun x y=>decide (x≤y)).Nodup:=by
  refine(List.mergeSort_perm _ _).nodup_iff.2 ?_;exact List.Pairwise.map _ (fun a b hab e=>hab (XZ e)) h
 refine(h1.and h2).imp fun{a b} hab=> ?_
 unfold LtB;rw[XY,XY];obtain⟨h3,h4⟩:=hab;rw[decide_eq_true_eq]at h3;rcases Std.lt_trichotomy a b with h5|h5|h5
 ·exact h5
 ·exact absurd h5 h4
 ·exact absurd h5 (List.not_lt.2 h3)
theorem abz(l:List ByteArray):xB (dM l l.length)=kH l l.length:=by
 refine Lh (NY (qM _ _)) ?_ fun y=> ?_
 ·unfold kH;exact TJ List.Pairwise.nil
 ·unfold kH;rw[ZB,adF,List.take_length];exact⟨fun h=>l_ (Bc h).1,fun h=>Wv (h.elim (fun h=>by simp at h) id)⟩
def BG(l:List ByteArray):List ByteArray:=kH l l.length
theorem Lj(l:List ByteArray):(BG l).length≤l.length:=Ho l l.length
theorem zX(l:List ByteArray)(fp:List Nat)(v:Value)(w:World)(hS:Sl w (l.map ls) fp v)(hn:l.length≤1048576):Calls Tryz.prog 67 #[v] w (wM (BG l) w):=by
 have h:=FP l fp v w hS hn;rwa[abz]at h
end
section
open Nat renaming le_refl→a_,le_trans→h_,lt_of_lt_of_le→k_,mul_one→C_,lt_irrefl→H_,zero_add→J_
open List renaming length_map→b_,getElem?_eq_getElem→c_,mem_cons→e_,take_succ_eq_append_getElem→g_,pairwise_cons→i_,map_append→n_,getElem?_map→o_,take_of_length_le→p_,append_nil→q_,mem_append→s_,drop_eq_getElem_cons→t_,foldl_cons→u_,mem_singleton→x_,mem_mergeSort→y_,foldl_append→z_,length_cons→D_,map_cons→E_,map_drop→F_,map_take→G_,mem_map→K_
open Below renaming refl→d_
open Lib renaming hid→f_
open Option.some renaming inj→j_
open Or renaming inr→l_,inl→m_
open Value renaming string→r_,int→L_
open Instr renaming slice→v_
open UInt8 renaming ofNat→w_
attribute [local irreducible] sw sd sn
theorem aif{H:Type}{enc:TypeId×Value→H}{P:Program}{w:World}{spare:Nat→Bool}{t:TypeId}(ht:P.underlying t=some (.int .u8))(fuel:Nat):Rdg enc P w spare lu8 t fuel:=fun cs x h=>by
 obtain⟨n,rfl,_,hw⟩:=DataW.trod_int ht h;have hw2:(decide (IntKind.u8.min≤n) && decide (n≤IntKind.u8.max))=true:=hw;rw[show IntKind.u8.min=0 from rfl,show IntKind.u8.max=255 from rfl]at hw2;simp at hw2;have hn:((w_ n.toNat).toNat:Int)=n:=by
  rw[UInt8.toNat_ofNat'];omega
 refine⟨w_ n.toNat,⟨[],rfl, ?_⟩, ?_⟩
 ·show [L_ .u8 n]= [L_ .u8 ((w_ n.toNat).toNat:Int)]
  rw[hn]
 ·show(Lit.int .u8 ((w_ n.toNat).toNat:Int)).wf=true;rw[hn];exact hw
theorem WE :Tryz.prog.cellsOf 5=1:=by kernel_rfl
theorem abZ{H:Type}{enc:TypeId×Value→H}{w:World}{spare:Nat→Bool}(fuel:Nat):Rdg enc Tryz.prog w spare (fun l:List UInt8=> .sl (l.map lu8)) 22 fuel:=abY Tryz.underlying22 WE (fun y=>rfl) (by omega) fuel fun n _=>aif Tryz.underlying5 n
def adp :IC:=(zd_ [zj_ 2 false] (zd_ [zw_ 3 0,zf_ 4 false 3,zm_ 5 .gtr 4 1048576,zw_ 2 5] .ret))
theorem aav :ak Tryz.prog (Tryz.f10.body.getD .skip)=some adp:=by kernel_rfl
theorem Pv(l:List UInt8):aI Tryz.prog 10 [.sl (l.map lu8)] (.c false [.raw (.bool (decide ((l.length:Int) > 1048576)))]):=by
 refine aY (fn:=Tryz.f10) (t:=2) (hc:=aav) (h:= ?_);unfold adp;refine zb_ ?_;change AWP _ _ _ (st0 6 _);refine sS tdX ?_
 repeat' (first|(refine rg_ ?_;intro K hK)|(refine hq_ ?_;clear hK K)|refine ca_ ?_ ?_|refine sz_ (aiX tdC @jV) ?_|refine nv ?_|(refine c2_ ?_ ?_<;>(intro hb hb';try(exfalso;omega)))|(exact GCell.el _)|exact bq_|fail)
 exact aS ⟨_,rfl,⟨rfl,trivial⟩⟩
def ER :IC:=(zd_ [zj_ 4 false] (.seq (zd_ [zw_ 6 0,zf_ 7 false 6,zw_ 8 1,zf_ 9 false 8,zl_ 10 .neq 7 9] (.cond (.t 10) (zd_ [zj_ 4 false] .ret) .skip)) (.seq (zd_ [zk_ 5 0] (.block 0 (.loop (.seq (zd_ [zw_ 11 5,zw_ 12 0,zf_ 13 false 12,zl_ 14 .lss 11 13] (.cond (.t 14) .skip (.exit 0))) (.seq (.block 1 (.seq (.reg true [zw_ 17 0,zw_ 18 5,ze_ 19 1 17 18,zs_ 20 1 19,zw_ 21 1,zw_ 22 5,ze_ 23 1 21 22,zs_ 24 1 23,zl_ 25 .neq 20 24]) (.cond (.t 25) (zd_ [zj_ 4 false] .ret) .skip))) (.reg false [zw_ 15 5,zm_ 16 .add 15 1,zw_ 5 16])))))) (zd_ [zj_ 4 true] .ret))))
theorem IV :ak Tryz.prog (Tryz.f13.body.getD .skip)=some ER:=by kernel_rfl
theorem adE{xs:List Int}{k:Nat}(h:k<xs.length):idx (xs.map li) (some (k:Int))=some (li xs[k]):=bU li xs h
theorem Ql(xs ys:List Int)(hx:xs.length≤1048576)(hy:ys.length≤1048576):aI Tryz.prog 13 [.sl (xs.map li),.sl (ys.map li)] (.c false [.raw (.bool (decide (xs=ys)))]):=by
 refine aY (fn:=Tryz.f13) (t:=4) (hc:=IV) (h:= ?_);unfold ER;refine zb_ ?_;change AWP _ _ _ (st0 26 _);refine sS tdX ?_;by_cases hl:xs.length=ys.length
 ·have hne:((xs.length:Int) !=(ys.length:Int))=false:=by simp[hl]
  repeat' (first|(refine hq_ ?_;clear hK K)|refine ca_ ?_ ?_|refine sz_ (a3_ tdC @jV hne) ?_|refine nv ?_|(refine rD ?_;intro K hK)|(refine c2_ ?_ ?_<;>(intro hb hb';try(exfalso;omega)))|(exact GCell.el _)|exact bq_|fail)
  refine aQ (X:=Nat) (fun z=> [.k,.k,.d,.d,.d,.v (.c false [.raw (.int .i64 ((z:Nat)))])]) (fun _=> []) (fun _ _=> []) (fun z=>z≤xs.length∧xs.take z=ys.take z) (fun z=>xs.length - z) 0 ⟨Nat.zero_le _,rfl⟩ ?_ ?_
  ·simp[aG,aU,aC,aF,AV.fits,AC.fits,FB,aB]
  rintro z ⟨hz,htk⟩;simp only[FB,aB];by_cases hlt:z<xs.length
  ·have hT:decide ((z:Int)<(xs.length:Int))=true:=decide_eq_true (by omega);have hw1:IntKind.i64.wrap ((z:Int)+1)=((z+1:Nat):Int):=dJ (by omega);have hlt2:z<ys.length:=by omega
   have g1:=adE hlt;have g2:=adE hlt2;by_cases he:xs[z]=ys[z]
   ·have hq:(xs[z] !=ys[z])=false:=by simp[he]
    repeat' (first|(refine hq_ ?_;clear hK K)|refine ca_ ?_ ?_|refine sz_ (a7_ tdC @jV hT hw1 g1 g2 hq) ?_|refine nv ?_|(refine rD ?_;intro K hK)|(refine c2_ ?_ ?_<;>(intro hb hb';try(exfalso;omega)))|(exact GCell.el _)|exact bq_|fail)
    all_goals first
     |exact eP _
     | (refine aP (z+1) ?_ ⟨by omega,by rw[g_ hlt,g_ hlt2,htk,he]⟩ (show xs.length - (z+1)<xs.length - z by omega)
        simp[aG,aU,aC,aF,AV.fits,AC.fits,FB,aB])
   ·have hq:(xs[z] !=ys[z])=true:=by simp[he]
    have hd:decide (xs=ys)=false:=decide_eq_false (fun e=>he (by simp[e]))
    repeat' (first|(refine hq_ ?_;clear hK K)|refine ca_ ?_ ?_|refine sz_ (a7_ tdC @jV hT hw1 g1 g2 hq) ?_|refine nv ?_|(refine rD ?_;intro K hK)|(refine c2_ ?_ ?_<;>(intro hb hb';try(exfalso;omega)))|(exact GCell.el _)|exact bq_|fail)
    all_goals first
     |exact eP _
     |exact aS ⟨_,rfl,⟨by simp[gX,hd],trivial⟩⟩
  ·have hT:decide ((z:Int)<(xs.length:Int))=false:=decide_eq_false (by omega);have hd:decide (xs=ys)=true:=decide_eq_true (by rw[p_ (by omega),p_ (by omega)]at htk;exact htk)
   repeat' (first|(refine hq_ ?_;clear hK K)|refine ca_ ?_ ?_|refine sz_ (a3_ tdC @jV hT) ?_|refine nv ?_|(refine rD ?_;intro K hK)|(refine c2_ ?_ ?_<;>(intro hb hb';try(exfalso;omega)))|(exact GCell.el _)|exact bq_|fail)
   exact aS ⟨_,rfl,⟨by simp[gX,hd],trivial⟩⟩
 ·have hne:((xs.length:Int) !=(ys.length:Int))=true:=by simp;omega
  have hd:decide (xs=ys)=false:=decide_eq_false (fun e=>hl (by rw[e]))
  repeat' (first|(refine hq_ ?_;clear hK K)|refine ca_ ?_ ?_|refine sz_ (a3_ tdC @jV hne) ?_|refine nv ?_|(refine rD ?_;intro K hK)|(refine c2_ ?_ ?_<;>(intro hb hb';try(exfalso;omega)))|(exact GCell.el _)|exact bq_|fail)
  exact aS ⟨_,rfl,⟨by simp[gX,hd],trivial⟩⟩
theorem afp(x:GPart):(pF x).flat=x.toD.flat:=by rw[GPart.aK];simp[pF,D.flat,D.iW]
theorem aiQ{w:World}{x:GPart}{fp:List Nat}{cs:List Value}(h:R w (pF x) fp cs):R w x.toD fp cs:=ni.2 (by rw[← afp];exact ni.1 h)
theorem agR{w:World}:∀{l:List GPart} {fp:List Nat} {cs:List Value},Rs w (l.map pF) fp cs→Rs w (l.map GPart.toD) fp cs
 | [],_,_,h=>h
 | e::es,fp,cs,h=>by
   obtain⟨f1,f2,c1,c2,h1,h2,h3,h4⟩:=h;exact⟨f1,f2,c1,c2,h1,h2,aiQ h3,agR h4⟩
theorem aii{w:World}{l:List GPart}{v:Value}(h:Rd w (.sl (l.map pF)) v):Rd w (.sl (l.map GPart.toD)) v:=by
 obtain⟨fp,h⟩:=h;refine⟨fp, ?_⟩;rw[R]at h⊢;obtain⟨A,cap,h1,h2,h3,h4⟩:=h;simp only[b_]at h1 h2⊢;refine⟨A,cap,h1,h2,h3, ?_⟩;rcases h4 with⟨h4,h5⟩|⟨b,o,fp',cs',h4,h5,h6,h7,h8⟩
 ·exact m_ ⟨by simpa using h4,h5⟩
 ·exact l_ ⟨b,o,fp',cs',h4,h5,h6,agR h7,h8⟩
theorem abX{w:World}{l:List GPart}{ds:List D}:∀{vs:List Value},Rds w (.sl (l.map pF)::ds) vs→Rds w (.sl (l.map GPart.toD)::ds) vs
 | [],h=>h.elim
 |v::vs,h=>⟨aii h.1,h.2⟩
theorem aI.pF{P:Program}{f:Nat}{l:List GPart}{ds:List D}{r:AV}(h:aI P f (.sl (l.map GPart.toD)::ds) r):aI P f (.sl (l.map pF)::ds) r:=fun w vs hr ht=>h w vs (abX hr) ht
theorem U1{P:Program}{f:Nat}{ds l:List D}{e s:Nat}(h:bZ P f ds l e s):aI P f ds (.c false [.sl true l]):=fun w vs hr ht=>(h w vs hr ht).mono fun en w' ⟨v,cs,f,he,h1,h2,h3,h4⟩=>
 ⟨v,he,⟨⟨_,Sl.nD h1 h2,fun b hb=>by
   have hB:w.heap.size≤b:=by
    rcases s_.1 hb with hb|hb
    ·exact(bF.lt h1 b (by simpa using hb)).1
    ·exact(h3 b hb).2
   have:=Gw w.heap.size b (m_ hB);exact⟨this.1,fun _=>this.2⟩⟩,trivial⟩,h4⟩
end
end Go.Proofs.YtfjmoicellpnhaaGreat
