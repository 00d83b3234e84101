/-
  Texts joined: Defs Defs2 Nv.
-/
import Derived.Test.YtagaefgglphkgaaGreatJA
import Derived.Test.YtagaefgglphkgaaGreatJH
set_option maxHeartbeats 8000000
set_option maxRecDepth 20000
set_option linter.unusedSimpArgs false
set_option linter.unusedVariables false
namespace Go.Proofs.YtagaefgglphkgaaGreat
open Go.RowKit
section
open List renaming getElem?_eq_getElem→a_,length_cons→e_,getElem?_map→f_,getElem?_eq_none→h_,length_map→k_,map_cons→n_,length_append→o_,map_nil→p_,append_nil→q_,length_nil→r_,mem_append→s_
open Nat renaming le_refl→b_,le_trans→u_
open Below renaming refl→c_,grown→w_
open Lib renaming hid→d_
open Int renaming toNat_natCast→g_,eq_ofNat_of_zero_le→i_
open Value renaming int→j_,ownBlock→l_
def yZ(x:GPart)(nm:ByteArray):Bool:=(x.kind !=1) && decide (x.name=nm)
def bg(l:List GPart)(nm:ByteArray):Nat→List Int
 |0=> []
 |k+1=>bg l nm k++(match l[k]? with|some x=>if yZ x nm then [(k:Int)]else []|none=> [])
theorem pO(l:List GPart)(nm:ByteArray):∀k,(bg l nm k).length≤k
 |0=>b_ _
 | k+1=>by
   have:=pO l nm k;rw[bg,o_];split
   ·split<;>simp<;>omega
   ·simp;omega
theorem BO(l:List GPart)(nm:ByteArray)(k:Nat)(h:k<l.length)(e:yZ l[k] nm=false):bg l nm (k+1)=bg l nm k:=by
 rw[bg,a_ h];simp[e]
theorem Fp(l:List GPart)(nm:ByteArray)(k:Nat)(h:k<l.length)(e:yZ l[k] nm=true):bg l nm (k+1)=bg l nm k++ [(k:Int)]:=by
 rw[bg,a_ h];simp[e]
def zM(w:World)(base:Nat)(l:List Int)(v:Value):Prop:=w.ownsRow base 3 1 v l.length (l.map (j_ .i64))
theorem tX{w:World}:∀{l:List Int} {fp:List Nat} {cs:List Value},Rs w (l.map li) fp cs↔fp= []∧cs=l.map (j_ .i64)
 | [],fp,cs=>by rw[p_,Rs];rfl
 | x::l,fp,cs=>by
   rw[n_,Rs];constructor
   ·rintro⟨f1,f2,c1,c2,rfl,rfl,⟨rfl,rfl⟩,h2⟩;obtain⟨rfl,rfl⟩:=tX.1 h2;exact⟨rfl,rfl⟩
   ·rintro⟨rfl,rfl⟩;exact⟨[],[],[.int .i64 x],l.map (j_ .i64),rfl,rfl,⟨rfl,rfl⟩,tX.2 ⟨rfl,rfl⟩⟩
theorem zM.sl{w:World}{base:Nat}{l:List Int}{v:Value}(h:zM w base l v):Sl w (l.map li) v.ownBlock.toList v:=by
 have h':w.ownsRow base 3 1 v (l.map li).length (l.map (j_ .i64)):=by rw[k_];exact h
 have:=Sl.of_own h' (tX.2 ⟨rfl,rfl⟩);rwa[q_]at this
theorem Ym{l:List Int}:∀d∈l.map li,d.one:=fun d h=>by obtain⟨x,_,rfl⟩:=List.mem_map.1 h;rfl
theorem Ti :(Tryz.prog.info? 3).map (fun i=>(i.zero,i.size,i.bytes))=some (some (.int .i64 0),1,8):=by kernel_rfl
theorem pW{w:World}{ops:Array Oper}{rest:List Oper}{o:Oper}{a:Act}{Q:Exit→Act→World→Prop}(hgd:o.guard=none)(s x:Operand)
 (ho:o.op= .call {callee:= .builtin .append,args:= #[s,x],argTypes:= #[92,92]})
 (base:Nat) (v:Value) (l0:List Int) (hs:a.eval s=v) (hown:zM w base l0 v) (g:Nat) (n:Int) (hx:a.eval x= .slice (some ⟨g,0,none⟩) 1 1) (hrow:Row w g 3 [.int .i64 n])
 (hn:l0.length+1≤2097152) (hbase:base≤w.heap.size)
 (h:∀v' w',zM w' base (l0++ [n]) v'→w.grownBy w' v.ownBlock→(v'.ownBlock=v.ownBlock∨v'.ownBlock=some w.heap.size)→wpList Tryz.prog ops Q rest (a.put o.dst v') w'):wpList Tryz.prog ops Q (o::rest) a w:=by
 obtain⟨i0,hi0,hz0,hz1,hz2⟩:=info_parts Ti;have hsl:Sl w ([n].map li) [g] (.slice (some ⟨g,0,none⟩) 1 1):=Sl.sK hrow (tX.2 ⟨rfl,rfl⟩) rfl (by unfold maxLen;omega);refine Aa hgd s x _ ho base 3 i0 _ 1 8 Tryz.underlying92 hi0 hz0 hz1 hz2 rfl (by omega) v l0.length (l0.map (j_ .i64)) hs hown ([n].map li) [g] _ hx hsl Ym uV (by simp only[n_,p_,e_,r_];unfold maxLen;omega) (by simp only[n_,p_,e_,r_];omega) hbase ?_;intro v' w' fp' cs hr _ hown' hg hat;refine h v' w' ?_ hg hat;obtain⟨rfl,rfl⟩:=tX.1 hr;unfold zM;rw[List.map_append,o_];exact hown'
theorem Ec{w:World}{base:Nat}{e:TypeId}{s:Nat}{v:Value}{n:Nat}{xs:List Value}(h:w.ownsRow base e s v n xs){g:Nat}(hg:v.ownBlock=some g):base≤g:=by
 rcases h.2 with⟨rfl,_⟩|⟨g',cap,cur,rfl,hb,_⟩
 ·simp[l_]at hg
 ·simp[l_]at hg;omega
theorem zM.lit{w:World}{base g:Nat}(hg:w.heap.size=g)(hb:base≤g):zM (w.alloc (.cells #[] 3)) base [] (.slice (some ⟨g,0,none⟩) 0 0):=by
 subst hg;exact World.ownsRow_lit w #[] 0 hb (by simp) rfl
def wS(l:List GPart)(nm:ByteArray)(w:World)(e:Ending)(w':World):Prop:=∃v,e= .returned v∧zM w' w.heap.size (bg l nm l.length) v∧Below w.heap.size w w'
theorem oq{a b:ByteArray}(h:a.toList=b.toList):a=b:=by
 rw[ByteArray.toList_eq,ByteArray.toList_eq]at h;have:a.data=b.data:=Array.toList_inj.1 h;cases a;cases b;simp_all
theorem xE(l:List GPart)(nm:ByteArray)(fp:List Nat)(v:Value)(w:World)(hS:Sl w (l.map GPart.toD) fp v)(hn:l.length≤1048576):Calls Tryz.prog 69 #[v,.string nm] w (wS l nm w):=by
 obtain⟨A,c,rfl,hl,hc⟩:=hS.au;have hm:l.length≤9223372036854775807:=by omega
 have hn':=d_ hn;clear hl hc hn
 go_enter Tryz.func69,Tryz.ntmps69
 go_wp2_with fail
 go_loopw [5,11] (fun nv iv wr=>∃k:Nat,k≤l.length∧iv= .int .i64 k∧zM wr w.heap.size (bg l nm k) nv∧Below w.heap.size w wr) (fun _ iv _=>l.length - (intOf iv).toNat)
 case atStart=>exact⟨0,by omega,rfl,zM.lit rfl (b_ _),(c_ _ _).alloc (b_ _) _⟩
 case round=>
  obtain⟨k,hk,rfl,ho,hb⟩:=hrel;by_cases hlt:k<l.length
  ·have hd:(l.map GPart.toD)[k]? =some (GPart.toD l[k]):=by rw[f_,a_ hlt];rfl
   obtain⟨b,o,fi,ci,rfl,hbb,hbf,hri,hfi,hat⟩:=hS.elem GPart.szs hd;obtain⟨v0,v1,v2,v3,f0,f1,f2,f3,rfl,rfl,hS0,hS1,hS2,hS3⟩:=GPart.opened.1 hri;have hdl:=d_ (pO l nm k);have q0:wr.cell? ⟨b,o+k*14,none⟩=some (.int .i64 l[k].kind):=(hb.cell (p:=⟨b,o+k*14,none⟩) hbb).trans (hat.head);have q1:wr.cell? ⟨b,o+k*14+1,none⟩=some (.string l[k].name):=(hb.cell (p:=⟨b,o+k*14+1,none⟩) hbb).trans (hat.nth 1 rfl);have q2:wr.cell? ⟨b,o+k*14+2,none⟩=some (.int .i64 l[k].expr.kind):=(hb.cell (p:=⟨b,o+k*14+2,none⟩) hbb).trans (hat.nth 2 rfl);have q3:wr.cell? ⟨b,o+k*14+3,none⟩=some (.int .i64 l[k].expr.n):=(hb.cell (p:=⟨b,o+k*14+3,none⟩) hbb).trans (hat.nth 3 rfl);have q4:wr.cell? ⟨b,o+k*14+4,none⟩=some (.string l[k].expr.text):=(hb.cell (p:=⟨b,o+k*14+4,none⟩) hbb).trans (hat.nth 4 rfl);have q5:wr.cell? ⟨b,o+k*14+5,none⟩=some (v0):=(hb.cell (p:=⟨b,o+k*14+5,none⟩) hbb).trans (hat.nth 5 rfl);have q6:wr.cell? ⟨b,o+k*14+6,none⟩=some (.int .i64 l[k].value.kind):=(hb.cell (p:=⟨b,o+k*14+6,none⟩) hbb).trans (hat.nth 6 rfl);have q7:wr.cell? ⟨b,o+k*14+7,none⟩=some (.int .i64 l[k].value.n):=(hb.cell (p:=⟨b,o+k*14+7,none⟩) hbb).trans (hat.nth 7 rfl);have q8:wr.cell? ⟨b,o+k*14+8,none⟩=some (.int .i64 l[k].value.step):=(hb.cell (p:=⟨b,o+k*14+8,none⟩) hbb).trans (hat.nth 8 rfl);have q9:wr.cell? ⟨b,o+k*14+9,none⟩=some (.string l[k].value.text):=(hb.cell (p:=⟨b,o+k*14+9,none⟩) hbb).trans (hat.nth 9 rfl);have q10:wr.cell? ⟨b,o+k*14+10,none⟩=some (v1):=(hb.cell (p:=⟨b,o+k*14+10,none⟩) hbb).trans (hat.nth 10 rfl);have q11:wr.cell? ⟨b,o+k*14+11,none⟩=some (v2):=(hb.cell (p:=⟨b,o+k*14+11,none⟩) hbb).trans (hat.nth 11 rfl);have q12:wr.cell? ⟨b,o+k*14+12,none⟩=some (v3):=(hb.cell (p:=⟨b,o+k*14+12,none⟩) hbb).trans (hat.nth 12 rfl);have q13:wr.cell? ⟨b,o+k*14+13,none⟩=some (.int .i64 l[k].pos):=(hb.cell (p:=⟨b,o+k*14+13,none⟩) hbb).trans (hat.nth 13 rfl);obtain⟨B0,c0,rfl,_,_⟩:=hS0.au;obtain⟨B1,c1,rfl,_,_⟩:=hS1.au;obtain⟨B2,c2,rfl,_,_⟩:=hS2.au;obtain⟨B3,c3,rfl,_,_⟩:=hS3.au;clear hat hd hri hS0 hS1 hS2 hS3;have hskip:=d_ (BO l nm k hlt);have hhit:=d_ (Fp l nm k hlt);cases e1:(l[k].kind !=1)with
   | false=>
     go_wp2_with fail
     go_roundw
     case rel=>exact⟨k+1,by omega,by go_num,by rw[hskip.out (by simp[yZ,e1])];exact kY ho ((c_ _ _).alloc (b_ _) _),hb.alloc hb.size _⟩
     case measure=>(simp[intOf]<;>omega)
   | true=>
     cases e2:(l[k].name.toList==nm.toList)with
     | false=>
       have e2':=d_ (show¬l[k].name=nm from fun e=>by simp[e]at e2)
       go_wp2_with fail
       go_roundw
       case rel=>exact⟨k+1,by omega,by go_num,by rw[hskip.out (by simp[yZ,e1,e2'.out])];exact kY ho ((c_ _ _).alloc (b_ _) _),hb.alloc hb.size _⟩
       case measure=>(simp[intOf]<;>omega)
     | true=>
       have e2':=d_ (show l[k].name=nm from oq (by simpa using e2))
       go_wp2_with (at_builtin;refine pW rfl _ _ rfl w.heap.size _ (bg l nm k) rfl ?h1 (wr.heap.size+1) (k:Int) ?hx ?h2 ?h3 ?h4 ?_;rotate_left 5;intro v1 w1 hown1 hg1 hat1;have hz1:=hg1.size)
       case hx=>rfl
       case h1=>exact kY ho (((c_ _ _).alloc (b_ _) _).alloc (by simp) _)
       case h2=>have:=Row.new (wr.alloc (.cells #[.int .i64 l[k].kind,.string l[k].name,.int .i64 l[k].expr.kind,.int .i64 l[k].expr.n,.string l[k].expr.text,.slice B0 l[k].expr.args.length c0,.int .i64 l[k].value.kind,.int .i64 l[k].value.n,.int .i64 l[k].value.step,.string l[k].value.text,.slice B1 l[k].value.list.length c1,.slice B2 l[k].value.cols.length c2,.slice B3 l[k].value.rows.length c3,.int .i64 l[k].pos] 64)) 3 #[.int .i64 (k:Int)];simpa using this
       case h3=>have:=hdl.out;have:=hn'.out;omega
       case h4=>have:=hb.size;simp;omega
       go_wp2_with fail
       go_roundw
       case rel=>
        refine⟨k+1,by omega,by go_num,by rw[hhit.out (by simp[yZ,e1,e2'.out])];exact hown1, ?_⟩;have hs0:=hb.size;refine w_ ((hb.alloc hb.size _).alloc (by simp;omega) _) hg1 (by simp;omega) (fun g hg=> ?_);have hge:=Ec ho hg;omega
       case measure=>(simp[intOf]<;>omega)
  ·have hf:=d_ (show k=l.length by omega)
   go_wp2_with fail
   go_ret
   exact⟨_,rfl,by rw[← hf.out];exact ho,hb⟩
theorem GN(l:List GPart)(nm:ByteArray)(fp:List Nat)(v:Value)(w:World)(hS:Sl w (l.map GPart.toD) fp v)(hn:l.length≤1048576):Calls Tryz.prog 79 #[v,.string nm] w (wS l nm w):=by
 obtain⟨A,c,rfl,hl,hc⟩:=hS.au;have hm:l.length≤9223372036854775807:=by omega
 have hn':=d_ hn;clear hl hc hn
 go_enter Tryz.func79,Tryz.ntmps79
 go_wp2_with fail
 go_loopw [5,6] (fun nv iv wr=>∃k:Nat,k≤l.length∧iv= .int .i64 k∧zM wr w.heap.size (bg l nm k) nv∧Below w.heap.size w wr) (fun _ iv _=>l.length - (intOf iv).toNat)
 case atStart=>exact⟨0,by omega,rfl,zM.lit rfl (b_ _),(c_ _ _).alloc (b_ _) _⟩
 case round=>
  obtain⟨k,hk,rfl,ho,hb⟩:=hrel;by_cases hlt:k<l.length
  ·have hd:(l.map GPart.toD)[k]? =some (GPart.toD l[k]):=by rw[f_,a_ hlt];rfl
   obtain⟨b,o,fi,ci,rfl,hbb,hbf,hri,hfi,hat⟩:=hS.elem GPart.szs hd;obtain⟨v0,v1,v2,v3,f0,f1,f2,f3,rfl,rfl,hS0,hS1,hS2,hS3⟩:=GPart.opened.1 hri;have hdl:=d_ (pO l nm k);have q0:wr.cell? ⟨b,o+k*14,none⟩=some (.int .i64 l[k].kind):=(hb.cell (p:=⟨b,o+k*14,none⟩) hbb).trans (hat.head);have q1:wr.cell? ⟨b,o+k*14+1,none⟩=some (.string l[k].name):=(hb.cell (p:=⟨b,o+k*14+1,none⟩) hbb).trans (hat.nth 1 rfl);clear hat hd hri hS0 hS1 hS2 hS3;have hskip:=d_ (BO l nm k hlt);have hhit:=d_ (Fp l nm k hlt);cases e1:(l[k].kind !=1)with
   | false=>
     go_wp2_with fail
     go_roundw
     case rel=>exact⟨k+1,by omega,by go_num,by rw[hskip.out (by simp[yZ,e1])];exact ho,hb⟩
     case measure=>(simp[intOf]<;>omega)
   | true=>
     cases e2:(l[k].name.toList==nm.toList)with
     | false=>
       have e2':=d_ (show¬l[k].name=nm from fun e=>by simp[e]at e2)
       go_wp2_with fail
       go_roundw
       case rel=>exact⟨k+1,by omega,by go_num,by rw[hskip.out (by simp[yZ,e1,e2'.out])];exact ho,hb⟩
       case measure=>(simp[intOf]<;>omega)
     | true=>
       have e2':=d_ (show l[k].name=nm from oq (by simpa using e2))
       go_wp2_with (at_builtin;refine pW rfl _ _ rfl w.heap.size _ (bg l nm k) rfl ?h1 wr.heap.size (k:Int) ?hx ?h2 ?h3 ?h4 ?_;rotate_left 5;intro v1 w1 hown1 hg1 hat1;have hz1:=hg1.size)
       case hx=>rfl
       case h1=>exact kY ho ((c_ _ _).alloc (b_ _) _)
       case h2=>exact Row.new wr 3 #[.int .i64 (k:Int)]
       case h3=>have:=hdl.out;have:=hn'.out;omega
       case h4=>have:=hb.size;simp;omega
       go_wp2_with fail
       go_roundw
       case rel=>
        refine⟨k+1,by omega,by go_num,by rw[hhit.out (by simp[yZ,e1,e2'.out])];exact hown1, ?_⟩;have hs0:=hb.size;refine w_ (hb.alloc hb.size _) hg1 (by simp;omega) (fun g hg=> ?_);have hge:=Ec ho hg;omega
       case measure=>(simp[intOf]<;>omega)
  ·have hf:=d_ (show k=l.length by omega)
   go_wp2_with fail
   go_ret
   exact⟨_,rfl,by rw[← hf.out];exact ho,hb⟩
def oC(D:List Int):Int:=match D with| []=> -1| [x]=>x|_=> -2
theorem sG(l:List GPart)(nm:ByteArray)(fp:List Nat)(v:Value)(w:World)(hS:Sl w (l.map GPart.toD) fp v)(hn:l.length≤1048576):Calls Tryz.prog 53 #[v,.string nm] w (XL (.int .i64 (oC (bg l nm l.length))) w):=by
 have hc:=GN l nm fp v w hS hn;have hle:=d_ (pO l nm l.length);unfold wS at hc;generalize bg l nm l.length=D at*;obtain⟨A,c,rfl,_,_⟩:=hS.au;clear hS
 go_enter Tryz.func53,Tryz.ntmps53
 go_wp2_with fail
 refine hc.mono ?_;rintro e w1 ⟨v1,rfl,ho,hb⟩;have hsl:=ho.sl;obtain⟨A1,c1,rfl,_,_⟩:=hsl.au
 match D,ho,hsl,hle with
 | [],ho,hsl,hle=>
   clear ho hsl hle
   go_wp2_with fail
   go_ret
   exact⟨rfl,hb⟩
 | [x],ho,hsl,hle=>
   obtain⟨b,o,fi,ci,rfl,hbb,hbf,hri,hfi,hat⟩:=hsl.elem uV (k:=0) (d:=li x) rfl;obtain⟨rfl,rfl⟩:=hri;have q0:w1.cell? ⟨b,o,none⟩=some (.int .i64 x):=by simpa using hat.head
   clear hat ho hsl hle
   go_wp2_with fail
   go_ret
   exact⟨rfl,hb⟩
 | x::y::r,ho,hsl,hle=>
   have hl:(x::y::r).length≤1048576:=u_ hle.out hn;rw[e_,e_]at hl;clear ho hsl hle
   go_wp2_with fail
   go_ret
   exact⟨rfl,hb⟩
def oO(l:List GPart)(i:Int):Bool:=if 0≤i then(match l[i.toNat]? with|some x=>(x.kind !=1) && decide (1<(bg l x.name l.length).length)|none=>false)else false
theorem Yx{l:List GPart}{nm:ByteArray}{n:Nat}:decide (1<(bg l nm n).length)=(oC (bg l nm n)== -2):=by
 have hnn:∀x∈bg l nm n,0≤x:=by
  induction n with
  |zero=>intro x hx;simp[bg]at hx
  | succ k ih=>
    intro x hx;rw[bg,s_]at hx;rcases hx with hx|hx
    ·exact ih x hx
    ·split at hx
     ·split at hx
      ·simp at hx;omega
      ·simp at hx
     ·simp at hx
 generalize bg l nm n=D at*
 match D,hnn with
 | [],_=>rfl
 | [x],hnn=>
   have:=hnn x (by simp);simp[oC];omega
 |x::y::r,_=>simp[oC]
theorem Au(l:List GPart)(i:Int)(fp:List Nat)(v:Value)(w:World)(hS:Sl w (l.map GPart.toD) fp v)(hn:l.length≤1048576):Calls Tryz.prog 43 #[v,.int .i64 i] w (XL (.bool (oO l i)) w):=by
 have hc:=fun nm=>xE l nm fp v w hS hn
 have hS':=hS;obtain⟨A,c,rfl,_,_⟩:=hS.au;clear hS;unfold oO;by_cases h0:0≤i
 ·rw [if_pos h0];by_cases h1:i<l.length
  ·obtain⟨k,rfl⟩:=i_ h0;have hlt:k<l.length:=by omega
   have hd:(l.map GPart.toD)[k]? =some (GPart.toD l[k]):=by rw[f_,a_ hlt];rfl
   obtain⟨b,o,fi,ci,rfl,hbb,hbf,hri,hfi,hat⟩:=hS'.elem GPart.szs hd;obtain⟨v0,v1,v2,v3,f0,f1,f2,f3,rfl,rfl,hS0,hS1,hS2,hS3⟩:=GPart.opened.1 hri;have q0:w.cell? ⟨b,o+k*14,none⟩=some (.int .i64 l[k].kind):=hat.head;have q1:w.cell? ⟨b,o+k*14+1,none⟩=some (.string l[k].name):=hat.nth 1 rfl;have hc':=hc l[k].name;rw[g_,a_ hlt];clear hat hd hri hS0 hS1 hS2 hS3 hc hS';dsimp only;cases e1:(l[k].kind !=1)with
   | false=>
     clear hc'
     go_enter Tryz.func43,Tryz.ntmps43
     go_wp2_with fail
     go_ret
     exact⟨rfl,c_ _ _⟩
   | true=>
     rw[Bool.true_and];cases e2:decide (1<(bg l l[k].name l.length).length)with
     | true=>
       have p2:(1:Int)<((bg l l[k].name l.length).length:Int):=by have:=of_decide_eq_true e2;omega
       clear e2
       go_enter Tryz.func43,Tryz.ntmps43
       go_wp2_with (go_at_call 69;refine hc'.mono ?_;rintro e w1 ⟨v1,rfl,ho,hb⟩;obtain⟨A1,c1,rfl,_,_⟩:=ho.sl.au)
       go_ret
       exact⟨rfl,hb⟩
     | false=>
       have p2:¬(1:Int)<((bg l l[k].name l.length).length:Int):=by have:=of_decide_eq_false e2;omega
       clear e2
       go_enter Tryz.func43,Tryz.ntmps43
       go_wp2_with (go_at_call 69;refine hc'.mono ?_;rintro e w1 ⟨v1,rfl,ho,hb⟩;obtain⟨A1,c1,rfl,_,_⟩:=ho.sl.au)
       go_ret
       exact⟨D5 (decide_eq_false (Int.not_lt.2 p2)),hb⟩
  ·have hnone:l[i.toNat]? =none:=h_ (by omega);rw[hnone];clear hc hS'
   go_enter Tryz.func43,Tryz.ntmps43
   go_wp2_with fail
   go_ret
   exact⟨rfl,c_ _ _⟩
 ·rw[if_neg h0];clear hc hS'
  go_enter Tryz.func43,Tryz.ntmps43
  go_wp2_with fail
  go_ret
  exact⟨rfl,c_ _ _⟩
theorem Ar(l:List GPart)(i:Int)(fp:List Nat)(v:Value)(w:World)(hS:Sl w (l.map GPart.toD) fp v)(hn:l.length≤1048576):Calls Tryz.prog 66 #[v,.int .i64 i] w (XL (.bool (oO l i)) w):=by
 have hc:=fun nm=>sG l nm fp v w hS hn
 have hS':=hS;obtain⟨A,c,rfl,_,_⟩:=hS.au;clear hS;unfold oO;by_cases h0:0≤i
 ·rw [if_pos h0];by_cases h1:i<l.length
  ·obtain⟨k,rfl⟩:=i_ h0;have hlt:k<l.length:=by omega
   have hd:(l.map GPart.toD)[k]? =some (GPart.toD l[k]):=by rw[f_,a_ hlt];rfl
   obtain⟨b,o,fi,ci,rfl,hbb,hbf,hri,hfi,hat⟩:=hS'.elem GPart.szs hd;obtain⟨v0,v1,v2,v3,f0,f1,f2,f3,rfl,rfl,hS0,hS1,hS2,hS3⟩:=GPart.opened.1 hri;have q0:w.cell? ⟨b,o+k*14,none⟩=some (.int .i64 l[k].kind):=hat.head;have q1:w.cell? ⟨b,o+k*14+1,none⟩=some (.string l[k].name):=hat.nth 1 rfl;have hc':=hc l[k].name;rw[g_,a_ hlt];clear hat hd hri hS0 hS1 hS2 hS3 hc hS';dsimp only;have qin:inR (k:Int) 0 ((l.length:Int) - 1)=true:=by unfold inR;simp;omega
   cases e1:(l[k].kind !=1)with
   | false=>
     clear hc'
     go_enter Tryz.func66,Tryz.ntmps66
     go_wp2_with (go_at_call 25;refine(uY _ _ _ _).mono ?_;rintro e w' ⟨rfl,rfl⟩)
     go_ret
     exact⟨rfl,c_ _ _⟩
   | true=>
     rw[Bool.true_and];rw[Yx];generalize oC (bg l l[k].name l.length)=rv at*;cases e2:(rv== -2)with
     | true=>
       go_enter Tryz.func66,Tryz.ntmps66
       go_wp2_with (first|(go_at_call 25;refine(uY _ _ _ _).mono ?_;rintro e w' ⟨rfl,rfl⟩)|(go_at_call 53;refine hc'.mono ?_;rintro e w1 ⟨rfl,hb⟩))
       go_ret
       exact⟨rfl,hb⟩
     | false=>
       go_enter Tryz.func66,Tryz.ntmps66
       go_wp2_with (first|(go_at_call 25;refine(uY _ _ _ _).mono ?_;rintro e w' ⟨rfl,rfl⟩)|(go_at_call 53;refine hc'.mono ?_;rintro e w1 ⟨rfl,hb⟩))
       go_ret
       exact⟨rfl,hb⟩
  ·have hnone:l[i.toNat]? =none:=h_ (by omega);rw[hnone];clear hc hS';have qin:inR i 0 ((l.length:Int) - 1)=false:=by unfold inR;simp;omega
   go_enter Tryz.func66,Tryz.ntmps66
   go_wp2_with (go_at_call 25;refine(uY _ _ _ _).mono ?_;rintro e w' ⟨rfl,rfl⟩)
   go_ret
   exact⟨rfl,c_ _ _⟩
 ·rw[if_neg h0];clear hc hS';have qin:inR i 0 ((l.length:Int) - 1)=false:=by unfold inR;simp;omega
  go_enter Tryz.func66,Tryz.ntmps66
  go_wp2_with (go_at_call 25;refine(uY _ _ _ _).mono ?_;rintro e w' ⟨rfl,rfl⟩)
  go_ret
  exact⟨rfl,c_ _ _⟩
theorem zM.tos{w w':World}{l:List Int}{v:Value}(h:zM w' w.heap.size l v)(hb:Below w.heap.size w w'):kS (l.map li) w (.returned v) w':=
 ⟨v.ownBlock.toList,v,rfl,h.sl,by have:=aV.of_own h aV.nil (fun g _=>by simp);rwa[q_]at this,hb⟩
theorem wS.tos{l:List GPart}{nm:ByteArray}{w w':World}{e:Ending}(h:wS l nm w e w'):kS ((bg l nm l.length).map li) w e w':=by
 obtain⟨v,rfl,ho,hb⟩:=h;exact ho.tos hb
theorem yU(l:List GPart)(nm:ByteArray)(fp:List Nat)(v:Value)(w:World)(hS:Sl w (l.map GPart.toD) fp v)(hn:l.length≤1048576):Calls Tryz.prog 60 #[v,.string nm] w (XL (.int .i64 (oC (bg l nm l.length))) w):=by
 have hc:=xE l nm fp v w hS hn;have hle:=d_ (pO l nm l.length);unfold wS at hc;generalize bg l nm l.length=D at*;obtain⟨A,c,rfl,_,_⟩:=hS.au;clear hS
 go_enter Tryz.func60,Tryz.ntmps60
 go_wp2_with fail
 refine hc.mono ?_;rintro e w1 ⟨v1,rfl,ho,hb⟩;have hsl:=ho.sl;obtain⟨A1,c1,rfl,_,_⟩:=hsl.au
 match D,ho,hsl,hle with
 | [],ho,hsl,hle=>
   clear ho hsl hle
   go_wp2_with fail
   go_ret
   exact⟨rfl,hb⟩
 | [x],ho,hsl,hle=>
   obtain⟨b,o,fi,ci,rfl,hbb,hbf,hri,hfi,hat⟩:=hsl.elem uV (k:=0) (d:=li x) rfl;obtain⟨rfl,rfl⟩:=hri;have q0:w1.cell? ⟨b,o,none⟩=some (.int .i64 x):=by simpa using hat.head
   clear hat ho hsl hle
   go_wp2_with fail
   go_ret
   exact⟨rfl,hb⟩
 | x::y::r,ho,hsl,hle=>
   have hl:(x::y::r).length≤1048576:=u_ hle.out hn;rw[e_,e_]at hl;clear ho hsl hle
   go_wp2_with fail
   go_ret
   exact⟨rfl,hb⟩
end
section
open List renaming getElem?_eq_getElem→a_,length_cons→e_,getElem?_map→f_,getElem?_eq_none→h_,length_map→k_,map_cons→n_,length_append→o_,map_nil→p_,append_nil→q_,length_nil→r_,mem_append→s_
open Nat renaming le_refl→b_,le_trans→u_
open Below renaming refl→c_,grown→w_
open Lib renaming hid→d_
open Int renaming toNat_natCast→g_,eq_ofNat_of_zero_le→i_
open Value renaming int→j_,ownBlock→l_
attribute [local irreducible] sw sd sn
def rM(k:Int):GVal:= .mk 6 k 0 ⟨#[]⟩ [] [] []
theorem V7{P:Program}{f:Nat}{ds:List D}{k:Int}(h:aB P f ds (.c true [.raw (.int .i64 6),.raw (.int .i64 k),.raw (.int .i64 0),.raw (.string ⟨#[]⟩),.raw (.slice none 0 0),.raw (.slice none 0 0),.raw (.slice none 0 0)])):aB P f ds (.c true ((rM k).toD.acs true)):=by
 rw[GVal.aF];refine fun w vs hr ht=>(h w vs hr ht).mono fun en w' ⟨v,h1,h2,h3⟩=>⟨v,h1, ?_,h3⟩
 obtain⟨us,rfl,h4⟩:=h2;have h5:Oks (jA w.heap.size) [] w' [.raw (.int .i64 6),.raw (.int .i64 k),.raw (.int .i64 0),.raw (.string ⟨#[]⟩),.raw (.slice none 0 0),.raw (.slice none 0 0),.raw (.slice none 0 0)] us:=h4
 match us,h5 with
 | [u0,u1,u2,u3,u4,u5,u6],⟨k0,k1,k2,k3,k4,k5,k6,_⟩=>
   obtain rfl:u4= .slice none 0 0:=k4;obtain rfl:u5= .slice none 0 0:=k5;obtain rfl:u6= .slice none 0 0:=k6;have hnil:∃fp,Sl w' [] fp (.slice none 0 0)∧∀b∈fp,b∉(jA w.heap.size).M∧(true=true→(jA w.heap.size).nw b):=⟨[],by unfold Sl;rw[R];exact⟨none,0,rfl,b_ _,Nat.zero_le _,Or.inl ⟨rfl,rfl⟩⟩,fun b hb=>by simp at hb⟩
   exact⟨_,rfl,k0,k1,k2,k3,hnil,hnil,hnil,trivial⟩
theorem V6{P:Program}{f:Nat}{ds:List D}{a b c d:Value}{e0 s0 e1 s1 e2 s2:Nat}(h:aB P f ds (.c true [.raw a,.raw b,.raw c,.raw d,.raw (.slice none 0 0),.raw (.slice none 0 0),.raw (.slice none 0 0)])):
 dX P f ds (.c true [.raw a,.raw b,.raw c,.raw d,.own 0 0,.own 1 0,.own 2 0]) [⟨[],e0,s0,0,⟨true,true⟩⟩,⟨[],e1,s1,0,⟨true,true⟩⟩,⟨[],e2,s2,0,⟨true,true⟩⟩]:=fun w vs hr ht=>(h w vs hr ht).mono fun en w' ⟨v,h1,h2,h3⟩=>by
 obtain⟨us,rfl,h4⟩:=h2;have h5:Oks (jA w.heap.size) [] w' [.raw a,.raw b,.raw c,.raw d,.raw (.slice none 0 0),.raw (.slice none 0 0),.raw (.slice none 0 0)] us:=h4
 match us,h5 with
 | [u0,u1,u2,u3,u4,u5,u6],⟨k0,k1,k2,k3,k4,k5,k6,_⟩=>
   obtain rfl:u0=a:=k0;obtain rfl:u1=b:=k1;obtain rfl:u2=c:=k2;obtain rfl:u3=d:=k3;obtain rfl:u4= .slice none 0 0:=k4;obtain rfl:u5= .slice none 0 0:=k5;obtain rfl:u6= .slice none 0 0:=k6;have one:∀(k:Nat) (o:Own) (p:Value×List Nat),([⟨[],e0,s0,0,⟨true,true⟩⟩,⟨[],e1,s1,0,⟨true,true⟩⟩,⟨[],e2,s2,0,⟨true,true⟩⟩]:List Own)[k]? =some o→([(.slice none 0 0,[]),(.slice none 0 0,[]),(.slice none 0 0,[])]:List (Value×List Nat))[k]? =some p→o.l= []∧p=(.slice none 0 0,[]):=fun k o p hk hp=>by
    match k,hk,hp with
    |0,hk,hp=>simp at hk hp;subst hk hp;exact⟨rfl,rfl⟩
    |1,hk,hp=>simp at hk hp;subst hk hp;exact⟨rfl,rfl⟩
    |2,hk,hp=>simp at hk hp;subst hk hp;exact⟨rfl,rfl⟩
    |k+3,hk,hp=>simp at hk
   refine⟨_,[(.slice none 0 0,[]),(.slice none 0 0,[]),(.slice none 0 0,[])],h1,⟨rfl,fun k o p hk hp=> ?_,by simp[l_],⟨fun k o p hk hp _=> ?_,fun i j o o' p p' _ hi hj hp hp' _ _ b hb=> ?_⟩,fun k o p hk hp _ b hb=> ?_⟩,⟨_,rfl,rfl,rfl,rfl,rfl, ?_, ?_, ?_,trivial⟩,h3⟩
   ·obtain⟨h8,rfl⟩:=one k o p hk hp;rw[h8];exact⟨[],aK.nil,⟨rfl,rfl⟩,fun d hd=>by simp at hd,fun b hb=>by simp at hb⟩
   ·obtain⟨_,rfl⟩:=one k o p hk hp;exact List.nodup_nil
   ·obtain⟨_,rfl⟩:=one i o p hi hp;simp at hb
   ·obtain⟨_,rfl⟩:=one k o p hk hp;simp at hb
   ·exact⟨⟨none,0,0,rfl⟩,_,_,rfl,rfl,b_ _,fun _=>rfl⟩
   ·exact⟨⟨none,0,0,rfl⟩,_,_,rfl,rfl,b_ _,fun _=>rfl⟩
   ·exact⟨⟨none,0,0,rfl⟩,_,_,rfl,rfl,b_ _,fun _=>rfl⟩
def vw :IC:=(zd_ [zz_ 2 (.alloc [(.int .i64 0),(.int .i64 0),(.int .i64 0),(.string ⟨#[]⟩),(.slice none 0 0),(.slice none 0 0),(.slice none 0 0)])] (zd_ [zw_ 3 0,zz_ 4 (.bld [(.int .i64 0),(.int .i64 0),(.int .i64 0),(.string ⟨#[]⟩),(.slice none 0 0),(.slice none 0 0),(.slice none 0 0)] [(0,1,(.k (.int .i64 6))),(1,1,(.t 3))]),⟨none,none,.store 7 (.t 2) (.t 4)⟩] .ret))
theorem zh :ak Tryz.prog (Tryz.f54.body.getD .skip)=some vw:=by kernel_rfl
theorem jg(k:Int):aB Tryz.prog 54 [li k] (.c true [.raw (.int .i64 6),.raw (.int .i64 k),.raw (.int .i64 0),.raw (.string ⟨#[]⟩),.raw (.slice none 0 0),.raw (.slice none 0 0),.raw (.slice none 0 0)]):=by
 refine iU (fn:=Tryz.f54) (t:=2) (ty:=42) (hc:=zh) (h:= ?_);unfold vw;refine zb_ ?_;change AWP _ _ _ (st0 5 _);refine sS trivial ?_
 repeat' (first|(refine rg_ ?_;intro K hK)|(refine hq_ ?_;clear hK K)|refine ca_ ?_ ?_|refine sz_ trivial ?_|refine nv ?_|(refine c2_ ?_ ?_<;>(intro hb hb';try(exfalso;omega)))|exact bq_|fail)
 exact aU ⟨0,_,rfl,rfl,by simp[aS,bM]⟩
theorem nO(l:List GPart)(s:ByteArray)(hn:l.length≤1048576):aB Tryz.prog 53 [.sl (l.map GPart.toD),ls s] (.c false [.raw (.int .i64 (oC (bg l s l.length)))]):=vV fun w vs hr=>by
 obtain⟨v,u,rfl,h1,h2⟩:=Ll hr;obtain⟨fp,hS⟩:=uQ h1;obtain rfl:=qg h2;exact sG l s fp v w hS hn
def vC :IC:=(zd_ [zz_ 2 (.alloc [(.int .i64 0),(.int .i64 0),(.int .i64 0),(.string ⟨#[]⟩),(.slice none 0 0),(.slice none 0 0),(.slice none 0 0)])] (zd_ [zw_ 3 0,zz_ 4 (.bld [(.int .i64 0),(.int .i64 0),(.int .i64 0),(.string ⟨#[]⟩),(.slice none 0 0),(.slice none 0 0),(.slice none 0 0)] [(0,1,(.k (.int .i64 6))),(1,1,(.t 3))]),⟨none,none,.store 7 (.t 2) (.t 4)⟩] .ret))
theorem zi :ak Tryz.prog (Tryz.f44.body.getD .skip)=some vC:=by kernel_rfl
theorem jh(k:Int):aB Tryz.prog 44 [li k] (.c true [.raw (.int .i64 6),.raw (.int .i64 k),.raw (.int .i64 0),.raw (.string ⟨#[]⟩),.raw (.slice none 0 0),.raw (.slice none 0 0),.raw (.slice none 0 0)]):=by
 refine iU (fn:=Tryz.f44) (t:=2) (ty:=42) (hc:=zi) (h:= ?_);unfold vC;refine zb_ ?_;change AWP _ _ _ (st0 5 _);refine sS trivial ?_
 repeat' (first|(refine rg_ ?_;intro K hK)|(refine hq_ ?_;clear hK K)|refine ca_ ?_ ?_|refine sz_ trivial ?_|refine nv ?_|(refine c2_ ?_ ?_<;>(intro hb hb';try(exfalso;omega)))|exact bq_|fail)
 exact aU ⟨0,_,rfl,rfl,by simp[aS,bM]⟩
theorem nP(l:List GPart)(s:ByteArray)(hn:l.length≤1048576):aB Tryz.prog 60 [.sl (l.map GPart.toD),ls s] (.c false [.raw (.int .i64 (oC (bg l s l.length)))]):=vV fun w vs hr=>by
 obtain⟨v,u,rfl,h1,h2⟩:=Ll hr;obtain⟨fp,hS⟩:=uQ h1;obtain rfl:=qg h2;exact yU l s fp v w hS hn
theorem Fh(l:List GPart)(nm:ByteArray):∀(k:Nat),∀z∈bg l nm k,∃n:Nat,z=(n:Int)
 |0,z,h=>by simp[bg]at h
 | k +1,z,h=>by
   rw[bg,s_]at h;rcases h with h|h
   ·exact Fh l nm k z h
   ·split at h
    ·split at h
     ·rw[List.mem_singleton]at h;exact⟨k,h⟩
     ·simp at h
    ·simp at h
def lX(l:List GPart)(vs:List GVal)(s:ByteArray):GVal:=match bg l s l.length with
 | []=>rM 1
 | [z]=>(match vs[z.toNat]? with|some v=>v|none=>rM 1)
 |_=>rM 2
theorem I7{l:List GVal}{k:Nat}(h:k<l.length)(hw:D.wts (l.map GVal.toD)≤1048576):l[k].toD.wt≤1048576:=by
 have h1:=D.l9 (List.mem_map_of_mem (f:=GVal.toD) (List.getElem_mem h));omega
theorem uS(l:List GPart)(vs:List GVal)(s:ByteArray):(∃z:Int,z=oC (bg l s l.length)∧(z== -2)=true∧lX l vs s=rM 2)∨
 (∃z:Int,z=oC (bg l s l.length)∧(z== -2)=false∧(z== -1)=true∧decide (z<0)=true∧lX l vs s=rM 1)∨
 ∃k:Nat,(k:Int)=oC (bg l s l.length)∧((k:Int)== -2)=false∧((k:Int)== -1)=false∧decide ((k:Int)<0)=false∧
  ((decide ((k:Int)≥(vs.length:Int))=true∧lX l vs s=rM 1)∨(∃h:k<vs.length,decide ((k:Int)≥(vs.length:Int))=false∧lX l vs s=vs[k])):=by
 have hnat:=Fh l s l.length;unfold lX
 revert hnat
 generalize bg l s l.length=q;intro hnat
 match q with
 | []=>exact Or.inr (Or.inl ⟨-1,rfl,rfl,rfl,rfl,rfl⟩)
 | [z]=>
   obtain⟨k,rfl⟩:=hnat z (by simp);refine Or.inr (Or.inr ⟨k,rfl, ?_, ?_, ?_, ?_⟩)
   ·rw[beq_eq_false_iff_ne];omega
   ·rw[beq_eq_false_iff_ne];omega
   ·rw[decide_eq_false_iff_not];omega
   ·by_cases h:k<vs.length
    ·refine Or.inr ⟨h, ?_, ?_⟩
     ·rw[decide_eq_false_iff_not];omega
     ·simp only[g_,a_ h]
    ·refine Or.inl ⟨?_, ?_⟩
     ·rw[decide_eq_true_eq];omega
     ·simp only[g_,h_ (by omega:vs.length≤k)]
 |_::_::_=>exact Or.inl ⟨-2,rfl,rfl,rfl⟩
def kZ :IC:=(zd_ [zz_ 6 (.alloc [(.int .i64 0),(.int .i64 0),(.int .i64 0),(.string ⟨#[]⟩),(.slice none 0 0),(.slice none 0 0),(.slice none 0 0)])] (zd_ [zw_ 8 0,zw_ 9 2,zp_ 10 53 8 9,zw_ 7 10] (.seq (.block 0 (zd_ [zw_ 12 7,zm_ 13 .eql 12 (-2),zw_ 11 13] (.cond (.t 11) (zd_ [zz_ 14 (.call 54 [(.k (.int .i64 2))]),⟨none,none,.store 7 (.t 6) (.t 14)⟩] .ret) (zd_ [zw_ 16 7,zm_ 17 .eql 16 (-1),zw_ 18 17,zu_ 19 18 7,zu_ 20 18 1,zx_ 21 18 (.len false (.t 20)),zx_ 22 18 (.bin .geq (.t 19) (.t 21)),zg_ 23 18 true 22,zw_ 15 23] (.cond (.t 15) (zd_ [zz_ 24 (.call 54 [(.k (.int .i64 1))]),⟨none,none,.store 7 (.t 6) (.t 24)⟩] .ret) .skip))))) (zd_ [zw_ 25 1,zw_ 26 7,ze_ 27 7 25 26,zr_ 28 7 27,zq_ 29 55 28,⟨none,none,.store 7 (.t 6) (.t 29)⟩] .ret))))
theorem kN :ak Tryz.prog (Tryz.f27.body.getD .skip)=some kZ:=by kernel_rfl
theorem Eo(l:List GPart)(vs:List GVal)(s:ByteArray)(hn:l.length≤1048576)(hnv:vs.length≤1048576){z:Int}(hk:z=oC (bg l s l.length))(hz1:(z== -2)=true):aB Tryz.prog 27 [.sl (l.map GPart.toD),.sl (vs.map GVal.toD),ls s] (.c true [.raw (.int .i64 6),.raw (.int .i64 2),.raw (.int .i64 0),.raw (.string ⟨#[]⟩),.raw (.slice none 0 0),.raw (.slice none 0 0),.raw (.slice none 0 0)]):=by
 have hres:=nO l s hn;rw[← hk]at hres;refine iU (fn:=Tryz.f27) (t:=6) (ty:=42) (hc:=kN) (h:= ?_);unfold kZ;refine zb_ ?_;change AWP _ _ _ (st0 30 _);refine sS trivial ?_;have he:=jg 2
 repeat' (first|(refine rg_ ?_;intro K hK)|(refine hq_ ?_;clear hK K)|refine ca_ ?_ ?_|refine gq_ ?_|(refine c2_ ?_ ?_<;>(intro hb hb';try(exfalso;omega)))|(refine cg_ ?_;first|refine cT_ hres ?_|refine cT_ he ?_)|refine sz_ hz1 ?_|refine nv ?_|exact bq_|fail)
 exact aU ⟨0,_,rfl,rfl,by simp[aS,bM]⟩
theorem Em(l:List GPart)(vs:List GVal)(s:ByteArray)(hn:l.length≤1048576)(hnv:vs.length≤1048576){z:Int}(hk:z=oC (bg l s l.length))(hz1:(z== -2)=false)(hz2:(z== -1)=true)(hz3:decide (z<0)=true):aB Tryz.prog 27 [.sl (l.map GPart.toD),.sl (vs.map GVal.toD),ls s] (.c true [.raw (.int .i64 6),.raw (.int .i64 1),.raw (.int .i64 0),.raw (.string ⟨#[]⟩),.raw (.slice none 0 0),.raw (.slice none 0 0),.raw (.slice none 0 0)]):=by
 have hres:=nO l s hn;rw[← hk]at hres;refine iU (fn:=Tryz.f27) (t:=6) (ty:=42) (hc:=kN) (h:= ?_);unfold kZ;refine zb_ ?_;change AWP _ _ _ (st0 30 _);refine sS trivial ?_;have he:=jg 1
 repeat' (first|(refine rg_ ?_;intro K hK)|(refine hq_ ?_;clear hK K)|refine ca_ ?_ ?_|refine gq_ ?_|(refine c2_ ?_ ?_<;>(intro hb hb';try(exfalso;omega)))|(refine cg_ ?_;first|refine cT_ hres ?_|refine cT_ he ?_)|refine sz_ (a3_ hz1 hz2 hz3) ?_|refine nv ?_|exact bq_|fail)
 exact aU ⟨0,_,rfl,rfl,by simp[aS,bM]⟩
theorem En(l:List GPart)(vs:List GVal)(s:ByteArray)(hn:l.length≤1048576)(hnv:vs.length≤1048576){k:Nat}(hk:(k:Int)=oC (bg l s l.length))(hz1:((k:Int)== -2)=false)(hz2:((k:Int)== -1)=false)(hz3:decide ((k:Int)<0)=false)(hz4:decide ((k:Int)≥(vs.length:Int))=true):aB Tryz.prog 27 [.sl (l.map GPart.toD),.sl (vs.map GVal.toD),ls s] (.c true [.raw (.int .i64 6),.raw (.int .i64 1),.raw (.int .i64 0),.raw (.string ⟨#[]⟩),.raw (.slice none 0 0),.raw (.slice none 0 0),.raw (.slice none 0 0)]):=by
 have hres:=nO l s hn;rw[← hk]at hres;refine iU (fn:=Tryz.f27) (t:=6) (ty:=42) (hc:=kN) (h:= ?_);unfold kZ;refine zb_ ?_;change AWP _ _ _ (st0 30 _);refine sS trivial ?_;have he:=jg 1
 repeat' (first|(refine rg_ ?_;intro K hK)|(refine hq_ ?_;clear hK K)|refine ca_ ?_ ?_|refine gq_ ?_|(refine c2_ ?_ ?_<;>(intro hb hb';try(exfalso;omega)))|(refine cg_ ?_;first|refine cT_ hres ?_|refine cT_ he ?_)|refine sz_ (a4_ hz1 hz2 hz3 hz4) ?_|refine nv ?_|exact bq_|fail)
 exact aU ⟨0,_,rfl,rfl,by simp[aS,bM]⟩
theorem Ej(l:List GPart)(vs:List GVal)(s:ByteArray)(hn:l.length≤1048576)(hnv:vs.length≤1048576)(hw:D.wts (vs.map GVal.toD)≤1048576){k:Nat}(h:k<vs.length)(hk:(k:Int)=oC (bg l s l.length))(hz1:((k:Int)== -2)=false)(hz2:((k:Int)== -1)=false)(hz3:decide ((k:Int)<0)=false)(hz4:decide ((k:Int)≥(vs.length:Int))=false):aB Tryz.prog 27 [.sl (l.map GPart.toD),.sl (vs.map GVal.toD),ls s] (.c true (vs[k].toD.acs true)):=by
 have hres:=nO l s hn;rw[← hk]at hres;rw[GVal.aF];refine iU (fn:=Tryz.f27) (t:=6) (ty:=42) (hc:=kN) (h:= ?_);unfold kZ;refine zb_ ?_;change AWP _ _ _ (st0 30 _);refine sS trivial ?_;have hc:=qA vs[k] (I7 h hw);rw[GVal.aF]at hc;have hg:=dh GVal.toD vs h
 repeat' (first|(refine rg_ ?_;intro K hK)|(refine hq_ ?_;clear hK K)|refine ca_ ?_ ?_|refine gq_ ?_|(refine c2_ ?_ ?_<;>(intro hb hb';try(exfalso;omega)))|(refine cg_ ?_;first|refine cT_ hres ?_|refine cT_ hc ?_)|refine sz_ (a5_ hz1 hz2 hz3 hz4 hg) ?_|refine nv ?_|(exact GVal.el _)|exact bq_|fail)
 all_goals first
  |(simp only[k_];omega)
  |exact aU ⟨0,_,rfl,rfl,by simp[aS,bM]⟩
def lg :IC:=(zd_ [zz_ 6 (.alloc [(.int .i64 0),(.int .i64 0),(.int .i64 0),(.string ⟨#[]⟩),(.slice none 0 0),(.slice none 0 0),(.slice none 0 0)])] (zd_ [zw_ 8 0,zw_ 9 2,zp_ 10 60 8 9,zw_ 7 10] (.seq (.block 0 (zd_ [zw_ 12 7,zm_ 13 .eql 12 (-2),zw_ 11 13] (.cond (.t 11) (zd_ [zz_ 14 (.call 44 [(.k (.int .i64 2))]),⟨none,none,.store 7 (.t 6) (.t 14)⟩] .ret) (zd_ [zw_ 16 7,zm_ 17 .lss 16 0,zw_ 18 17,zu_ 19 18 7,zu_ 20 18 1,zx_ 21 18 (.len false (.t 20)),zx_ 22 18 (.bin .geq (.t 19) (.t 21)),zg_ 23 18 true 22,zw_ 15 23] (.cond (.t 15) (zd_ [zz_ 24 (.call 44 [(.k (.int .i64 1))]),⟨none,none,.store 7 (.t 6) (.t 24)⟩] .ret) .skip))))) (zd_ [zw_ 25 1,zw_ 26 7,ze_ 27 7 25 26,zr_ 28 7 27,zq_ 29 45 28,⟨none,none,.store 7 (.t 6) (.t 29)⟩] .ret))))
theorem kP :ak Tryz.prog (Tryz.f31.body.getD .skip)=some lg:=by kernel_rfl
theorem Eu(l:List GPart)(vs:List GVal)(s:ByteArray)(hn:l.length≤1048576)(hnv:vs.length≤1048576){z:Int}(hk:z=oC (bg l s l.length))(hz1:(z== -2)=true):aB Tryz.prog 31 [.sl (l.map GPart.toD),.sl (vs.map GVal.toD),ls s] (.c true [.raw (.int .i64 6),.raw (.int .i64 2),.raw (.int .i64 0),.raw (.string ⟨#[]⟩),.raw (.slice none 0 0),.raw (.slice none 0 0),.raw (.slice none 0 0)]):=by
 have hres:=nP l s hn;rw[← hk]at hres;refine iU (fn:=Tryz.f31) (t:=6) (ty:=42) (hc:=kP) (h:= ?_);unfold lg;refine zb_ ?_;change AWP _ _ _ (st0 30 _);refine sS trivial ?_;have he:=jh 2
 repeat' (first|(refine rg_ ?_;intro K hK)|(refine hq_ ?_;clear hK K)|refine ca_ ?_ ?_|refine gq_ ?_|(refine c2_ ?_ ?_<;>(intro hb hb';try(exfalso;omega)))|(refine cg_ ?_;first|refine cT_ hres ?_|refine cT_ he ?_)|refine sz_ hz1 ?_|refine nv ?_|exact bq_|fail)
 exact aU ⟨0,_,rfl,rfl,by simp[aS,bM]⟩
theorem Es(l:List GPart)(vs:List GVal)(s:ByteArray)(hn:l.length≤1048576)(hnv:vs.length≤1048576){z:Int}(hk:z=oC (bg l s l.length))(hz1:(z== -2)=false)(hz2:(z== -1)=true)(hz3:decide (z<0)=true):aB Tryz.prog 31 [.sl (l.map GPart.toD),.sl (vs.map GVal.toD),ls s] (.c true [.raw (.int .i64 6),.raw (.int .i64 1),.raw (.int .i64 0),.raw (.string ⟨#[]⟩),.raw (.slice none 0 0),.raw (.slice none 0 0),.raw (.slice none 0 0)]):=by
 have hres:=nP l s hn;rw[← hk]at hres;refine iU (fn:=Tryz.f31) (t:=6) (ty:=42) (hc:=kP) (h:= ?_);unfold lg;refine zb_ ?_;change AWP _ _ _ (st0 30 _);refine sS trivial ?_;have he:=jh 1
 repeat' (first|(refine rg_ ?_;intro K hK)|(refine hq_ ?_;clear hK K)|refine ca_ ?_ ?_|refine gq_ ?_|(refine c2_ ?_ ?_<;>(intro hb hb';try(exfalso;omega)))|(refine cg_ ?_;first|refine cT_ hres ?_|refine cT_ he ?_)|refine sz_ (a3_ hz1 hz2 hz3) ?_|refine nv ?_|exact bq_|fail)
 exact aU ⟨0,_,rfl,rfl,by simp[aS,bM]⟩
theorem Et(l:List GPart)(vs:List GVal)(s:ByteArray)(hn:l.length≤1048576)(hnv:vs.length≤1048576){k:Nat}(hk:(k:Int)=oC (bg l s l.length))(hz1:((k:Int)== -2)=false)(hz2:((k:Int)== -1)=false)(hz3:decide ((k:Int)<0)=false)(hz4:decide ((k:Int)≥(vs.length:Int))=true):aB Tryz.prog 31 [.sl (l.map GPart.toD),.sl (vs.map GVal.toD),ls s] (.c true [.raw (.int .i64 6),.raw (.int .i64 1),.raw (.int .i64 0),.raw (.string ⟨#[]⟩),.raw (.slice none 0 0),.raw (.slice none 0 0),.raw (.slice none 0 0)]):=by
 have hres:=nP l s hn;rw[← hk]at hres;refine iU (fn:=Tryz.f31) (t:=6) (ty:=42) (hc:=kP) (h:= ?_);unfold lg;refine zb_ ?_;change AWP _ _ _ (st0 30 _);refine sS trivial ?_;have he:=jh 1
 repeat' (first|(refine rg_ ?_;intro K hK)|(refine hq_ ?_;clear hK K)|refine ca_ ?_ ?_|refine gq_ ?_|(refine c2_ ?_ ?_<;>(intro hb hb';try(exfalso;omega)))|(refine cg_ ?_;first|refine cT_ hres ?_|refine cT_ he ?_)|refine sz_ (a4_ hz1 hz2 hz3 hz4) ?_|refine nv ?_|exact bq_|fail)
 exact aU ⟨0,_,rfl,rfl,by simp[aS,bM]⟩
theorem Ep(l:List GPart)(vs:List GVal)(s:ByteArray)(hn:l.length≤1048576)(hnv:vs.length≤1048576)(hw:D.wts (vs.map GVal.toD)≤1048576){k:Nat}(h:k<vs.length)(hk:(k:Int)=oC (bg l s l.length))(hz1:((k:Int)== -2)=false)(hz2:((k:Int)== -1)=false)(hz3:decide ((k:Int)<0)=false)(hz4:decide ((k:Int)≥(vs.length:Int))=false):dX Tryz.prog 31 [.sl (l.map GPart.toD),.sl (vs.map GVal.toD),ls s] (.c true [.raw (.int .i64 vs[k].kind),.raw (.int .i64 vs[k].n),.raw (.int .i64 vs[k].step),.raw (.string vs[k].text),.own 0 0,.own 1 0,.own 2 0]) [⟨vs[k].list.map GVal.toD,42,7,0,⟨true,true⟩⟩,⟨vs[k].cols.map ls,9,1,0,⟨true,true⟩⟩,⟨vs[k].rows.map GRow.toD,95,2,0,⟨true,true⟩⟩]:=by
 have hres:=nP l s hn;rw[← hk]at hres;refine qE (fn:=Tryz.f31) (r:= .cell 6 42) (hc:=kP) (h:= ?_);unfold lg;refine zb_ ?_;change AWP _ _ _ (st0 30 _);refine sS trivial ?_;have hc:=BP vs[k] (I7 h hw);have hg:=dh GVal.toD vs h
 repeat' (first|(refine rg_ ?_;intro K hK)|(refine hq_ ?_;clear hK K)|refine ca_ ?_ ?_|refine gq_ ?_|(refine c2_ ?_ ?_<;>(intro hb hb';try(exfalso;omega)))|(refine cg_ ?_;first|refine cT_ hres ?_|(refine rQ hc rfl (by simp) ?_ ?_))|refine sz_ (a6_ hz1 hz2 hz3 hz4 hg @fA.eq_1) ?_|refine nv ?_|(exact GVal.el _)|exact bq_|fail)
 all_goals first
  |(simp only[k_];omega)
  |exact aU ⟨[0,1,2],by simp,⟨⟨_,rfl,rfl,Or.inl ⟨rfl,rfl⟩⟩,⟨_,rfl,rfl,Or.inl ⟨rfl,rfl⟩⟩,⟨_,rfl,rfl,Or.inl ⟨rfl,rfl⟩⟩,trivial⟩,⟨0,_,rfl,rfl,by simp[kE,qJ]⟩⟩
theorem Jz(l:List GPart)(vs:List GVal)(s:ByteArray)(hn:l.length≤1048576)(hnv:vs.length≤1048576)(hw:D.wts (vs.map GVal.toD)≤1048576):dX Tryz.prog 31 [.sl (l.map GPart.toD),.sl (vs.map GVal.toD),ls s] (.c true [.raw (.int .i64 (lX l vs s).kind),.raw (.int .i64 (lX l vs s).n),.raw (.int .i64 (lX l vs s).step),.raw (.string (lX l vs s).text),.own 0 0,.own 1 0,.own 2 0]) [⟨(lX l vs s).list.map GVal.toD,42,7,0,⟨true,true⟩⟩,⟨(lX l vs s).cols.map ls,9,1,0,⟨true,true⟩⟩,⟨(lX l vs s).rows.map GRow.toD,95,2,0,⟨true,true⟩⟩]:=by
 rcases uS l vs s with⟨z,h1,h2,h3⟩|⟨z,h1,h2,h3,h4,h5⟩|⟨k,h1,h2,h3,h4,⟨h5,h6⟩|⟨h,h5,h6⟩⟩
 ·rw[h3];exact V6 (Eu l vs s hn hnv h1 h2)
 ·rw[h5];exact V6 (Es l vs s hn hnv h1 h2 h3 h4)
 ·rw[h6];exact V6 (Et l vs s hn hnv h1 h2 h3 h4 h5)
 ·rw[h6];exact Ep l vs s hn hnv hw h h1 h2 h3 h4 h5
theorem Gu(l:List GPart)(vs:List GVal)(s:ByteArray)(hn:l.length≤1048576)(hnv:vs.length≤1048576)(hw:D.wts (vs.map GVal.toD)≤1048576):
 aB Tryz.prog 27 [.sl (l.map GPart.toD),.sl (vs.map GVal.toD),ls s] (.c true ((lX l vs s).toD.acs true)):=by
 rcases uS l vs s with⟨z,h1,h2,h3⟩|⟨z,h1,h2,h3,h4,h5⟩|⟨k,h1,h2,h3,h4,⟨h5,h6⟩|⟨h,h5,h6⟩⟩
 ·rw[h3];exact V7 (Eo l vs s hn hnv h1 h2)
 ·rw[h5];exact V7 (Em l vs s hn hnv h1 h2 h3 h4)
 ·rw[h6];exact V7 (En l vs s hn hnv h1 h2 h3 h4 h5)
 ·rw[h6];exact Ej l vs s hn hnv hw h h1 h2 h3 h4 h5
theorem I8(x:GVal)(h:x.toD.wt≤1048576):x.toD.acnt≤14680080:=by
 have:=D.RI x.toD;have:=D.cnt_le _ (x.thin);have:=GVal.sz_eq x;omega
theorem OJ(l:List GPart)(vs:List GVal)(s:ByteArray)(hw:D.wts (vs.map GVal.toD)≤1048576):(GVal.toD (lX l vs s)).acnt≤14680080:=by
 have he:∀k:Int,(rM k).toD.wt≤1048576:=fun k=>by
  have:=GVal.iW (rM k);simp[rM,GVal.text,GVal.list,GVal.cols,GVal.rows,D.wts,show(⟨#[]⟩:ByteArray).size=0 from rfl]at this;unfold rM;omega
 refine I8 _ ?_;rcases uS l vs s with⟨z,h1,h2,h3⟩|⟨z,h1,h2,h3,h4,h5⟩|⟨k,h1,h2,h3,h4,⟨h5,h6⟩|⟨h,h5,h6⟩⟩
 ·rw[h3];exact he 2
 ·rw[h5];exact he 1
 ·rw[h6];exact he 1
 ·rw[h6];exact I7 h hw
end
end Go.Proofs.YtagaefgglphkgaaGreat
