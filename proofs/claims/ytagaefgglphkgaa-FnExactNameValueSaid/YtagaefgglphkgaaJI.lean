/-
  Texts joined: Defs Defs2 Nv.
-/
import Derived.Test.YtagaefgglphkgaaJA
import Derived.Test.YtagaefgglphkgaaJH
set_option maxHeartbeats 8000000
set_option maxRecDepth 20000
set_option linter.unusedSimpArgs false
set_option linter.unusedVariables false
namespace Go.Proofs.Ytagaefgglphkgaa
open Go.RowKit
section
open Nat renaming le_refl→a_,le_trans→q_
open List renaming getElem?_eq_getElem→b_,length_cons→d_,length_map→g_,map_cons→j_,length_append→k_,map_nil→l_,getElem?_map→m_,append_nil→o_,length_nil→p_
open Lib renaming hid→c_
open Below renaming refl→e_,grown→s_
open Value renaming int→f_,ownBlock→h_
def tN(x:GPart)(nm:ByteArray):Bool:=(x.kind !=1) && decide (x.name=nm)
def bK(l:List GPart)(nm:ByteArray):Nat→List Int
 |0=> []
 |k+1=>bK l nm k++(match l[k]? with|some x=>if tN x nm then [(k:Int)]else []|none=> [])
theorem mX(l:List GPart)(nm:ByteArray):∀k,(bK l nm k).length≤k
 |0=>a_ _
 | k+1=>by
   have:=mX l nm k;rw[bK,k_];split
   ·split<;>simp<;>omega
   ·simp;omega
theorem wI(l:List GPart)(nm:ByteArray)(k:Nat)(h:k<l.length)(e:tN l[k] nm=false):bK l nm (k+1)=bK l nm k:=by
 rw[bK,b_ h];simp[e]
theorem zo(l:List GPart)(nm:ByteArray)(k:Nat)(h:k<l.length)(e:tN l[k] nm=true):bK l nm (k+1)=bK l nm k++ [(k:Int)]:=by
 rw[bK,b_ h];simp[e]
def uK(w:World)(base:Nat)(l:List Int)(v:Value):Prop:=w.ownsRow base 3 1 v l.length (l.map (f_ .i64))
theorem uJ{w:World}:∀{l:List Int} {fp:List Nat} {cs:List Value},Rs w (l.map li) fp cs↔fp= []∧cs=l.map (f_ .i64)
 | [],fp,cs=>by rw[l_,Rs];rfl
 | x::l,fp,cs=>by
   rw[j_,Rs];constructor
   ·rintro⟨f1,f2,c1,c2,rfl,rfl,⟨rfl,rfl⟩,h2⟩;obtain⟨rfl,rfl⟩:=uJ.1 h2;exact⟨rfl,rfl⟩
   ·rintro⟨rfl,rfl⟩;exact⟨[],[],[.int .i64 x],l.map (f_ .i64),rfl,rfl,⟨rfl,rfl⟩,uJ.2 ⟨rfl,rfl⟩⟩
theorem uK.sl{w:World}{base:Nat}{l:List Int}{v:Value}(h:uK w base l v):Sl w (l.map li) v.ownBlock.toList v:=by
 have h':w.ownsRow base 3 1 v (l.map li).length (l.map (f_ .i64)):=by rw[g_];exact h
 have:=Sl.of_own h' (uJ.2 ⟨rfl,rfl⟩);rwa[o_]at this
theorem Qv{l:List Int}:∀d∈l.map li,d.one:=fun d h=>by obtain⟨x,_,rfl⟩:=List.mem_map.1 h;rfl
theorem KG :(Try.prog.info? 3).map (fun i=>(i.zero,i.size,i.bytes))=some (some (.int .i64 0),1,8):=by kernel_rfl
theorem ni{w:World}{ops:Array Oper}{rest:List Oper}{o:Oper}{a:Act}{Q:Exit→Act→World→Prop}(hgd:o.guard=none)(s x:Operand)
 (ho:o.op= .call {callee:= .builtin .append,args:= #[s,x],argTypes:= #[108,108]})
 (base:Nat) (v:Value) (l0:List Int) (hs:a.eval s=v) (hown:uK w base l0 v) (g:Nat) (n:Int) (hx:a.eval x= .slice (some ⟨g,0,none⟩) 1 1) (hrow:Row w g 3 [.int .i64 n])
 (hn:l0.length+1≤2097152) (hbase:base≤w.heap.size)
 (h:∀v' w',uK w' base (l0++ [n]) v'→w.grownBy w' v.ownBlock→(v'.ownBlock=v.ownBlock∨v'.ownBlock=some w.heap.size)→wpList Try.prog ops Q rest (a.put o.dst v') w'):wpList Try.prog ops Q (o::rest) a w:=by
 obtain⟨i0,hi0,hz0,hz1,hz2⟩:=info_parts KG;have hsl:Sl w ([n].map li) [g] (.slice (some ⟨g,0,none⟩) 1 1):=Sl.mM hrow (uJ.2 ⟨rfl,rfl⟩) rfl (by unfold maxLen;omega);refine uT hgd s x _ ho base 3 i0 _ 1 8 Try.underlying108 hi0 hz0 hz1 hz2 rfl (by omega) v l0.length (l0.map (f_ .i64)) hs hown ([n].map li) [g] _ hx hsl Qv qg (by simp only[j_,l_,d_,p_];unfold maxLen;omega) (by simp only[j_,l_,d_,p_];omega) hbase ?_;intro v' w' fp' cs hr _ hown' hg hat;refine h v' w' ?_ hg hat;obtain⟨rfl,rfl⟩:=uJ.1 hr;unfold uK;rw[List.map_append,k_];exact hown'
theorem yE{w:World}{base:Nat}{e:TypeId}{s:Nat}{v:Value}{n:Nat}{xs:List Value}(h:w.ownsRow base e s v n xs){g:Nat}(hg:v.ownBlock=some g):base≤g:=by
 rcases h.2 with⟨rfl,_⟩|⟨g',cap,cur,rfl,hb,_⟩
 ·simp[h_]at hg
 ·simp[h_]at hg;omega
theorem uK.lit{w:World}{base g:Nat}(hg:w.heap.size=g)(hb:base≤g):uK (w.alloc (.cells #[] 3)) base [] (.slice (some ⟨g,0,none⟩) 0 0):=by
 subst hg;exact World.ownsRow_lit w #[] 0 hb (by simp) rfl
def ru(l:List GPart)(nm:ByteArray)(w:World)(e:Ending)(w':World):Prop:=∃v,e= .returned v∧uK w' w.heap.size (bK l nm l.length) v∧Below w.heap.size w w'
theorem wM{a b:ByteArray}(h:a.toList=b.toList):a=b:=by
 rw[ByteArray.toList_eq,ByteArray.toList_eq]at h;have:a.data=b.data:=Array.toList_inj.1 h;cases a;cases b;simp_all
theorem Ar(l:List GPart)(nm:ByteArray)(fp:List Nat)(v:Value)(w:World)(hS:Sl w (l.map GPart.toD) fp v)(hn:l.length≤1048576):Calls Try.prog 85 #[v,.string nm] w (ru l nm w):=by
 obtain⟨A,c,rfl,hl,hc⟩:=hS.ak;have hm:l.length≤9223372036854775807:=by omega
 have hn':=c_ hn;clear hl hc hn
 go_enter Try.func85,Try.ntmps85
 go_wp2_with fail
 go_loopw [5,11] (fun nv iv wr=>∃k:Nat,k≤l.length∧iv= .int .i64 k∧uK wr w.heap.size (bK l nm k) nv∧Below w.heap.size w wr) (fun _ iv _=>l.length - (intOf iv).toNat)
 case atStart=>exact⟨0,by omega,rfl,uK.lit rfl (a_ _),(e_ _ _).alloc (a_ _) _⟩
 case round=>
  obtain⟨k,hk,rfl,ho,hb⟩:=hrel;by_cases hlt:k<l.length
  ·have hd:(l.map GPart.toD)[k]? =some (GPart.toD l[k]):=by rw[m_,b_ hlt];rfl
   obtain⟨b,o,fi,ci,rfl,hbb,hbf,hri,hfi,hat⟩:=hS.elem GPart.szs hd;obtain⟨v0,v1,v2,v3,f0,f1,f2,f3,rfl,rfl,hS0,hS1,hS2,hS3⟩:=GPart.opened.1 hri;have hdl:=c_ (mX l nm k);have q0:wr.cell? ⟨b,o+k*14,none⟩=some (.int .i64 l[k].kind):=(hb.cell (p:=⟨b,o+k*14,none⟩) hbb).trans (hat.head);have q1:wr.cell? ⟨b,o+k*14+1,none⟩=some (.string l[k].name):=(hb.cell (p:=⟨b,o+k*14+1,none⟩) hbb).trans (hat.nth 1 rfl);have q2:wr.cell? ⟨b,o+k*14+2,none⟩=some (.int .i64 l[k].expr.kind):=(hb.cell (p:=⟨b,o+k*14+2,none⟩) hbb).trans (hat.nth 2 rfl);have q3:wr.cell? ⟨b,o+k*14+3,none⟩=some (.int .i64 l[k].expr.n):=(hb.cell (p:=⟨b,o+k*14+3,none⟩) hbb).trans (hat.nth 3 rfl);have q4:wr.cell? ⟨b,o+k*14+4,none⟩=some (.string l[k].expr.text):=(hb.cell (p:=⟨b,o+k*14+4,none⟩) hbb).trans (hat.nth 4 rfl);have q5:wr.cell? ⟨b,o+k*14+5,none⟩=some (v0):=(hb.cell (p:=⟨b,o+k*14+5,none⟩) hbb).trans (hat.nth 5 rfl);have q6:wr.cell? ⟨b,o+k*14+6,none⟩=some (.int .i64 l[k].value.kind):=(hb.cell (p:=⟨b,o+k*14+6,none⟩) hbb).trans (hat.nth 6 rfl);have q7:wr.cell? ⟨b,o+k*14+7,none⟩=some (.int .i64 l[k].value.n):=(hb.cell (p:=⟨b,o+k*14+7,none⟩) hbb).trans (hat.nth 7 rfl);have q8:wr.cell? ⟨b,o+k*14+8,none⟩=some (.int .i64 l[k].value.step):=(hb.cell (p:=⟨b,o+k*14+8,none⟩) hbb).trans (hat.nth 8 rfl);have q9:wr.cell? ⟨b,o+k*14+9,none⟩=some (.string l[k].value.text):=(hb.cell (p:=⟨b,o+k*14+9,none⟩) hbb).trans (hat.nth 9 rfl);have q10:wr.cell? ⟨b,o+k*14+10,none⟩=some (v1):=(hb.cell (p:=⟨b,o+k*14+10,none⟩) hbb).trans (hat.nth 10 rfl);have q11:wr.cell? ⟨b,o+k*14+11,none⟩=some (v2):=(hb.cell (p:=⟨b,o+k*14+11,none⟩) hbb).trans (hat.nth 11 rfl);have q12:wr.cell? ⟨b,o+k*14+12,none⟩=some (v3):=(hb.cell (p:=⟨b,o+k*14+12,none⟩) hbb).trans (hat.nth 12 rfl);have q13:wr.cell? ⟨b,o+k*14+13,none⟩=some (.int .i64 l[k].pos):=(hb.cell (p:=⟨b,o+k*14+13,none⟩) hbb).trans (hat.nth 13 rfl);obtain⟨B0,c0,rfl,_,_⟩:=hS0.ak;obtain⟨B1,c1,rfl,_,_⟩:=hS1.ak;obtain⟨B2,c2,rfl,_,_⟩:=hS2.ak;obtain⟨B3,c3,rfl,_,_⟩:=hS3.ak;clear hat hd hri hS0 hS1 hS2 hS3;have hskip:=c_ (wI l nm k hlt);have hhit:=c_ (zo l nm k hlt);cases e1:(l[k].kind !=1)with
   | false=>
     go_wp2_with fail
     go_roundw
     case rel=>exact⟨k+1,by omega,by go_num,by rw[hskip.out (by simp[tN,e1])];exact jJ ho ((e_ _ _).alloc (a_ _) _),hb.alloc hb.size _⟩
     case measure=>(simp[intOf]<;>omega)
   | true=>
     cases e2:(l[k].name.toList==nm.toList)with
     | false=>
       have e2':=c_ (show¬l[k].name=nm from fun e=>by simp[e]at e2)
       go_wp2_with fail
       go_roundw
       case rel=>exact⟨k+1,by omega,by go_num,by rw[hskip.out (by simp[tN,e1,e2'.out])];exact jJ ho ((e_ _ _).alloc (a_ _) _),hb.alloc hb.size _⟩
       case measure=>(simp[intOf]<;>omega)
     | true=>
       have e2':=c_ (show l[k].name=nm from wM (by simpa using e2))
       go_wp2_with (at_builtin;refine ni rfl _ _ rfl w.heap.size _ (bK l nm k) rfl ?h1 (wr.heap.size+1) (k:Int) ?hx ?h2 ?h3 ?h4 ?_;rotate_left 5;intro v1 w1 hown1 hg1 hat1;have hz1:=hg1.size)
       case hx=>rfl
       case h1=>exact jJ ho (((e_ _ _).alloc (a_ _) _).alloc (by simp) _)
       case h2=>have:=Row.new (wr.alloc (.cells #[.int .i64 l[k].kind,.string l[k].name,.int .i64 l[k].expr.kind,.int .i64 l[k].expr.n,.string l[k].expr.text,.slice B0 l[k].expr.args.length c0,.int .i64 l[k].value.kind,.int .i64 l[k].value.n,.int .i64 l[k].value.step,.string l[k].value.text,.slice B1 l[k].value.list.length c1,.slice B2 l[k].value.cols.length c2,.slice B3 l[k].value.rows.length c3,.int .i64 l[k].pos] 92)) 3 #[.int .i64 (k:Int)];simpa using this
       case h3=>have:=hdl.out;have:=hn'.out;omega
       case h4=>have:=hb.size;simp;omega
       go_wp2_with fail
       go_roundw
       case rel=>
        refine⟨k+1,by omega,by go_num,by rw[hhit.out (by simp[tN,e1,e2'.out])];exact hown1, ?_⟩;have hs0:=hb.size;refine s_ ((hb.alloc hb.size _).alloc (by simp;omega) _) hg1 (by simp;omega) (fun g hg=> ?_);have hge:=yE ho hg;omega
       case measure=>(simp[intOf]<;>omega)
  ·have hf:=c_ (show k=l.length by omega)
   go_wp2_with fail
   go_ret
   exact⟨_,rfl,by rw[← hf.out];exact ho,hb⟩
theorem Aq(l:List GPart)(nm:ByteArray)(fp:List Nat)(v:Value)(w:World)(hS:Sl w (l.map GPart.toD) fp v)(hn:l.length≤1048576):Calls Try.prog 80 #[v,.string nm] w (ru l nm w):=by
 obtain⟨A,c,rfl,hl,hc⟩:=hS.ak;have hm:l.length≤9223372036854775807:=by omega
 have hn':=c_ hn;clear hl hc hn
 go_enter Try.func80,Try.ntmps80
 go_wp2_with fail
 go_loopw [5,6] (fun nv iv wr=>∃k:Nat,k≤l.length∧iv= .int .i64 k∧uK wr w.heap.size (bK l nm k) nv∧Below w.heap.size w wr) (fun _ iv _=>l.length - (intOf iv).toNat)
 case atStart=>exact⟨0,by omega,rfl,uK.lit rfl (a_ _),(e_ _ _).alloc (a_ _) _⟩
 case round=>
  obtain⟨k,hk,rfl,ho,hb⟩:=hrel;by_cases hlt:k<l.length
  ·have hd:(l.map GPart.toD)[k]? =some (GPart.toD l[k]):=by rw[m_,b_ hlt];rfl
   obtain⟨b,o,fi,ci,rfl,hbb,hbf,hri,hfi,hat⟩:=hS.elem GPart.szs hd;obtain⟨v0,v1,v2,v3,f0,f1,f2,f3,rfl,rfl,hS0,hS1,hS2,hS3⟩:=GPart.opened.1 hri;have hdl:=c_ (mX l nm k);have q0:wr.cell? ⟨b,o+k*14,none⟩=some (.int .i64 l[k].kind):=(hb.cell (p:=⟨b,o+k*14,none⟩) hbb).trans (hat.head);have q1:wr.cell? ⟨b,o+k*14+1,none⟩=some (.string l[k].name):=(hb.cell (p:=⟨b,o+k*14+1,none⟩) hbb).trans (hat.nth 1 rfl);clear hat hd hri hS0 hS1 hS2 hS3;have hskip:=c_ (wI l nm k hlt);have hhit:=c_ (zo l nm k hlt);cases e1:(l[k].kind !=1)with
   | false=>
     go_wp2_with fail
     go_roundw
     case rel=>exact⟨k+1,by omega,by go_num,by rw[hskip.out (by simp[tN,e1])];exact ho,hb⟩
     case measure=>(simp[intOf]<;>omega)
   | true=>
     cases e2:(l[k].name.toList==nm.toList)with
     | false=>
       have e2':=c_ (show¬l[k].name=nm from fun e=>by simp[e]at e2)
       go_wp2_with fail
       go_roundw
       case rel=>exact⟨k+1,by omega,by go_num,by rw[hskip.out (by simp[tN,e1,e2'.out])];exact ho,hb⟩
       case measure=>(simp[intOf]<;>omega)
     | true=>
       have e2':=c_ (show l[k].name=nm from wM (by simpa using e2))
       go_wp2_with (at_builtin;refine ni rfl _ _ rfl w.heap.size _ (bK l nm k) rfl ?h1 wr.heap.size (k:Int) ?hx ?h2 ?h3 ?h4 ?_;rotate_left 5;intro v1 w1 hown1 hg1 hat1;have hz1:=hg1.size)
       case hx=>rfl
       case h1=>exact jJ ho ((e_ _ _).alloc (a_ _) _)
       case h2=>exact Row.new wr 3 #[.int .i64 (k:Int)]
       case h3=>have:=hdl.out;have:=hn'.out;omega
       case h4=>have:=hb.size;simp;omega
       go_wp2_with fail
       go_roundw
       case rel=>
        refine⟨k+1,by omega,by go_num,by rw[hhit.out (by simp[tN,e1,e2'.out])];exact hown1, ?_⟩;have hs0:=hb.size;refine s_ (hb.alloc hb.size _) hg1 (by simp;omega) (fun g hg=> ?_);have hge:=yE ho hg;omega
       case measure=>(simp[intOf]<;>omega)
  ·have hf:=c_ (show k=l.length by omega)
   go_wp2_with fail
   go_ret
   exact⟨_,rfl,by rw[← hf.out];exact ho,hb⟩
def rX(D:List Int):Int:=match D with| []=> -1| [x]=>x|_=> -2
theorem CG(l:List GPart)(nm:ByteArray)(fp:List Nat)(v:Value)(w:World)(hS:Sl w (l.map GPart.toD) fp v)(hn:l.length≤1048576):Calls Try.prog 52 #[v,.string nm] w (SK (.int .i64 (rX (bK l nm l.length))) w):=by
 have hc:=Aq l nm fp v w hS hn;have hle:=c_ (mX l nm l.length);unfold ru at hc;generalize bK l nm l.length=D at*;obtain⟨A,c,rfl,_,_⟩:=hS.ak;clear hS
 go_enter Try.func52,Try.ntmps52
 go_wp2_with fail
 refine hc.mono ?_;rintro e w1 ⟨v1,rfl,ho,hb⟩;have hsl:=ho.sl;obtain⟨A1,c1,rfl,_,_⟩:=hsl.ak
 match D,ho,hsl,hle with
 | [],ho,hsl,hle=>
   clear ho hsl hle
   go_wp2_with fail
   go_ret
   exact⟨rfl,hb⟩
 | [x],ho,hsl,hle=>
   obtain⟨b,o,fi,ci,rfl,hbb,hbf,hri,hfi,hat⟩:=hsl.elem qg (k:=0) (d:=li x) rfl;obtain⟨rfl,rfl⟩:=hri;have q0:w1.cell? ⟨b,o,none⟩=some (.int .i64 x):=by simpa using hat.head
   clear hat ho hsl hle
   go_wp2_with fail
   go_ret
   exact⟨rfl,hb⟩
 | x::y::r,ho,hsl,hle=>
   have hl:(x::y::r).length≤1048576:=q_ hle.out hn;rw[d_,d_]at hl;clear ho hsl hle
   go_wp2_with fail
   go_ret
   exact⟨rfl,hb⟩
theorem uK.tos{w w':World}{l:List Int}{v:Value}(h:uK w' w.heap.size l v)(hb:Below w.heap.size w w'):jG (l.map li) w (.returned v) w':=
 ⟨v.ownBlock.toList,v,rfl,h.sl,by have:=aN.of_own h aN.nil (fun g _=>by simp);rwa[o_]at this,hb⟩
theorem ru.tos{l:List GPart}{nm:ByteArray}{w w':World}{e:Ending}(h:ru l nm w e w'):jG ((bK l nm l.length).map li) w e w':=by
 obtain⟨v,rfl,ho,hb⟩:=h;exact ho.tos hb
theorem CJ(l:List GPart)(nm:ByteArray)(fp:List Nat)(v:Value)(w:World)(hS:Sl w (l.map GPart.toD) fp v)(hn:l.length≤1048576):Calls Try.prog 57 #[v,.string nm] w (SK (.int .i64 (rX (bK l nm l.length))) w):=by
 have hc:=Ar l nm fp v w hS hn;have hle:=c_ (mX l nm l.length);unfold ru at hc;generalize bK l nm l.length=D at*;obtain⟨A,c,rfl,_,_⟩:=hS.ak;clear hS
 go_enter Try.func57,Try.ntmps57
 go_wp2_with fail
 refine hc.mono ?_;rintro e w1 ⟨v1,rfl,ho,hb⟩;have hsl:=ho.sl;obtain⟨A1,c1,rfl,_,_⟩:=hsl.ak
 match D,ho,hsl,hle with
 | [],ho,hsl,hle=>
   clear ho hsl hle
   go_wp2_with fail
   go_ret
   exact⟨rfl,hb⟩
 | [x],ho,hsl,hle=>
   obtain⟨b,o,fi,ci,rfl,hbb,hbf,hri,hfi,hat⟩:=hsl.elem qg (k:=0) (d:=li x) rfl;obtain⟨rfl,rfl⟩:=hri;have q0:w1.cell? ⟨b,o,none⟩=some (.int .i64 x):=by simpa using hat.head
   clear hat ho hsl hle
   go_wp2_with fail
   go_ret
   exact⟨rfl,hb⟩
 | x::y::r,ho,hsl,hle=>
   have hl:(x::y::r).length≤1048576:=q_ hle.out hn;rw[d_,d_]at hl;clear ho hsl hle
   go_wp2_with fail
   go_ret
   exact⟨rfl,hb⟩
end
section
open Nat renaming le_refl→a_,le_trans→q_
open List renaming getElem?_eq_getElem→b_,length_cons→d_,length_map→g_,map_cons→j_,length_append→k_,map_nil→l_,getElem?_map→m_,append_nil→o_,length_nil→p_
open Lib renaming hid→c_
open Below renaming refl→e_,grown→s_
open Value renaming int→f_,ownBlock→h_
attribute [local irreducible] sw sd sn
def zl(k:Int):GVal:= .mk 6 k 0 ⟨#[]⟩ [] [] []
theorem Ox{P:Program}{f:Nat}{ds:List D}{k:Int}(h:aF P f ds (.c true [.raw (.int .i64 6),.raw (.int .i64 k),.raw (.int .i64 0),.raw (.string ⟨#[]⟩),.raw (.slice none 0 0),.raw (.slice none 0 0),.raw (.slice none 0 0)])):aF P f ds (.c true ((zl k).toD.acs true)):=by
 rw[GVal.aQ];refine fun w vs hr ht=>(h w vs hr ht).mono fun en w' ⟨v,h1,h2,h3⟩=>⟨v,h1, ?_,h3⟩
 obtain⟨us,rfl,h4⟩:=h2;have h5:Oks (gZ w.heap.size) [] w' [.raw (.int .i64 6),.raw (.int .i64 k),.raw (.int .i64 0),.raw (.string ⟨#[]⟩),.raw (.slice none 0 0),.raw (.slice none 0 0),.raw (.slice none 0 0)] us:=h4
 match us,h5 with
 | [u0,u1,u2,u3,u4,u5,u6],⟨k0,k1,k2,k3,k4,k5,k6,_⟩=>
   obtain rfl:u4= .slice none 0 0:=k4;obtain rfl:u5= .slice none 0 0:=k5;obtain rfl:u6= .slice none 0 0:=k6;have hnil:∃fp,Sl w' [] fp (.slice none 0 0)∧∀b∈fp,b∉(gZ w.heap.size).M∧(true=true→(gZ w.heap.size).nw b):=⟨[],by unfold Sl;rw[R];exact⟨none,0,rfl,a_ _,Nat.zero_le _,Or.inl ⟨rfl,rfl⟩⟩,fun b hb=>by simp at hb⟩
   exact⟨_,rfl,k0,k1,k2,k3,hnil,hnil,hnil,trivial⟩
theorem Ov{P:Program}{f:Nat}{ds:List D}{a b c d:Value}{e0 s0 e1 s1 e2 s2:Nat}(h:aF P f ds (.c true [.raw a,.raw b,.raw c,.raw d,.raw (.slice none 0 0),.raw (.slice none 0 0),.raw (.slice none 0 0)])):
 cZ P f ds (.c true [.raw a,.raw b,.raw c,.raw d,.own 0 0,.own 1 0,.own 2 0]) [⟨[],e0,s0,0,⟨true,true⟩⟩,⟨[],e1,s1,0,⟨true,true⟩⟩,⟨[],e2,s2,0,⟨true,true⟩⟩]:=fun w vs hr ht=>(h w vs hr ht).mono fun en w' ⟨v,h1,h2,h3⟩=>by
 obtain⟨us,rfl,h4⟩:=h2;have h5:Oks (gZ w.heap.size) [] w' [.raw a,.raw b,.raw c,.raw d,.raw (.slice none 0 0),.raw (.slice none 0 0),.raw (.slice none 0 0)] us:=h4
 match us,h5 with
 | [u0,u1,u2,u3,u4,u5,u6],⟨k0,k1,k2,k3,k4,k5,k6,_⟩=>
   obtain rfl:u0=a:=k0;obtain rfl:u1=b:=k1;obtain rfl:u2=c:=k2;obtain rfl:u3=d:=k3;obtain rfl:u4= .slice none 0 0:=k4;obtain rfl:u5= .slice none 0 0:=k5;obtain rfl:u6= .slice none 0 0:=k6;have one:∀(k:Nat) (o:Own) (p:Value×List Nat),([⟨[],e0,s0,0,⟨true,true⟩⟩,⟨[],e1,s1,0,⟨true,true⟩⟩,⟨[],e2,s2,0,⟨true,true⟩⟩]:List Own)[k]? =some o→([(.slice none 0 0,[]),(.slice none 0 0,[]),(.slice none 0 0,[])]:List (Value×List Nat))[k]? =some p→o.l= []∧p=(.slice none 0 0,[]):=fun k o p hk hp=>by
    match k,hk,hp with
    |0,hk,hp=>simp at hk hp;subst hk hp;exact⟨rfl,rfl⟩
    |1,hk,hp=>simp at hk hp;subst hk hp;exact⟨rfl,rfl⟩
    |2,hk,hp=>simp at hk hp;subst hk hp;exact⟨rfl,rfl⟩
    |k+3,hk,hp=>simp at hk
   refine⟨_,[(.slice none 0 0,[]),(.slice none 0 0,[]),(.slice none 0 0,[])],h1,⟨rfl,fun k o p hk hp=> ?_,by simp[h_],⟨fun k o p hk hp _=> ?_,fun i j o o' p p' _ hi hj hp hp' _ _ b hb=> ?_⟩,fun k o p hk hp _ b hb=> ?_⟩,⟨_,rfl,rfl,rfl,rfl,rfl, ?_, ?_, ?_,trivial⟩,h3⟩
   ·obtain⟨h8,rfl⟩:=one k o p hk hp;rw[h8];exact⟨[],aK.nil,⟨rfl,rfl⟩,fun d hd=>by simp at hd,fun b hb=>by simp at hb⟩
   ·obtain⟨_,rfl⟩:=one k o p hk hp;exact List.nodup_nil
   ·obtain⟨_,rfl⟩:=one i o p hi hp;simp at hb
   ·obtain⟨_,rfl⟩:=one k o p hk hp;simp at hb
   ·exact⟨⟨none,0,0,rfl⟩,_,_,rfl,rfl,a_ _,fun _=>rfl⟩
   ·exact⟨⟨none,0,0,rfl⟩,_,_,rfl,rfl,a_ _,fun _=>rfl⟩
   ·exact⟨⟨none,0,0,rfl⟩,_,_,rfl,rfl,a_ _,fun _=>rfl⟩
def qo :IC:=(zd_ [zz_ 2 (.alloc [(.int .i64 0),(.int .i64 0),(.int .i64 0),(.string ⟨#[]⟩),(.slice none 0 0),(.slice none 0 0),(.slice none 0 0)])] (zd_ [zw_ 3 0,zz_ 4 (.bld [(.int .i64 0),(.int .i64 0),(.int .i64 0),(.string ⟨#[]⟩),(.slice none 0 0),(.slice none 0 0),(.slice none 0 0)] [(0,1,(.k (.int .i64 6))),(1,1,(.t 3))]),⟨none,none,.store 7 (.t 2) (.t 4)⟩] .ret))
theorem tZ :au Try.prog (Try.f53.body.getD .skip)=some qo:=by kernel_rfl
theorem mV(k:Int):aF Try.prog 53 [li k] (.c true [.raw (.int .i64 6),.raw (.int .i64 k),.raw (.int .i64 0),.raw (.string ⟨#[]⟩),.raw (.slice none 0 0),.raw (.slice none 0 0),.raw (.slice none 0 0)]):=by
 refine eY (fn:=Try.f53) (t:=2) (ty:=41) (hc:=tZ) (h:= ?_);unfold qo;refine zb_ ?_;change AWP _ _ _ (st0 5 _);refine sS trivial ?_
 repeat' (first|(refine rg_ ?_;intro K hK)|(refine hq_ ?_;clear hK K)|refine ca_ ?_ ?_|refine sz_ trivial ?_|refine nv ?_|(refine c2_ ?_ ?_<;>(intro hb hb';try(exfalso;omega)))|exact bq_|fail)
 exact dJ ⟨0,_,rfl,rfl,by simp[dM,jv]⟩
theorem lq(l:List GPart)(s:ByteArray)(hn:l.length≤1048576):aF Try.prog 52 [.sl (l.map GPart.toD),ls s] (.c false [.raw (.int .i64 (rX (bK l s l.length)))]):=H8 fun w vs hr=>by
 obtain⟨v,u,rfl,h1,h2⟩:=SY hr;obtain⟨fp,hS⟩:=Q5 h1;obtain rfl:=Iz h2;exact CG l s fp v w hS hn
def qp :IC:=(zd_ [zz_ 2 (.alloc [(.int .i64 0),(.int .i64 0),(.int .i64 0),(.string ⟨#[]⟩),(.slice none 0 0),(.slice none 0 0),(.slice none 0 0)])] (zd_ [zw_ 3 0,zz_ 4 (.bld [(.int .i64 0),(.int .i64 0),(.int .i64 0),(.string ⟨#[]⟩),(.slice none 0 0),(.slice none 0 0),(.slice none 0 0)] [(0,1,(.k (.int .i64 6))),(1,1,(.t 3))]),⟨none,none,.store 7 (.t 2) (.t 4)⟩] .ret))
theorem uf :au Try.prog (Try.f58.body.getD .skip)=some qp:=by kernel_rfl
theorem mW(k:Int):aF Try.prog 58 [li k] (.c true [.raw (.int .i64 6),.raw (.int .i64 k),.raw (.int .i64 0),.raw (.string ⟨#[]⟩),.raw (.slice none 0 0),.raw (.slice none 0 0),.raw (.slice none 0 0)]):=by
 refine eY (fn:=Try.f58) (t:=2) (ty:=41) (hc:=uf) (h:= ?_);unfold qp;refine zb_ ?_;change AWP _ _ _ (st0 5 _);refine sS trivial ?_
 repeat' (first|(refine rg_ ?_;intro K hK)|(refine hq_ ?_;clear hK K)|refine ca_ ?_ ?_|refine sz_ trivial ?_|refine nv ?_|(refine c2_ ?_ ?_<;>(intro hb hb';try(exfalso;omega)))|exact bq_|fail)
 exact dJ ⟨0,_,rfl,rfl,by simp[dM,jv]⟩
theorem lu(l:List GPart)(s:ByteArray)(hn:l.length≤1048576):aF Try.prog 57 [.sl (l.map GPart.toD),ls s] (.c false [.raw (.int .i64 (rX (bK l s l.length)))]):=H8 fun w vs hr=>by
 obtain⟨v,u,rfl,h1,h2⟩:=SY hr;obtain⟨fp,hS⟩:=Q5 h1;obtain rfl:=Iz h2;exact CJ l s fp v w hS hn
theorem zn(l:List GPart)(nm:ByteArray):∀(k:Nat),∀z∈bK l nm k,∃n:Nat,z=(n:Int)
 |0,z,h=>by simp[bK]at h
 | k +1,z,h=>by
   rw[bK,List.mem_append]at h;rcases h with h|h
   ·exact zn l nm k z h
   ·split at h
    ·split at h
     ·rw[List.mem_singleton]at h;exact⟨k,h⟩
     ·simp at h
    ·simp at h
def jg(l:List GPart)(vs:List GVal)(s:ByteArray):GVal:=match bK l s l.length with
 | []=>zl 1
 | [z]=>(match vs[z.toNat]? with|some v=>v|none=>zl 1)
 |_=>zl 2
theorem BO{l:List GVal}{k:Nat}(h:k<l.length)(hw:D.wts (l.map GVal.toD)≤1048576):l[k].toD.wt≤1048576:=by
 have h1:=D.jw (List.mem_map_of_mem (f:=GVal.toD) (List.getElem_mem h));omega
theorem pV(l:List GPart)(vs:List GVal)(s:ByteArray):(∃z:Int,z=rX (bK l s l.length)∧(z== -2)=true∧jg l vs s=zl 2)∨
 (∃z:Int,z=rX (bK l s l.length)∧(z== -2)=false∧(z== -1)=true∧decide (z<0)=true∧jg l vs s=zl 1)∨
 ∃k:Nat,(k:Int)=rX (bK l s l.length)∧((k:Int)== -2)=false∧((k:Int)== -1)=false∧decide ((k:Int)<0)=false∧
  ((decide ((k:Int)≥(vs.length:Int))=true∧jg l vs s=zl 1)∨(∃h:k<vs.length,decide ((k:Int)≥(vs.length:Int))=false∧jg l vs s=vs[k])):=by
 have hnat:=zn l s l.length;unfold jg
 revert hnat
 generalize bK l s l.length=q;intro hnat
 match q with
 | []=>exact Or.inr (Or.inl ⟨-1,rfl,rfl,rfl,rfl,rfl⟩)
 | [z]=>
   obtain⟨k,rfl⟩:=hnat z (by simp);refine Or.inr (Or.inr ⟨k,rfl, ?_, ?_, ?_, ?_⟩)
   ·rw[beq_eq_false_iff_ne];omega
   ·rw[beq_eq_false_iff_ne];omega
   ·rw[decide_eq_false_iff_not];omega
   ·by_cases h:k<vs.length
    ·refine Or.inr ⟨h, ?_, ?_⟩
     ·rw[decide_eq_false_iff_not];omega
     ·simp only[Int.toNat_natCast,b_ h]
    ·refine Or.inl ⟨?_, ?_⟩
     ·rw[decide_eq_true_eq];omega
     ·simp only[Int.toNat_natCast,List.getElem?_eq_none (by omega:vs.length≤k)]
 |_::_::_=>exact Or.inl ⟨-2,rfl,rfl,rfl⟩
def jK :IC:=(zd_ [zz_ 6 (.alloc [(.int .i64 0),(.int .i64 0),(.int .i64 0),(.string ⟨#[]⟩),(.slice none 0 0),(.slice none 0 0),(.slice none 0 0)])] (zd_ [zw_ 8 0,zw_ 9 2,zp_ 10 52 8 9,zw_ 7 10] (.seq (.block 0 (zd_ [zw_ 12 7,zm_ 13 .eql 12 (-2),zw_ 11 13] (.cond (.t 11) (zd_ [zz_ 14 (.call 53 [(.k (.int .i64 2))]),⟨none,none,.store 7 (.t 6) (.t 14)⟩] .ret) (zd_ [zw_ 16 7,zm_ 17 .eql 16 (-1),zw_ 18 17,zu_ 19 18 7,zu_ 20 18 1,zx_ 21 18 (.len false (.t 20)),zx_ 22 18 (.bin .geq (.t 19) (.t 21)),zg_ 23 18 true 22,zw_ 15 23] (.cond (.t 15) (zd_ [zz_ 24 (.call 53 [(.k (.int .i64 1))]),⟨none,none,.store 7 (.t 6) (.t 24)⟩] .ret) .skip))))) (zd_ [zw_ 25 1,zw_ 26 7,ze_ 27 7 25 26,zr_ 28 7 27,zq_ 29 54 28,⟨none,none,.store 7 (.t 6) (.t 29)⟩] .ret))))
theorem jC :au Try.prog (Try.f18.body.getD .skip)=some jK:=by kernel_rfl
theorem yO(l:List GPart)(vs:List GVal)(s:ByteArray)(hn:l.length≤1048576)(hnv:vs.length≤1048576){z:Int}(hk:z=rX (bK l s l.length))(hz1:(z== -2)=true):aF Try.prog 18 [.sl (l.map GPart.toD),.sl (vs.map GVal.toD),ls s] (.c true [.raw (.int .i64 6),.raw (.int .i64 2),.raw (.int .i64 0),.raw (.string ⟨#[]⟩),.raw (.slice none 0 0),.raw (.slice none 0 0),.raw (.slice none 0 0)]):=by
 have hres:=lq l s hn;rw[← hk]at hres;refine eY (fn:=Try.f18) (t:=6) (ty:=41) (hc:=jC) (h:= ?_);unfold jK;refine zb_ ?_;change AWP _ _ _ (st0 30 _);refine sS trivial ?_;have he:=mV 2
 repeat' (first|(refine rg_ ?_;intro K hK)|(refine hq_ ?_;clear hK K)|refine ca_ ?_ ?_|refine gq_ ?_|(refine c2_ ?_ ?_<;>(intro hb hb';try(exfalso;omega)))|(refine cg_ ?_;first|refine cT_ hres ?_|refine cT_ he ?_)|refine sz_ hz1 ?_|refine nv ?_|exact bq_|fail)
 exact dJ ⟨0,_,rfl,rfl,by simp[dM,jv]⟩
theorem yL(l:List GPart)(vs:List GVal)(s:ByteArray)(hn:l.length≤1048576)(hnv:vs.length≤1048576){z:Int}(hk:z=rX (bK l s l.length))(hz1:(z== -2)=false)(hz2:(z== -1)=true)(hz3:decide (z<0)=true):aF Try.prog 18 [.sl (l.map GPart.toD),.sl (vs.map GVal.toD),ls s] (.c true [.raw (.int .i64 6),.raw (.int .i64 1),.raw (.int .i64 0),.raw (.string ⟨#[]⟩),.raw (.slice none 0 0),.raw (.slice none 0 0),.raw (.slice none 0 0)]):=by
 have hres:=lq l s hn;rw[← hk]at hres;refine eY (fn:=Try.f18) (t:=6) (ty:=41) (hc:=jC) (h:= ?_);unfold jK;refine zb_ ?_;change AWP _ _ _ (st0 30 _);refine sS trivial ?_;have he:=mV 1
 repeat' (first|(refine rg_ ?_;intro K hK)|(refine hq_ ?_;clear hK K)|refine ca_ ?_ ?_|refine gq_ ?_|(refine c2_ ?_ ?_<;>(intro hb hb';try(exfalso;omega)))|(refine cg_ ?_;first|refine cT_ hres ?_|refine cT_ he ?_)|refine sz_ (a3_ hz1 hz2 hz3) ?_|refine nv ?_|exact bq_|fail)
 exact dJ ⟨0,_,rfl,rfl,by simp[dM,jv]⟩
theorem yN(l:List GPart)(vs:List GVal)(s:ByteArray)(hn:l.length≤1048576)(hnv:vs.length≤1048576){k:Nat}(hk:(k:Int)=rX (bK l s l.length))(hz1:((k:Int)== -2)=false)(hz2:((k:Int)== -1)=false)(hz3:decide ((k:Int)<0)=false)(hz4:decide ((k:Int)≥(vs.length:Int))=true):aF Try.prog 18 [.sl (l.map GPart.toD),.sl (vs.map GVal.toD),ls s] (.c true [.raw (.int .i64 6),.raw (.int .i64 1),.raw (.int .i64 0),.raw (.string ⟨#[]⟩),.raw (.slice none 0 0),.raw (.slice none 0 0),.raw (.slice none 0 0)]):=by
 have hres:=lq l s hn;rw[← hk]at hres;refine eY (fn:=Try.f18) (t:=6) (ty:=41) (hc:=jC) (h:= ?_);unfold jK;refine zb_ ?_;change AWP _ _ _ (st0 30 _);refine sS trivial ?_;have he:=mV 1
 repeat' (first|(refine rg_ ?_;intro K hK)|(refine hq_ ?_;clear hK K)|refine ca_ ?_ ?_|refine gq_ ?_|(refine c2_ ?_ ?_<;>(intro hb hb';try(exfalso;omega)))|(refine cg_ ?_;first|refine cT_ hres ?_|refine cT_ he ?_)|refine sz_ (a4_ hz1 hz2 hz3 hz4) ?_|refine nv ?_|exact bq_|fail)
 exact dJ ⟨0,_,rfl,rfl,by simp[dM,jv]⟩
theorem yK(l:List GPart)(vs:List GVal)(s:ByteArray)(hn:l.length≤1048576)(hnv:vs.length≤1048576)(hw:D.wts (vs.map GVal.toD)≤1048576){k:Nat}(h:k<vs.length)(hk:(k:Int)=rX (bK l s l.length))(hz1:((k:Int)== -2)=false)(hz2:((k:Int)== -1)=false)(hz3:decide ((k:Int)<0)=false)(hz4:decide ((k:Int)≥(vs.length:Int))=false):aF Try.prog 18 [.sl (l.map GPart.toD),.sl (vs.map GVal.toD),ls s] (.c true (vs[k].toD.acs true)):=by
 have hres:=lq l s hn;rw[← hk]at hres;rw[GVal.aQ];refine eY (fn:=Try.f18) (t:=6) (ty:=41) (hc:=jC) (h:= ?_);unfold jK;refine zb_ ?_;change AWP _ _ _ (st0 30 _);refine sS trivial ?_;have hc:=nJ vs[k] (BO h hw);rw[GVal.aQ]at hc;have hg:=fE GVal.toD vs h
 repeat' (first|(refine rg_ ?_;intro K hK)|(refine hq_ ?_;clear hK K)|refine ca_ ?_ ?_|refine gq_ ?_|(refine c2_ ?_ ?_<;>(intro hb hb';try(exfalso;omega)))|(refine cg_ ?_;first|refine cT_ hres ?_|refine cT_ hc ?_)|refine sz_ (a5_ hz1 hz2 hz3 hz4 hg) ?_|refine nv ?_|(exact GVal.el _)|exact bq_|fail)
 all_goals first
  |(simp only[g_];omega)
  |exact dJ ⟨0,_,rfl,rfl,by simp[dM,jv]⟩
def jL :IC:=(zd_ [zz_ 6 (.alloc [(.int .i64 0),(.int .i64 0),(.int .i64 0),(.string ⟨#[]⟩),(.slice none 0 0),(.slice none 0 0),(.slice none 0 0)])] (zd_ [zw_ 8 0,zw_ 9 2,zp_ 10 57 8 9,zw_ 7 10] (.seq (.block 0 (zd_ [zw_ 12 7,zm_ 13 .eql 12 (-2),zw_ 11 13] (.cond (.t 11) (zd_ [zz_ 14 (.call 58 [(.k (.int .i64 2))]),⟨none,none,.store 7 (.t 6) (.t 14)⟩] .ret) (zd_ [zw_ 16 7,zm_ 17 .lss 16 0,zw_ 18 17,zu_ 19 18 7,zu_ 20 18 1,zx_ 21 18 (.len false (.t 20)),zx_ 22 18 (.bin .geq (.t 19) (.t 21)),zg_ 23 18 true 22,zw_ 15 23] (.cond (.t 15) (zd_ [zz_ 24 (.call 58 [(.k (.int .i64 1))]),⟨none,none,.store 7 (.t 6) (.t 24)⟩] .ret) .skip))))) (zd_ [zw_ 25 1,zw_ 26 7,ze_ 27 7 25 26,zr_ 28 7 27,zq_ 29 59 28,⟨none,none,.store 7 (.t 6) (.t 29)⟩] .ret))))
theorem jD :au Try.prog (Try.f21.body.getD .skip)=some jL:=by kernel_rfl
theorem yS(l:List GPart)(vs:List GVal)(s:ByteArray)(hn:l.length≤1048576)(hnv:vs.length≤1048576){z:Int}(hk:z=rX (bK l s l.length))(hz1:(z== -2)=true):aF Try.prog 21 [.sl (l.map GPart.toD),.sl (vs.map GVal.toD),ls s] (.c true [.raw (.int .i64 6),.raw (.int .i64 2),.raw (.int .i64 0),.raw (.string ⟨#[]⟩),.raw (.slice none 0 0),.raw (.slice none 0 0),.raw (.slice none 0 0)]):=by
 have hres:=lu l s hn;rw[← hk]at hres;refine eY (fn:=Try.f21) (t:=6) (ty:=41) (hc:=jD) (h:= ?_);unfold jL;refine zb_ ?_;change AWP _ _ _ (st0 30 _);refine sS trivial ?_;have he:=mW 2
 repeat' (first|(refine rg_ ?_;intro K hK)|(refine hq_ ?_;clear hK K)|refine ca_ ?_ ?_|refine gq_ ?_|(refine c2_ ?_ ?_<;>(intro hb hb';try(exfalso;omega)))|(refine cg_ ?_;first|refine cT_ hres ?_|refine cT_ he ?_)|refine sz_ hz1 ?_|refine nv ?_|exact bq_|fail)
 exact dJ ⟨0,_,rfl,rfl,by simp[dM,jv]⟩
theorem yQ(l:List GPart)(vs:List GVal)(s:ByteArray)(hn:l.length≤1048576)(hnv:vs.length≤1048576){z:Int}(hk:z=rX (bK l s l.length))(hz1:(z== -2)=false)(hz2:(z== -1)=true)(hz3:decide (z<0)=true):aF Try.prog 21 [.sl (l.map GPart.toD),.sl (vs.map GVal.toD),ls s] (.c true [.raw (.int .i64 6),.raw (.int .i64 1),.raw (.int .i64 0),.raw (.string ⟨#[]⟩),.raw (.slice none 0 0),.raw (.slice none 0 0),.raw (.slice none 0 0)]):=by
 have hres:=lu l s hn;rw[← hk]at hres;refine eY (fn:=Try.f21) (t:=6) (ty:=41) (hc:=jD) (h:= ?_);unfold jL;refine zb_ ?_;change AWP _ _ _ (st0 30 _);refine sS trivial ?_;have he:=mW 1
 repeat' (first|(refine rg_ ?_;intro K hK)|(refine hq_ ?_;clear hK K)|refine ca_ ?_ ?_|refine gq_ ?_|(refine c2_ ?_ ?_<;>(intro hb hb';try(exfalso;omega)))|(refine cg_ ?_;first|refine cT_ hres ?_|refine cT_ he ?_)|refine sz_ (a3_ hz1 hz2 hz3) ?_|refine nv ?_|exact bq_|fail)
 exact dJ ⟨0,_,rfl,rfl,by simp[dM,jv]⟩
theorem yR(l:List GPart)(vs:List GVal)(s:ByteArray)(hn:l.length≤1048576)(hnv:vs.length≤1048576){k:Nat}(hk:(k:Int)=rX (bK l s l.length))(hz1:((k:Int)== -2)=false)(hz2:((k:Int)== -1)=false)(hz3:decide ((k:Int)<0)=false)(hz4:decide ((k:Int)≥(vs.length:Int))=true):aF Try.prog 21 [.sl (l.map GPart.toD),.sl (vs.map GVal.toD),ls s] (.c true [.raw (.int .i64 6),.raw (.int .i64 1),.raw (.int .i64 0),.raw (.string ⟨#[]⟩),.raw (.slice none 0 0),.raw (.slice none 0 0),.raw (.slice none 0 0)]):=by
 have hres:=lu l s hn;rw[← hk]at hres;refine eY (fn:=Try.f21) (t:=6) (ty:=41) (hc:=jD) (h:= ?_);unfold jL;refine zb_ ?_;change AWP _ _ _ (st0 30 _);refine sS trivial ?_;have he:=mW 1
 repeat' (first|(refine rg_ ?_;intro K hK)|(refine hq_ ?_;clear hK K)|refine ca_ ?_ ?_|refine gq_ ?_|(refine c2_ ?_ ?_<;>(intro hb hb';try(exfalso;omega)))|(refine cg_ ?_;first|refine cT_ hres ?_|refine cT_ he ?_)|refine sz_ (a4_ hz1 hz2 hz3 hz4) ?_|refine nv ?_|exact bq_|fail)
 exact dJ ⟨0,_,rfl,rfl,by simp[dM,jv]⟩
theorem yP(l:List GPart)(vs:List GVal)(s:ByteArray)(hn:l.length≤1048576)(hnv:vs.length≤1048576)(hw:D.wts (vs.map GVal.toD)≤1048576){k:Nat}(h:k<vs.length)(hk:(k:Int)=rX (bK l s l.length))(hz1:((k:Int)== -2)=false)(hz2:((k:Int)== -1)=false)(hz3:decide ((k:Int)<0)=false)(hz4:decide ((k:Int)≥(vs.length:Int))=false):cZ Try.prog 21 [.sl (l.map GPart.toD),.sl (vs.map GVal.toD),ls s] (.c true [.raw (.int .i64 vs[k].kind),.raw (.int .i64 vs[k].n),.raw (.int .i64 vs[k].step),.raw (.string vs[k].text),.own 0 0,.own 1 0,.own 2 0]) [⟨vs[k].list.map GVal.toD,41,7,0,⟨true,true⟩⟩,⟨vs[k].cols.map ls,9,1,0,⟨true,true⟩⟩,⟨vs[k].rows.map GRow.toD,111,2,0,⟨true,true⟩⟩]:=by
 have hres:=lu l s hn;rw[← hk]at hres;refine lJ (fn:=Try.f21) (r:= .cell 6 41) (hc:=jD) (h:= ?_);unfold jL;refine zb_ ?_;change AWP _ _ _ (st0 30 _);refine sS trivial ?_;have hc:=wJ vs[k] (BO h hw);have hg:=fE GVal.toD vs h
 repeat' (first|(refine rg_ ?_;intro K hK)|(refine hq_ ?_;clear hK K)|refine ca_ ?_ ?_|refine gq_ ?_|(refine c2_ ?_ ?_<;>(intro hb hb';try(exfalso;omega)))|(refine cg_ ?_;first|refine cT_ hres ?_|(refine oK hc rfl (by simp) ?_ ?_))|refine sz_ (a6_ hz1 hz2 hz3 hz4 hg @dF.eq_1) ?_|refine nv ?_|(exact GVal.el _)|exact bq_|fail)
 all_goals first
  |(simp only[g_];omega)
  |exact dJ ⟨[0,1,2],by simp,⟨⟨_,rfl,rfl,Or.inl ⟨rfl,rfl⟩⟩,⟨_,rfl,rfl,Or.inl ⟨rfl,rfl⟩⟩,⟨_,rfl,rfl,Or.inl ⟨rfl,rfl⟩⟩,trivial⟩,⟨0,_,rfl,rfl,by simp[jP,pG]⟩⟩
theorem CX(l:List GPart)(vs:List GVal)(s:ByteArray)(hn:l.length≤1048576)(hnv:vs.length≤1048576)(hw:D.wts (vs.map GVal.toD)≤1048576):cZ Try.prog 21 [.sl (l.map GPart.toD),.sl (vs.map GVal.toD),ls s] (.c true [.raw (.int .i64 (jg l vs s).kind),.raw (.int .i64 (jg l vs s).n),.raw (.int .i64 (jg l vs s).step),.raw (.string (jg l vs s).text),.own 0 0,.own 1 0,.own 2 0]) [⟨(jg l vs s).list.map GVal.toD,41,7,0,⟨true,true⟩⟩,⟨(jg l vs s).cols.map ls,9,1,0,⟨true,true⟩⟩,⟨(jg l vs s).rows.map GRow.toD,111,2,0,⟨true,true⟩⟩]:=by
 rcases pV l vs s with⟨z,h1,h2,h3⟩|⟨z,h1,h2,h3,h4,h5⟩|⟨k,h1,h2,h3,h4,⟨h5,h6⟩|⟨h,h5,h6⟩⟩
 ·rw[h3];exact Ov (yS l vs s hn hnv h1 h2)
 ·rw[h5];exact Ov (yQ l vs s hn hnv h1 h2 h3 h4)
 ·rw[h6];exact Ov (yR l vs s hn hnv h1 h2 h3 h4 h5)
 ·rw[h6];exact yP l vs s hn hnv hw h h1 h2 h3 h4 h5
theorem Aj(l:List GPart)(vs:List GVal)(s:ByteArray)(hn:l.length≤1048576)(hnv:vs.length≤1048576)(hw:D.wts (vs.map GVal.toD)≤1048576):
 aF Try.prog 18 [.sl (l.map GPart.toD),.sl (vs.map GVal.toD),ls s] (.c true ((jg l vs s).toD.acs true)):=by
 rcases pV l vs s with⟨z,h1,h2,h3⟩|⟨z,h1,h2,h3,h4,h5⟩|⟨k,h1,h2,h3,h4,⟨h5,h6⟩|⟨h,h5,h6⟩⟩
 ·rw[h3];exact Ox (yO l vs s hn hnv h1 h2)
 ·rw[h5];exact Ox (yL l vs s hn hnv h1 h2 h3 h4)
 ·rw[h6];exact Ox (yN l vs s hn hnv h1 h2 h3 h4 h5)
 ·rw[h6];exact yK l vs s hn hnv hw h h1 h2 h3 h4 h5
theorem Td{P:Program}{f:Nat}{ds:List D}{x:GVal}(h:cZ P f ds (.c true [.raw (.int .i64 x.kind),.raw (.int .i64 x.n),.raw (.int .i64 x.step),.raw (.string x.text),.own 0 0,.own 1 0,.own 2 0]) [⟨x.list.map GVal.toD,41,7,0,⟨true,true⟩⟩,⟨x.cols.map ls,9,1,0,⟨true,true⟩⟩,⟨x.rows.map GRow.toD,111,2,0,⟨true,true⟩⟩]){w:World}{vs:List Value}(hr:Rds w ds vs)(ht:kQ w):Calls P f vs.toArray w (sH x.toD w):=by
 rw[GVal.aj];exact Oq h rfl (by simp[lcK]) (by simp[lcK,dF]) hr ht
theorem Tf{P:Program}{f:Nat}{ds:List D}{x:GVal}(h:aF P f ds (.c true (x.toD.acs true))){w:World}{vs:List Value}(hr:Rds w ds vs)(ht:kQ w):Calls P f vs.toArray w (qG x.toD w):=Gs h hr ht
theorem Qa(x:GVal)(h:x.toD.wt≤1048576):x.toD.acnt≤14680080:=by
 have:=D.JK x.toD;have:=D.cnt_le _ (x.thin);have:=GVal.sz_eq x;omega
theorem Gv(l:List GPart)(vs:List GVal)(s:ByteArray)(hw:D.wts (vs.map GVal.toD)≤1048576):(GVal.toD (jg l vs s)).acnt≤14680080:=by
 have he:∀k:Int,(zl k).toD.wt≤1048576:=fun k=>by
  have:=GVal.fB (zl k);simp[zl,GVal.text,GVal.list,GVal.cols,GVal.rows,D.wts,show(⟨#[]⟩:ByteArray).size=0 from rfl]at this;unfold zl;omega
 refine Qa _ ?_;rcases pV l vs s with⟨z,h1,h2,h3⟩|⟨z,h1,h2,h3,h4,h5⟩|⟨k,h1,h2,h3,h4,⟨h5,h6⟩|⟨h,h5,h6⟩⟩
 ·rw[h3];exact he 2
 ·rw[h5];exact he 1
 ·rw[h6];exact he 1
 ·rw[h6];exact BO h hw
theorem pU(l:List GPart)(vs:List GVal)(s:ByteArray)(fp gp:List Nat)(u v:Value)(w:World)(hS:Sl w (l.map GPart.toD) fp u)(hV:Sl w (vs.map GVal.toD) gp v)(hn:l.length≤1048576)(hnv:vs.length≤1048576)(hw:D.wts (vs.map GVal.toD)≤1048576)(ht:kQ w:=by exact trivial):Calls Try.prog 21 #[u,v,.string s] w (sH (jg l vs s).toD w):=
 Td (CX l vs s hn hnv hw) (vs:= [u,v,.string s]) ⟨oz hS,oz hV,kT _,trivial⟩ ht
theorem yM(l:List GPart)(vs:List GVal)(s:ByteArray)(fp gp:List Nat)(u v:Value)(w:World)(hS:Sl w (l.map GPart.toD) fp u)(hV:Sl w (vs.map GVal.toD) gp v)(hn:l.length≤1048576)(hnv:vs.length≤1048576)(hw:D.wts (vs.map GVal.toD)≤1048576)(ht:kQ w:=by exact trivial):Calls Try.prog 18 #[u,v,.string s] w (qG (jg l vs s).toD w):=
 Tf (Aj l vs s hn hnv hw) (vs:= [u,v,.string s]) ⟨oz hS,oz hV,kT _,trivial⟩ ht
end
end Go.Proofs.Ytagaefgglphkgaa
