/-
  Texts joined: Defs Sort Pdw1 Pdw2 Pdw3.
-/
import Derived.Test.YtfjmoicellpnhaaGreatJA
import Derived.Test.YtfjmoicellpnhaaGreatJN
set_option maxHeartbeats 16000000
set_option maxRecDepth 20000
set_option linter.unusedSimpArgs false
set_option linter.unusedVariables false
namespace Go.Proofs.YtfjmoicellpnhaaGreat
open Go.RowKit
section
open List renaming getElem?_eq_getElem→a_,getElem?_map→e_,length_cons→g_,length_map→h_,drop_eq_getElem_cons→i_,getElem_mem→j_,drop_eq_nil_of_le→m_,getElem?_eq_none→n_,map_cons→o_,length_append→p_,map_nil→q_,length_nil→s_,mem_append→t_
open Lib renaming hid→b_
open Below renaming refl→c_,grown→x_
open Nat renaming le_refl→d_,zero_le→f_,mul_one→y_
open Value renaming int→l_,ownBlock→v_
def Ce(x:GPart)(nm:ByteArray):Bool:=(x.kind !=1) && decide (x.name=nm)
def dZ(l:List GPart)(nm:ByteArray):Nat→List Int
 |0=> []
 |k+1=>dZ l nm k++(match l[k]? with|some x=>if Ce x nm then [(k:Int)]else []|none=> [])
theorem rY(l:List GPart)(nm:ByteArray):∀k,(dZ l nm k).length≤k
 |0=>d_ _
 | k+1=>by
   have:=rY l nm k;rw[dZ,p_];split
   ·split<;>simp<;>omega
   ·simp;omega
theorem Fh(l:List GPart)(nm:ByteArray)(k:Nat)(h:k<l.length)(e:Ce l[k] nm=false):dZ l nm (k+1)=dZ l nm k:=by
 rw[dZ,a_ h];simp[e]
theorem JG(l:List GPart)(nm:ByteArray)(k:Nat)(h:k<l.length)(e:Ce l[k] nm=true):dZ l nm (k+1)=dZ l nm k++ [(k:Int)]:=by
 rw[dZ,a_ h];simp[e]
def Dv(w:World)(base:Nat)(l:List Int)(v:Value):Prop:=w.ownsRow base 3 1 v l.length (l.map (l_ .i64))
theorem wK{w:World}:∀{l:List Int} {fp:List Nat} {cs:List Value},Rs w (l.map li) fp cs↔fp= []∧cs=l.map (l_ .i64)
 | [],fp,cs=>by rw[q_,Rs];rfl
 | x::l,fp,cs=>by
   rw[o_,Rs];constructor
   ·rintro⟨f1,f2,c1,c2,rfl,rfl,⟨rfl,rfl⟩,h2⟩;obtain⟨rfl,rfl⟩:=wK.1 h2;exact⟨rfl,rfl⟩
   ·rintro⟨rfl,rfl⟩;exact⟨[],[],[.int .i64 x],l.map (l_ .i64),rfl,rfl,⟨rfl,rfl⟩,wK.2 ⟨rfl,rfl⟩⟩
theorem Dv.sl{w:World}{base:Nat}{l:List Int}{v:Value}(h:Dv w base l v):Sl w (l.map li) v.ownBlock.toList v:=by
 have h':w.ownsRow base 3 1 v (l.map li).length (l.map (l_ .i64)):=by rw[h_];exact h
 have:=Sl.of_own h' (wK.2 ⟨rfl,rfl⟩);rwa[List.append_nil]at this
theorem afF{l:List Int}:∀d∈l.map li,d.one:=fun d h=>by obtain⟨x,_,rfl⟩:=List.mem_map.1 h;rfl
theorem aap :(Tryz.prog.info? 3).map (fun i=>(i.zero,i.size,i.bytes))=some (some (.int .i64 0),1,8):=by kernel_rfl
theorem sQ{w:World}{ops:Array Oper}{rest:List Oper}{o:Oper}{a:Act}{Q:Exit→Act→World→Prop}(hgd:o.guard=none)(s x:Operand)
 (ho:o.op= .call {callee:= .builtin .append,args:= #[s,x],argTypes:= #[26,26]})
 (base:Nat) (v:Value) (l0:List Int) (hs:a.eval s=v) (hown:Dv w base l0 v) (g:Nat) (n:Int) (hx:a.eval x= .slice (some ⟨g,0,none⟩) 1 1) (hrow:Row w g 3 [.int .i64 n])
 (hn:l0.length+1≤2097152) (hbase:base≤w.heap.size)
 (h:∀v' w',Dv w' base (l0++ [n]) v'→w.grownBy w' v.ownBlock→(v'.ownBlock=v.ownBlock∨v'.ownBlock=some w.heap.size)→wpList Tryz.prog ops Q rest (a.put o.dst v') w'):wpList Tryz.prog ops Q (o::rest) a w:=by
 obtain⟨i0,hi0,hz0,hz1,hz2⟩:=info_parts aap;have hsl:Sl w ([n].map li) [g] (.slice (some ⟨g,0,none⟩) 1 1):=Sl.Va hrow (wK.2 ⟨rfl,rfl⟩) rfl (by unfold maxLen;omega);refine DL hgd s x _ ho base 3 i0 _ 1 8 Tryz.underlying26 hi0 hz0 hz1 hz2 rfl (by omega) v l0.length (l0.map (l_ .i64)) hs hown ([n].map li) [g] _ hx hsl afF Oz (by simp only[o_,q_,g_,s_];unfold maxLen;omega) (by simp only[o_,q_,g_,s_];omega) hbase ?_;intro v' w' fp' cs hr _ hown' hg hat;refine h v' w' ?_ hg hat;obtain⟨rfl,rfl⟩:=wK.1 hr;unfold Dv;rw[List.map_append,p_];exact hown'
theorem H9{w:World}{base:Nat}{e:TypeId}{s:Nat}{v:Value}{n:Nat}{xs:List Value}(h:w.ownsRow base e s v n xs){g:Nat}(hg:v.ownBlock=some g):base≤g:=by
 rcases h.2 with⟨rfl,_⟩|⟨g',cap,cur,rfl,hb,_⟩
 ·simp[v_]at hg
 ·simp[v_]at hg;omega
theorem Dv.lit{w:World}{base g:Nat}(hg:w.heap.size=g)(hb:base≤g):Dv (w.alloc (.cells #[] 3)) base [] (.slice (some ⟨g,0,none⟩) 0 0):=by
 subst hg;exact World.ownsRow_lit w #[] 0 hb (by simp) rfl
def zk(l:List GPart)(nm:ByteArray)(w:World)(e:Ending)(w':World):Prop:=∃v,e= .returned v∧Dv w' w.heap.size (dZ l nm l.length) v∧Below w.heap.size w w'
theorem qw{a b:ByteArray}(h:a.toList=b.toList):a=b:=by
 rw[ByteArray.toList_eq,ByteArray.toList_eq]at h;have:a.data=b.data:=Array.toList_inj.1 h;cases a;cases b;simp_all
theorem zT(l:List GPart)(nm:ByteArray)(fp:List Nat)(v:Value)(w:World)(hS:Sl w (l.map GPart.toD) fp v)(hn:l.length≤1048576):Calls Tryz.prog 23 #[v,.string nm] w (zk l nm w):=by
 obtain⟨A,c,rfl,hl,hc⟩:=hS.jk;have hm:l.length≤9223372036854775807:=by omega
 have hn':=b_ hn;clear hl hc hn
 go_enter Tryz.func23,Tryz.ntmps23
 go_wp2_with fail
 go_loopw [5,11] (fun nv iv wr=>∃k:Nat,k≤l.length∧iv= .int .i64 k∧Dv wr w.heap.size (dZ l nm k) nv∧Below w.heap.size w wr) (fun _ iv _=>l.length - (intOf iv).toNat)
 case atStart=>exact⟨0,by omega,rfl,Dv.lit rfl (d_ _),(c_ _ _).alloc (d_ _) _⟩
 case round=>
  obtain⟨k,hk,rfl,ho,hb⟩:=hrel;by_cases hlt:k<l.length
  ·have hd:(l.map GPart.toD)[k]? =some (GPart.toD l[k]):=by rw[e_,a_ hlt];rfl
   obtain⟨b,o,fi,ci,rfl,hbb,hbf,hri,hfi,hat⟩:=hS.elem GPart.szs hd;obtain⟨v0,v1,v2,v3,f0,f1,f2,f3,rfl,rfl,hS0,hS1,hS2,hS3⟩:=GPart.opened.1 hri;have hdl:=b_ (rY l nm k);have q0:wr.cell? ⟨b,o+k*14,none⟩=some (.int .i64 l[k].kind):=(hb.cell (p:=⟨b,o+k*14,none⟩) hbb).trans (hat.head);have q1:wr.cell? ⟨b,o+k*14+1,none⟩=some (.string l[k].name):=(hb.cell (p:=⟨b,o+k*14+1,none⟩) hbb).trans (hat.nth 1 rfl);have q2:wr.cell? ⟨b,o+k*14+2,none⟩=some (.int .i64 l[k].expr.kind):=(hb.cell (p:=⟨b,o+k*14+2,none⟩) hbb).trans (hat.nth 2 rfl);have q3:wr.cell? ⟨b,o+k*14+3,none⟩=some (.int .i64 l[k].expr.n):=(hb.cell (p:=⟨b,o+k*14+3,none⟩) hbb).trans (hat.nth 3 rfl);have q4:wr.cell? ⟨b,o+k*14+4,none⟩=some (.string l[k].expr.text):=(hb.cell (p:=⟨b,o+k*14+4,none⟩) hbb).trans (hat.nth 4 rfl);have q5:wr.cell? ⟨b,o+k*14+5,none⟩=some (v0):=(hb.cell (p:=⟨b,o+k*14+5,none⟩) hbb).trans (hat.nth 5 rfl);have q6:wr.cell? ⟨b,o+k*14+6,none⟩=some (.int .i64 l[k].value.kind):=(hb.cell (p:=⟨b,o+k*14+6,none⟩) hbb).trans (hat.nth 6 rfl);have q7:wr.cell? ⟨b,o+k*14+7,none⟩=some (.int .i64 l[k].value.n):=(hb.cell (p:=⟨b,o+k*14+7,none⟩) hbb).trans (hat.nth 7 rfl);have q8:wr.cell? ⟨b,o+k*14+8,none⟩=some (.int .i64 l[k].value.step):=(hb.cell (p:=⟨b,o+k*14+8,none⟩) hbb).trans (hat.nth 8 rfl);have q9:wr.cell? ⟨b,o+k*14+9,none⟩=some (.string l[k].value.text):=(hb.cell (p:=⟨b,o+k*14+9,none⟩) hbb).trans (hat.nth 9 rfl);have q10:wr.cell? ⟨b,o+k*14+10,none⟩=some (v1):=(hb.cell (p:=⟨b,o+k*14+10,none⟩) hbb).trans (hat.nth 10 rfl);have q11:wr.cell? ⟨b,o+k*14+11,none⟩=some (v2):=(hb.cell (p:=⟨b,o+k*14+11,none⟩) hbb).trans (hat.nth 11 rfl);have q12:wr.cell? ⟨b,o+k*14+12,none⟩=some (v3):=(hb.cell (p:=⟨b,o+k*14+12,none⟩) hbb).trans (hat.nth 12 rfl);have q13:wr.cell? ⟨b,o+k*14+13,none⟩=some (.int .i64 l[k].pos):=(hb.cell (p:=⟨b,o+k*14+13,none⟩) hbb).trans (hat.nth 13 rfl);obtain⟨B0,c0,rfl,_,_⟩:=hS0.jk;obtain⟨B1,c1,rfl,_,_⟩:=hS1.jk;obtain⟨B2,c2,rfl,_,_⟩:=hS2.jk;obtain⟨B3,c3,rfl,_,_⟩:=hS3.jk;clear hat hd hri hS0 hS1 hS2 hS3;have hskip:=b_ (Fh l nm k hlt);have hhit:=b_ (JG l nm k hlt);cases e1:(l[k].kind !=1)with
   | false=>
     go_wp2_with fail
     go_roundw
     case rel=>exact⟨k+1,by omega,by go_num,by rw[hskip.out (by simp[Ce,e1])];exact l9 ho ((c_ _ _).alloc (d_ _) _),hb.alloc hb.size _⟩
     case measure=>(simp[intOf]<;>omega)
   | true=>
     cases e2:(l[k].name.toList==nm.toList)with
     | false=>
       have e2':=b_ (show¬l[k].name=nm from fun e=>by simp[e]at e2)
       go_wp2_with fail
       go_roundw
       case rel=>exact⟨k+1,by omega,by go_num,by rw[hskip.out (by simp[Ce,e1,e2'.out])];exact l9 ho ((c_ _ _).alloc (d_ _) _),hb.alloc hb.size _⟩
       case measure=>(simp[intOf]<;>omega)
     | true=>
       have e2':=b_ (show l[k].name=nm from qw (by simpa using e2))
       go_wp2_with (at_builtin;refine sQ rfl _ _ rfl w.heap.size _ (dZ l nm k) rfl ?h1 (wr.heap.size+1) (k:Int) ?hx ?h2 ?h3 ?h4 ?_;rotate_left 5;intro v1 w1 hown1 hg1 hat1;have hz1:=hg1.size)
       case hx=>rfl
       case h1=>exact l9 ho (((c_ _ _).alloc (d_ _) _).alloc (by simp) _)
       case h2=>have:=Row.new (wr.alloc (.cells #[.int .i64 l[k].kind,.string l[k].name,.int .i64 l[k].expr.kind,.int .i64 l[k].expr.n,.string l[k].expr.text,.slice B0 l[k].expr.args.length c0,.int .i64 l[k].value.kind,.int .i64 l[k].value.n,.int .i64 l[k].value.step,.string l[k].value.text,.slice B1 l[k].value.list.length c1,.slice B2 l[k].value.cols.length c2,.slice B3 l[k].value.rows.length c3,.int .i64 l[k].pos] 51)) 3 #[.int .i64 (k:Int)];simpa using this
       case h3=>have:=hdl.out;have:=hn'.out;omega
       case h4=>have:=hb.size;simp;omega
       go_wp2_with fail
       go_roundw
       case rel=>
        refine⟨k+1,by omega,by go_num,by rw[hhit.out (by simp[Ce,e1,e2'.out])];exact hown1, ?_⟩;have hs0:=hb.size;refine x_ ((hb.alloc hb.size _).alloc (by simp;omega) _) hg1 (by simp;omega) (fun g hg=> ?_);have hge:=H9 ho hg;omega
       case measure=>(simp[intOf]<;>omega)
  ·have hf:=b_ (show k=l.length by omega)
   go_wp2_with fail
   go_ret
   exact⟨_,rfl,by rw[← hf.out];exact ho,hb⟩
theorem KT(l:List GPart)(nm:ByteArray)(fp:List Nat)(v:Value)(w:World)(hS:Sl w (l.map GPart.toD) fp v)(hn:l.length≤1048576):Calls Tryz.prog 25 #[v,.string nm] w (zk l nm w):=by
 obtain⟨A,c,rfl,hl,hc⟩:=hS.jk;have hm:l.length≤9223372036854775807:=by omega
 have hn':=b_ hn;clear hl hc hn
 go_enter Tryz.func25,Tryz.ntmps25
 go_wp2_with fail
 go_loopw [5,6] (fun nv iv wr=>∃k:Nat,k≤l.length∧iv= .int .i64 k∧Dv wr w.heap.size (dZ l nm k) nv∧Below w.heap.size w wr) (fun _ iv _=>l.length - (intOf iv).toNat)
 case atStart=>exact⟨0,by omega,rfl,Dv.lit rfl (d_ _),(c_ _ _).alloc (d_ _) _⟩
 case round=>
  obtain⟨k,hk,rfl,ho,hb⟩:=hrel;by_cases hlt:k<l.length
  ·have hd:(l.map GPart.toD)[k]? =some (GPart.toD l[k]):=by rw[e_,a_ hlt];rfl
   obtain⟨b,o,fi,ci,rfl,hbb,hbf,hri,hfi,hat⟩:=hS.elem GPart.szs hd;obtain⟨v0,v1,v2,v3,f0,f1,f2,f3,rfl,rfl,hS0,hS1,hS2,hS3⟩:=GPart.opened.1 hri;have hdl:=b_ (rY l nm k);have q0:wr.cell? ⟨b,o+k*14,none⟩=some (.int .i64 l[k].kind):=(hb.cell (p:=⟨b,o+k*14,none⟩) hbb).trans (hat.head);have q1:wr.cell? ⟨b,o+k*14+1,none⟩=some (.string l[k].name):=(hb.cell (p:=⟨b,o+k*14+1,none⟩) hbb).trans (hat.nth 1 rfl);clear hat hd hri hS0 hS1 hS2 hS3;have hskip:=b_ (Fh l nm k hlt);have hhit:=b_ (JG l nm k hlt);cases e1:(l[k].kind !=1)with
   | false=>
     go_wp2_with fail
     go_roundw
     case rel=>exact⟨k+1,by omega,by go_num,by rw[hskip.out (by simp[Ce,e1])];exact ho,hb⟩
     case measure=>(simp[intOf]<;>omega)
   | true=>
     cases e2:(l[k].name.toList==nm.toList)with
     | false=>
       have e2':=b_ (show¬l[k].name=nm from fun e=>by simp[e]at e2)
       go_wp2_with fail
       go_roundw
       case rel=>exact⟨k+1,by omega,by go_num,by rw[hskip.out (by simp[Ce,e1,e2'.out])];exact ho,hb⟩
       case measure=>(simp[intOf]<;>omega)
     | true=>
       have e2':=b_ (show l[k].name=nm from qw (by simpa using e2))
       go_wp2_with (at_builtin;refine sQ rfl _ _ rfl w.heap.size _ (dZ l nm k) rfl ?h1 wr.heap.size (k:Int) ?hx ?h2 ?h3 ?h4 ?_;rotate_left 5;intro v1 w1 hown1 hg1 hat1;have hz1:=hg1.size)
       case hx=>rfl
       case h1=>exact l9 ho ((c_ _ _).alloc (d_ _) _)
       case h2=>exact Row.new wr 3 #[.int .i64 (k:Int)]
       case h3=>have:=hdl.out;have:=hn'.out;omega
       case h4=>have:=hb.size;simp;omega
       go_wp2_with fail
       go_roundw
       case rel=>
        refine⟨k+1,by omega,by go_num,by rw[hhit.out (by simp[Ce,e1,e2'.out])];exact hown1, ?_⟩;have hs0:=hb.size;refine x_ (hb.alloc hb.size _) hg1 (by simp;omega) (fun g hg=> ?_);have hge:=H9 ho hg;omega
       case measure=>(simp[intOf]<;>omega)
  ·have hf:=b_ (show k=l.length by omega)
   go_wp2_with fail
   go_ret
   exact⟨_,rfl,by rw[← hf.out];exact ho,hb⟩
def FT(D:List Int):Int:=match D with| []=> -1| [x]=>x|_=> -2
theorem BL(l:List GPart)(nm:ByteArray)(fp:List Nat)(v:Value)(w:World)(hS:Sl w (l.map GPart.toD) fp v)(hn:l.length≤1048576):Calls Tryz.prog 24 #[v,.string nm] w (Ey (.int .i64 (FT (dZ l nm l.length))) w):=by
 have hc:=KT l nm fp v w hS hn;have hle:=b_ (rY l nm l.length);unfold zk at hc;generalize dZ l nm l.length=D at*;obtain⟨A,c,rfl,_,_⟩:=hS.jk;clear hS
 go_enter Tryz.func24,Tryz.ntmps24
 go_wp2_with fail
 refine hc.mono ?_;rintro e w1 ⟨v1,rfl,ho,hb⟩;have hsl:=ho.sl;obtain⟨A1,c1,rfl,_,_⟩:=hsl.jk
 match D,ho,hsl,hle with
 | [],ho,hsl,hle=>
   clear ho hsl hle
   go_wp2_with fail
   go_ret
   exact⟨rfl,hb⟩
 | [x],ho,hsl,hle=>
   obtain⟨b,o,fi,ci,rfl,hbb,hbf,hri,hfi,hat⟩:=hsl.elem Oz (k:=0) (d:=li x) rfl;obtain⟨rfl,rfl⟩:=hri;have q0:w1.cell? ⟨b,o,none⟩=some (.int .i64 x):=by simpa using hat.head
   clear hat ho hsl hle
   go_wp2_with fail
   go_ret
   exact⟨rfl,hb⟩
 | x::y::r,ho,hsl,hle=>
   have hl:(x::y::r).length≤1048576:=Nat.le_trans hle.out hn;rw[g_,g_]at hl;clear ho hsl hle
   go_wp2_with fail
   go_ret
   exact⟨rfl,hb⟩
def sK(l:List GPart)(i:Int):Bool:=if 0≤i then(match l[i.toNat]? with|some x=>(x.kind !=1) && decide (1<(dZ l x.name l.length).length)|none=>false)else false
theorem agi{l:List GPart}{nm:ByteArray}{n:Nat}:decide (1<(dZ l nm n).length)=(FT (dZ l nm n)== -2):=by
 have hnn:∀x∈dZ l nm n,0≤x:=by
  induction n with
  |zero=>intro x hx;simp[dZ]at hx
  | succ k ih=>
    intro x hx;rw[dZ,t_]at hx;rcases hx with hx|hx
    ·exact ih x hx
    ·split at hx
     ·split at hx
      ·simp at hx;omega
      ·simp at hx
     ·simp at hx
 generalize dZ l nm n=D at*
 match D,hnn with
 | [],_=>rfl
 | [x],hnn=>
   have:=hnn x (by simp);simp[FT];omega
 |x::y::r,_=>simp[FT]
theorem Ea(l:List GPart)(i:Int)(fp:List Nat)(v:Value)(w:World)(hS:Sl w (l.map GPart.toD) fp v)(hn:l.length≤1048576):Calls Tryz.prog 28 #[v,.int .i64 i] w (Ey (.bool (sK l i)) w):=by
 have hc:=fun nm=>zT l nm fp v w hS hn
 have hS':=hS;obtain⟨A,c,rfl,_,_⟩:=hS.jk;clear hS;unfold sK;by_cases h0:0≤i
 ·rw [if_pos h0];by_cases h1:i<l.length
  ·obtain⟨k,rfl⟩:=Int.eq_ofNat_of_zero_le h0;have hlt:k<l.length:=by omega
   have hd:(l.map GPart.toD)[k]? =some (GPart.toD l[k]):=by rw[e_,a_ hlt];rfl
   obtain⟨b,o,fi,ci,rfl,hbb,hbf,hri,hfi,hat⟩:=hS'.elem GPart.szs hd;obtain⟨v0,v1,v2,v3,f0,f1,f2,f3,rfl,rfl,hS0,hS1,hS2,hS3⟩:=GPart.opened.1 hri;have q0:w.cell? ⟨b,o+k*14,none⟩=some (.int .i64 l[k].kind):=hat.head;have q1:w.cell? ⟨b,o+k*14+1,none⟩=some (.string l[k].name):=hat.nth 1 rfl;have hc':=hc l[k].name;rw[Int.toNat_natCast,a_ hlt];clear hat hd hri hS0 hS1 hS2 hS3 hc hS';dsimp only;cases e1:(l[k].kind !=1)with
   | false=>
     clear hc'
     go_enter Tryz.func28,Tryz.ntmps28
     go_wp2_with fail
     go_ret
     exact⟨rfl,c_ _ _⟩
   | true=>
     rw[Bool.true_and];cases e2:decide (1<(dZ l l[k].name l.length).length)with
     | true=>
       have p2:(1:Int)<((dZ l l[k].name l.length).length:Int):=by have:=of_decide_eq_true e2;omega
       clear e2
       go_enter Tryz.func28,Tryz.ntmps28
       go_wp2_with (go_at_call 23;refine hc'.mono ?_;rintro e w1 ⟨v1,rfl,ho,hb⟩;obtain⟨A1,c1,rfl,_,_⟩:=ho.sl.jk)
       go_ret
       exact⟨rfl,hb⟩
     | false=>
       have p2:¬(1:Int)<((dZ l l[k].name l.length).length:Int):=by have:=of_decide_eq_false e2;omega
       clear e2
       go_enter Tryz.func28,Tryz.ntmps28
       go_wp2_with (go_at_call 23;refine hc'.mono ?_;rintro e w1 ⟨v1,rfl,ho,hb⟩;obtain⟨A1,c1,rfl,_,_⟩:=ho.sl.jk)
       go_ret
       exact⟨gV (decide_eq_false (Int.not_lt.2 p2)),hb⟩
  ·have hnone:l[i.toNat]? =none:=n_ (by omega);rw[hnone];clear hc hS'
   go_enter Tryz.func28,Tryz.ntmps28
   go_wp2_with fail
   go_ret
   exact⟨rfl,c_ _ _⟩
 ·rw[if_neg h0];clear hc hS'
  go_enter Tryz.func28,Tryz.ntmps28
  go_wp2_with fail
  go_ret
  exact⟨rfl,c_ _ _⟩
theorem D9(l:List GPart)(i:Int)(fp:List Nat)(v:Value)(w:World)(hS:Sl w (l.map GPart.toD) fp v)(hn:l.length≤1048576):Calls Tryz.prog 101 #[v,.int .i64 i] w (Ey (.bool (sK l i)) w):=by
 have hc:=fun nm=>BL l nm fp v w hS hn
 have hS':=hS;obtain⟨A,c,rfl,_,_⟩:=hS.jk;clear hS;unfold sK;by_cases h0:0≤i
 ·rw [if_pos h0];by_cases h1:i<l.length
  ·obtain⟨k,rfl⟩:=Int.eq_ofNat_of_zero_le h0;have hlt:k<l.length:=by omega
   have hd:(l.map GPart.toD)[k]? =some (GPart.toD l[k]):=by rw[e_,a_ hlt];rfl
   obtain⟨b,o,fi,ci,rfl,hbb,hbf,hri,hfi,hat⟩:=hS'.elem GPart.szs hd;obtain⟨v0,v1,v2,v3,f0,f1,f2,f3,rfl,rfl,hS0,hS1,hS2,hS3⟩:=GPart.opened.1 hri;have q0:w.cell? ⟨b,o+k*14,none⟩=some (.int .i64 l[k].kind):=hat.head;have q1:w.cell? ⟨b,o+k*14+1,none⟩=some (.string l[k].name):=hat.nth 1 rfl;have hc':=hc l[k].name;rw[Int.toNat_natCast,a_ hlt];clear hat hd hri hS0 hS1 hS2 hS3 hc hS';dsimp only;have qin:inR (k:Int) 0 ((l.length:Int) - 1)=true:=by unfold inR;simp;omega
   cases e1:(l[k].kind !=1)with
   | false=>
     clear hc'
     go_enter Tryz.func101,Tryz.ntmps101
     go_wp2_with (go_at_call 60;refine(qm _ _ _ _).mono ?_;rintro e w' ⟨rfl,rfl⟩)
     go_ret
     exact⟨rfl,c_ _ _⟩
   | true=>
     rw[Bool.true_and];rw[agi];generalize FT (dZ l l[k].name l.length)=rv at*;cases e2:(rv== -2)with
     | true=>
       go_enter Tryz.func101,Tryz.ntmps101
       go_wp2_with (first|(go_at_call 60;refine(qm _ _ _ _).mono ?_;rintro e w' ⟨rfl,rfl⟩)|(go_at_call 24;refine hc'.mono ?_;rintro e w1 ⟨rfl,hb⟩))
       go_ret
       exact⟨rfl,hb⟩
     | false=>
       go_enter Tryz.func101,Tryz.ntmps101
       go_wp2_with (first|(go_at_call 60;refine(qm _ _ _ _).mono ?_;rintro e w' ⟨rfl,rfl⟩)|(go_at_call 24;refine hc'.mono ?_;rintro e w1 ⟨rfl,hb⟩))
       go_ret
       exact⟨rfl,hb⟩
  ·have hnone:l[i.toNat]? =none:=n_ (by omega);rw[hnone];clear hc hS';have qin:inR i 0 ((l.length:Int) - 1)=false:=by unfold inR;simp;omega
   go_enter Tryz.func101,Tryz.ntmps101
   go_wp2_with (go_at_call 60;refine(qm _ _ _ _).mono ?_;rintro e w' ⟨rfl,rfl⟩)
   go_ret
   exact⟨rfl,c_ _ _⟩
 ·rw[if_neg h0];clear hc hS';have qin:inR i 0 ((l.length:Int) - 1)=false:=by unfold inR;simp;omega
  go_enter Tryz.func101,Tryz.ntmps101
  go_wp2_with (go_at_call 60;refine(qm _ _ _ _).mono ?_;rintro e w' ⟨rfl,rfl⟩)
  go_ret
  exact⟨rfl,c_ _ _⟩
def jZ :List ByteArray→ByteArray→Nat→Int
 | [],_,_=> -1
 |x::r,s,k=>if x=s then(k:Int)else jZ r s (k+1)
def sJ :List ByteArray→ByteArray→Bool
 | [],_=>false
 |x::r,s=>decide (x=s)|| sJ r s
def Eb(l:List ByteArray)(s:ByteArray):Int:=jZ l s 0
theorem Ci(l:List ByteArray)(s:ByteArray)(fp:List Nat)(v:Value)(w:World)(hS:Sl w (l.map ls) fp v):Calls Tryz.prog 95 #[v,.string s] w (UF (.int .i64 (Eb l s)) w):=by
 obtain⟨A,c,rfl,hl,hc⟩:=hS.jk;have hm:l.length≤9223372036854775807:=by unfold maxLen at hc;omega
 clear hl hc
 go_enter Tryz.func95,Tryz.ntmps95
 go_wp2_with fail
 go_loop [9] (fun iv=>∃k:Nat,k≤l.length∧iv= .int .i64 k∧Eb l s=jZ (l.drop k) s k) (fun iv=>l.length - (intOf iv).toNat)
 case atStart=>exact⟨0,by omega,rfl,rfl⟩
 case round=>
  obtain⟨k,hk,rfl,he⟩:=hrel;have he':=b_ he;clear he;by_cases hlt:k<l.length
  ·have hd:(l.map ls)[k]? =some (ls l[k]):=by rw[e_,a_ hlt];rfl
   obtain⟨b,o,fi,ci,rfl,hbb,hbf,hri,hfi,hat⟩:=hS.elem kX hd;obtain⟨rfl,rfl⟩:=hri;simp only[y_]at hat;have q0:w.cell? ⟨b,o+k,none⟩=some (.string l[k]):=hat.head;clear hat hd;have hst:=b_ (show jZ (l.drop k) s k=if l[k]=s then(k:Int)else jZ (l.drop (k+1)) s (k+1) by rw[i_ hlt,jZ]);cases e1:(l[k].toList==s.toList)with
   | true=>
     have hid:l[k]=s:=qw (by simpa using e1);have hf:=b_ (show(k:Int)=Eb l s by rw[he'.out,hst.out,if_pos hid]);clear hid
     go_wp2_with fail
     go_ret
     exact⟨gQ hf.out,rfl⟩
   | false=>
     have hid:¬l[k]=s:=fun e=>by simp[e]at e1
     have hf:=b_ (show Eb l s=jZ (l.drop (k+1)) s (k+1) by rw[he'.out,hst.out,if_neg hid]);clear hid
     go_wp2_with fail
     go_round
     case rel=>exact⟨k+1,by omega,by go_num,hf.out⟩
     case measure=>(simp[intOf]<;>omega)
  ·have hf:=b_ (show(-1:Int)=Eb l s by rw[he'.out,m_ (by omega)];rfl)
   go_wp2_with fail
   go_ret
   exact⟨gQ hf.out,rfl⟩
theorem Iw(l:List ByteArray)(s:ByteArray)(fp:List Nat)(v:Value)(w:World)(hS:Sl w (l.map ls) fp v):Calls Tryz.prog 110 #[v,.string s] w (UF (.bool (sJ l s)) w):=by
 obtain⟨A,c,rfl,hl,hc⟩:=hS.jk;have hm:l.length≤9223372036854775807:=by unfold maxLen at hc;omega
 clear hl hc
 go_enter Tryz.func110,Tryz.ntmps110
 go_wp2_with fail
 go_loop [5] (fun iv=>∃k:Nat,k≤l.length∧iv= .int .i64 k∧sJ l s=sJ (l.drop k) s) (fun iv=>l.length - (intOf iv).toNat)
 case atStart=>exact⟨0,by omega,rfl,rfl⟩
 case round=>
  obtain⟨k,hk,rfl,he⟩:=hrel;have he':=b_ he;clear he;by_cases hlt:k<l.length
  ·have hd:(l.map ls)[k]? =some (ls l[k]):=by rw[e_,a_ hlt];rfl
   obtain⟨b,o,fi,ci,rfl,hbb,hbf,hri,hfi,hat⟩:=hS.elem kX hd;obtain⟨rfl,rfl⟩:=hri;simp only[y_]at hat;have q0:w.cell? ⟨b,o+k,none⟩=some (.string l[k]):=hat.head;clear hat hd;have hst:=b_ (show sJ (l.drop k) s=(decide (l[k]=s)|| sJ (l.drop (k+1)) s) by rw[i_ hlt,sJ]);cases e1:(l[k].toList==s.toList)with
   | true=>
     have hid:l[k]=s:=qw (by simpa using e1);have hf:=b_ (show true=sJ l s by rw[he'.out,hst.out];simp[hid]);clear hid
     go_wp2_with fail
     go_ret
     exact⟨gV hf.out,rfl⟩
   | false=>
     have hid:¬l[k]=s:=fun e=>by simp[e]at e1
     have hf:=b_ (show sJ l s=sJ (l.drop (k+1)) s by rw[he'.out,hst.out];simp[hid]);clear hid
     go_wp2_with fail
     go_round
     case rel=>exact⟨k+1,by omega,by go_num,hf.out⟩
     case measure=>(simp[intOf]<;>omega)
  ·have hf:=b_ (show false=sJ l s by rw[he'.out,m_ (by omega)];rfl)
   go_wp2_with fail
   go_ret
   exact⟨gV hf.out,rfl⟩
end
section
open List renaming getElem?_eq_getElem→a_,getElem?_map→e_,length_cons→g_,length_map→h_,drop_eq_getElem_cons→i_,getElem_mem→j_,drop_eq_nil_of_le→m_,getElem?_eq_none→n_,map_cons→o_,length_append→p_,map_nil→q_,length_nil→s_,mem_append→t_
open Lib renaming hid→b_
open Below renaming refl→c_,grown→x_
open Nat renaming le_refl→d_,zero_le→f_,mul_one→y_
open Value renaming int→l_,ownBlock→v_
attribute [local irreducible] sw sd sn
theorem aI.toX{P:Program}{f:Nat}{ds:List D}{v:Value}{p:AV→Prop}(h:aI P f ds (.c false [.raw v]))(hp:p (.c false [.raw v])):bC P f ds (fun r os'=>p r∧os'= []):=fun w vs hr ht=>
 (h w vs hr ht).mono fun e w' ⟨u,he,hu,hb⟩=>⟨_,[],⟨hp,rfl⟩,rfl,by
  obtain rfl:u=v:=hu.1;exact⟨_,[],he,⟨rfl,fun k o p hk=>by simp at hk,by simp,Lin.nil,Unf.nil⟩,⟨rfl,trivial⟩,hb⟩⟩
theorem aiT(l:List ByteArray)(s:ByteArray):aI Tryz.prog 110 [.sl (l.map ls),ls s] (.c false [.raw (.bool (sJ l s))]):=Gl fun w vs hr=>by
 obtain⟨v,u,rfl,h1,h2⟩:=Qq hr;obtain⟨fp,hS⟩:=xI h1;obtain rfl:=pX h2;exact Iw l s fp v w hS
theorem inW(n lo hi:Int):bC Tryz.prog 60 [li n,li lo,li hi] (fun r os'=>(∃b:Bool,r= .c false [.raw (.bool b)])∧os'= []):=aI.toX (tK n lo hi) ⟨_,rfl⟩
theorem nmW(s:ByteArray)(h:s.size≤1048576):bC Tryz.prog 133 [ls s] (fun r os'=>(∃b:Bool,r= .c false [.raw (.bool b)])∧os'= []):=aI.toX (og s h) ⟨_,rfl⟩
def Bh(W:Nat)(l:List ByteArray):Prop:=l.length≤W∧∀s∈l,s.size≤W
def Yv :IC:=(zd_ [zj_ 2 false] (zd_ [zw_ 3 0,zz_ 4 (.call 60 [(.t 3),(.k (.int .i64 (-1000000000))),(.k (.int .i64 1000000000))]),zw_ 2 4] .ret))
theorem VN :ak Tryz.prog (Tryz.f183.body.getD .skip)=some Yv:=by kernel_rfl
theorem acX(n:Int):bC Tryz.prog 183 [li n] (fun r os'=>(∃b:Bool,r= .c false [.raw (.bool b)])∧os'= []):=by
 refine dS (fn:=Tryz.f183) (r:= .tmp 2) (hc:=VN) (h:= ?_);unfold Yv;refine zb_ ?_;change AWP _ _ _ (st0 5 _);refine sS tdX ?_
 repeat' (first|(refine rg_ ?_;intro K hK)|(refine hq_ ?_;clear hK K)|refine ca_ ?_ ?_|(refine cg_ ?_;first|(refine bn (h:=(inW _ _ _)) (hK:= ?_);rintro _ _ ⟨⟨_|_,rfl⟩,rfl⟩))|refine sz_ (aiX tdE @GRow.el) ?_|refine nv ?_|(refine c2_ ?_ ?_<;>(intro hb hb';try(exfalso;omega)))|exact bq_|fail)
 all_goals exact bQ rfl rfl ⟨⟨_,rfl⟩,rfl⟩
def SI :IC:=(zd_ [zj_ 2 false] (.seq (zd_ [zk_ 3 0] (.block 0 (.loop (.seq (zd_ [zw_ 4 3,zw_ 5 0,zf_ 6 false 5,zl_ 7 .lss 4 6] (.cond (.t 7) .skip (.exit 0))) (.seq (.block 1 (.seq (.regN true [] [zw_ 10 0,zw_ 11 3,zz_ 12 (.lsl 1 (.t 10) none (some (.t 11))),zw_ 13 0,zw_ 14 3,ze_ 15 1 13 14,zs_ 16 1 15,zp_ 17 110 12 16]) (.cond (.t 17) (zd_ [zj_ 2 false] .ret) .skip))) (.reg false [zw_ 8 3,zm_ 9 .add 8 1,zw_ 3 9])))))) (zd_ [zj_ 2 true] .ret)))
theorem SH :ak Tryz.prog (Tryz.f187.body.getD .skip)=some SI:=by kernel_rfl
theorem agk(l:List ByteArray)(hl:l.length≤1048576):bC Tryz.prog 187 [.sl (l.map ls)] (fun r os'=>(∃b:Bool,r= .c false [.raw (.bool b)])∧os'= []):=by
 refine dS (fn:=Tryz.f187) (r:= .tmp 2) (hc:=SH) (h:= ?_);unfold SI;refine zb_ ?_;change AWP _ _ _ (st0 18 _);refine sS tdX ?_
 repeat' (first|(refine hq_ ?_;clear hK K)|refine ca_ ?_ ?_|refine sz_ (aiX tdE @GRow.el) ?_|refine nv ?_|(refine rD ?_;intro K hK)|(refine c2_ ?_ ?_<;>(intro hb hb';try(exfalso;omega)))|exact bq_|fail)
 refine aQ (X:=Nat) (fun z=> [.k,.d,.d,.v (.c false [.raw (.int .i64 ((z:Nat)))])]) (fun _=> []) (fun _ _=> []) (fun z=>z≤l.length) (fun z=>l.length - z) 0 (f_ _) ?_ ?_
 ·simp[aG,aU,aC,aF,AV.fits,AC.fits,FB,aB]
 rintro z hz;simp only[FB,aB];by_cases hlt:z<l.length
 ·have hT:decide ((z:Int)<(l.length:Int))=true:=decide_eq_true (by omega);have hw1:(z:Int)+1=((z+1:Nat):Int):=by omega
  have hg:idx (l.map ls) (some (z:Int))=some (ls l[z]):=bU ls l hlt;have hs:mV none (some (z:Int)) l.length=some (0,z):=by simp[mV];omega
  have hh:=aiT (l.take z) l[z];rw[List.map_take]at hh;cases hb:sJ (l.take z) l[z]
  all_goals rw[hb]at hh
  all_goals(repeat' (first|((with_reducible refine hK _ ?_);clear hK K)|(with_reducible refine fC ?_ ?_)|((with_reducible refine oK ?_);first|refine bT (hc:=hh) (h:= ?_))|((with_reducible refine WC ?_);first|refine Zf (hc:=hh) (h:= ?_))|((with_reducible refine jg ?_);refine ss (aiX tdE (aiX @GRow.el (aiX hT (aiX hw1 (aiX hs hg))))) ?_)|((with_reducible refine Xo ?_);refine sx (aiX tdE (aiX @GRow.el (aiX hT (aiX hw1 (aiX hs hg))))) ?_)|refine nv ?_|(refine rD ?_;intro K hK)|(with_reducible (refine cS rfl ?_ ?_)<;>(intro hb hb';try(exfalso;omega)))|exact wG|exact jm))
  all_goals first
   |exact bW _
   |exact bQ rfl rfl ⟨⟨_,rfl⟩,rfl⟩
   | (refine aP (z+1) ?_ (show z+1≤l.length by omega) (show l.length - (z+1)<l.length - z by omega)
      simp[aG,aU,aC,aF,AV.fits,AC.fits,FB,aB]
      done)
 ·have hT:decide ((z:Int)<(l.length:Int))=false:=decide_eq_false (by omega)
  repeat' (first|(refine hq_ ?_;clear hK K)|refine ca_ ?_ ?_|refine sz_ (a3_ tdE @GRow.el hT) ?_|refine nv ?_|(refine rD ?_;intro K hK)|(refine c2_ ?_ ?_<;>(intro hb hb';try(exfalso;omega)))|exact bq_|fail)
  all_goals exact bQ rfl rfl ⟨⟨_,rfl⟩,rfl⟩
def Tf :IC:=(zd_ [zj_ 2 false] (.seq (zd_ [zk_ 3 0] (.block 0 (.loop (.seq (zd_ [zw_ 4 3,zw_ 5 0,zf_ 6 false 5,zl_ 7 .lss 4 6] (.cond (.t 7) .skip (.exit 0))) (.seq (.block 1 (zd_ [zw_ 10 0,zw_ 11 3,ze_ 12 1 10 11,zs_ 13 1 12,zq_ 14 133 13,zz_ 15 (.not (.t 14))] (.cond (.t 15) (zd_ [zj_ 2 false] .ret) .skip))) (.reg false [zw_ 8 3,zm_ 9 .add 8 1,zw_ 3 9])))))) (zd_ [zw_ 16 0,zf_ 17 false 16,zz_ 18 (.call 60 [(.t 17),(.k (.int .i64 1)),(.k (.int .i64 4))]),zw_ 19 18,zv_ 20 19 0,zy_ 21 19 (.call 187 [(.t 20)]),zh_ 22 19 21 false,zw_ 2 22] .ret)))
theorem Td :ak Tryz.prog (Tryz.f141.body.getD .skip)=some Tf:=by kernel_rfl
theorem Zb(l:List ByteArray)(hl:Bh 1000 l):bC Tryz.prog 141 [.sl (l.map ls)] (fun r os'=>(∃b:Bool,r= .c false [.raw (.bool b)])∧os'= []):=by
 refine dS (fn:=Tryz.f141) (r:= .tmp 2) (hc:=Td) (h:= ?_);unfold Tf;refine zb_ ?_;change AWP _ _ _ (st0 23 _);refine sS tdX ?_;have hl1:=hl.1
 repeat' (first|(refine rg_ ?_;intro K hK)|(refine hq_ ?_;clear hK K)|refine ca_ ?_ ?_|refine gq_ ?_|(refine c2_ ?_ ?_<;>(intro hb hb';try(exfalso;omega)))|refine sz_ (aiX tdE @GRow.el) ?_|refine nv ?_|exact bq_|fail)
 refine aQ (X:=Nat) (fun z=> [.k,.d,.d,.v (.c false [.raw (.int .i64 ((z:Nat)))])]) (fun _=> []) (fun _ _=> []) (fun z=>z≤l.length) (fun z=>l.length - z) 0 (f_ _) ?_ ?_
 ·simp[aG,aU,aC,aF,AV.fits,AC.fits,FB,aB]
 rintro z hz;simp only[FB,aB];by_cases hlt:z<l.length
 ·have hT:decide ((z:Int)<(l.length:Int))=true:=decide_eq_true (by omega);have hw1:(z:Int)+1=((z+1:Nat):Int):=by omega
  have hg:idx (l.map ls) (some (z:Int))=some (ls l[z]):=bU ls l hlt;have hsz:=hl.2 _ (j_ hlt)
  repeat' (first|(refine rg_ ?_;intro K hK)|(refine hq_ ?_;clear hK K)|refine ca_ ?_ ?_|refine gq_ ?_|(refine c2_ ?_ ?_<;>(intro hb hb';try(exfalso;omega)))|(refine cg_ ?_;first|(refine bn (h:=(nmW _ (by omega))) (hK:= ?_);rintro _ _ ⟨⟨_|_,rfl⟩,rfl⟩))|refine sz_ (a5_ tdE @GRow.el hT hw1 hg) ?_|refine nv ?_|exact bq_|fail)
  all_goals first
   |omega
   |exact bW _
   |exact bQ rfl rfl ⟨⟨_,rfl⟩,rfl⟩
   | (refine aP (z+1) ?_ (show z+1≤l.length by omega) (show l.length - (z+1)<l.length - z by omega)
      simp[aG,aU,aC,aF,AV.fits,AC.fits,FB,aB]
      done)
 ·have hT:decide ((z:Int)<(l.length:Int))=false:=decide_eq_false (by omega)
  repeat' (first|(refine rg_ ?_;intro K hK)|(refine hq_ ?_;clear hK K)|refine ca_ ?_ ?_|refine gq_ ?_|(refine c2_ ?_ ?_<;>(intro hb hb';try(exfalso;omega)))|(refine cg_ ?_;first|(refine bn (h:=(inW _ _ _)) (hK:= ?_);rintro _ _ ⟨⟨_|_,rfl⟩,rfl⟩)|(refine bn (h:=(agk l (by omega))) (hK:= ?_);rintro _ _ ⟨⟨_|_,rfl⟩,rfl⟩))|refine sz_ (a3_ tdE @GRow.el hT) ?_|refine nv ?_|exact bq_|fail)
  all_goals exact bQ rfl rfl ⟨⟨_,rfl⟩,rfl⟩
abbrev dV(k n s:Int)(t:ByteArray)(cols:List ByteArray)(rows:List GRow):D:= .agg [.leaf (.int .i64 k),.leaf (.int .i64 n),.leaf (.int .i64 s),.leaf (.string t),.sl [],.sl (cols.map ls),.sl (rows.map GRow.toD)]
theorem eU(k n s:Int)(t:ByteArray)(c:List ByteArray)(r:List GRow):(dV k n s t c r).flat= [.leaf (.int .i64 k),.leaf (.int .i64 n),.leaf (.int .i64 s),.leaf (.string t),.sl [],.sl (c.map ls),.sl (r.map GRow.toD)]:=by simp[dV,D.flat,D.iW]
theorem gK(k n s:Int)(t:ByteArray)(c:List ByteArray)(r:List GRow)(b:Bool):(dV k n s t c r).acs b= [.raw (.int .i64 k),.raw (.int .i64 n),.raw (.int .i64 s),.raw (.string t),.sl b [],.sl b (c.map ls),.sl b (r.map GRow.toD)]:=by rw[D.acs,eU];rfl
theorem gu(k n s:Int)(t:ByteArray)(c:List ByteArray)(r:List GRow):(dV k n s t c r).isAgg=true:=rfl
theorem tdV :type_of% (aiX tdX (aiX @gK (aiX @gu @eU))):=aiX tdX (aiX @gK (aiX @gu @eU))
def J7(W:Nat)(rows:List GRow):Prop:=rows.length≤W∧∀r∈rows,r.cells.length≤W∧r.src= []
theorem aiy(l:List GRow):El 2 (l.map GRow.toD):=GRow.el l
def YM :IC:=(zd_ [zj_ 2 false] (.seq (zd_ [zk_ 3 0] (.block 0 (.loop (.seq (zd_ [zw_ 4 3,zw_ 5 0,zf_ 6 false 5,zl_ 7 .lss 4 6] (.cond (.t 7) .skip (.exit 0))) (.seq (.block 1 (.seq (.regN true [] [zw_ 10 0,zw_ 11 3,ze_ 12 2 10 11,zt_ 13 0 12,zs_ 14 1 13,zm_ 15 .lss 14 0,zw_ 16 15,zu_ 17 16 0,zu_ 18 16 3,zx_ 19 16 (.iad 2 (.t 17) (.t 18)),zx_ 20 16 (.fad 1 (.t 19)),zx_ 21 16 (.load 1 false (.t 20)),zx_ 22 16 (.bin .lss (.t 21) (.k (.int .i64 0))),zg_ 23 16 true 22,zw_ 24 23,zu_ 25 24 3,zx_ 26 24 (.bin .gtr (.t 25) (.k (.int .i64 0))),zu_ 27 24 26,zv_ 28 27 0,zv_ 29 27 3,zy_ 30 27 (.bin .sub (.t 29) (.k (.int .i64 1))),zy_ 31 27 (.iad 2 (.t 28) (.t 30)),zy_ 32 27 (.load 2 true (.t 31)),zv_ 33 27 0,zv_ 34 27 3,zy_ 35 27 (.iad 2 (.t 33) (.t 34)),zy_ 36 27 (.load 2 true (.t 35)),zy_ 37 27 (.call 221 [(.t 32),(.t 36)]),zy_ 38 27 (.not (.t 37)),zx_ 39 24 (.pick (.t 27) (.t 38) (.k (.bool false))),zg_ 40 24 true 39]) (.cond (.t 40) (zd_ [zj_ 2 false] .ret) .skip))) (.reg false [zw_ 8 3,zm_ 9 .add 8 1,zw_ 3 9])))))) (zd_ [zj_ 2 true] .ret)))
theorem Wh :ak Tryz.prog (Tryz.f216.body.getD .skip)=some YM:=by kernel_rfl
theorem ah1 :bC Tryz.prog 216 [.sl ([]:List D)] (fun r os'=>(∃b:Bool,r= .c false [.raw (.bool b)])∧os'= []):=by
 refine dS (fn:=Tryz.f216) (r:= .tmp 2) (hc:=Wh) (h:= ?_);unfold YM;refine zb_ ?_;change AWP _ _ _ (st0 41 _);refine sS tdX ?_
 repeat' (first|(refine hq_ ?_;clear hK K)|refine ca_ ?_ ?_|refine gq_ ?_|(refine c2_ ?_ ?_<;>(intro hb hb';try(exfalso;omega)))|refine sz_ (a6_ tdE @gK @gu @eU @dV.eq_1 @GRow.el) ?_|refine nv ?_|(refine rD ?_;intro K hK)|exact bq_|fail)
 refine aQ (X:=Nat) (fun z=> [.k,.d,.d,.v (.c false [.raw (.int .i64 ((z:Nat)))])]) (fun _=> []) (fun _ _=> []) (fun z=>z=0) (fun z=>0) 0 rfl ?_ ?_
 ·simp[aG,aU,aC,aF,AV.fits,AC.fits,FB,aB]
 rintro z hz
 try simp only at hz
 subst hz;simp only[FB,aB];have hT:decide ((((0:Nat):Int))<((([]:List D).length:Nat):Int))=false:=rfl
 repeat' (first|(refine hq_ ?_;clear hK K)|refine ca_ ?_ ?_|refine gq_ ?_|(refine c2_ ?_ ?_<;>(intro hb hb';try(exfalso;omega)))|refine sz_ (a7_ tdE @gK @gu @eU @dV.eq_1 @GRow.el hT) ?_|refine nv ?_|(refine rD ?_;intro K hK)|exact bq_|fail)
 all_goals exact bQ rfl rfl ⟨⟨_,rfl⟩,rfl⟩
def Yk :IC:=(zd_ [zz_ 1 (.box (.t 0)),zj_ 2 false] (.seq (zd_ [zt_ 6 5 1,zs_ 7 1 6,zq_ 8 141 7,zz_ 9 (.not (.t 8)),zw_ 10 9,zx_ 11 10 (.fad 6 (.t 1)),zx_ 12 10 (.load 1 false (.t 11)),zx_ 13 10 (.len false (.t 12)),zx_ 14 10 (.bin .gtr (.t 13) (.k (.int .i64 12))),zg_ 15 10 true 14] (.cond (.t 15) (zd_ [zj_ 2 false] .ret) .skip)) (.seq (zd_ [zk_ 3 0] (.block 0 (.loop (.seq (zd_ [zw_ 16 3,zt_ 17 6 1,zs_ 18 1 17,zf_ 19 false 18,zl_ 20 .lss 16 19] (.cond (.t 20) .skip (.exit 0))) (.seq (.block 1 (zd_ [zt_ 23 6 1,zs_ 24 1 23,zw_ 25 3,ze_ 26 2 24 25,zr_ 27 2 26,zz_ 4 (.alloc [(.slice none 0 0),(.slice none 0 0)]),⟨none,none,.store 2 (.t 4) (.t 27)⟩] (.seq (zd_ [zt_ 28 0 4,zs_ 29 1 28,zf_ 30 false 29,zt_ 31 5 1,zs_ 32 1 31,zf_ 33 false 32,zl_ 34 .neq 30 33,zw_ 35 34,zx_ 36 35 (.fad 1 (.t 4)),zx_ 37 35 (.load 1 false (.t 36)),zx_ 38 35 (.call 216 [(.t 37)]),zx_ 39 35 (.not (.t 38)),zg_ 40 35 true 39] (.cond (.t 40) (zd_ [zj_ 2 false] .ret) .skip)) (zd_ [zk_ 5 0] (.block 2 (.loop (.seq (zd_ [zw_ 41 5,zt_ 42 0 4,zs_ 43 1 42,zf_ 44 false 43,zl_ 45 .lss 41 44] (.cond (.t 45) .skip (.exit 2))) (.seq (.block 3 (zd_ [zt_ 48 0 4,zs_ 49 1 48,zw_ 50 5,ze_ 51 1 49 50,zs_ 52 1 51,zq_ 53 183 52,zz_ 54 (.not (.t 53))] (.cond (.t 54) (zd_ [zj_ 2 false] .ret) .skip))) (.reg false [zw_ 46 5,zm_ 47 .add 46 1,zw_ 5 47]))))))))) (.reg false [zw_ 21 3,zm_ 22 .add 21 1,zw_ 3 22])))))) (zd_ [zj_ 2 true] .ret))))
theorem VA :ak Tryz.prog (Tryz.f186.body.getD .skip)=some Yk:=by kernel_rfl
theorem aho(k n s:Int)(t:ByteArray)(c:List ByteArray)(r:List GRow)(hc:Bh 1000 c)(hr:J7 1000 r):bC Tryz.prog 186 [dV k n s t c r] (fun r os'=>(∃b:Bool,r= .c false [.raw (.bool b)])∧os'= []):=by
 refine dS (fn:=Tryz.f186) (r:= .tmp 2) (hc:=VA) (h:= ?_);unfold Yk;refine zb_ ?_;change AWP _ _ _ (st0 55 _);refine sS tdV ?_;have hr1:=hr.1
 repeat' (first|(refine rg_ ?_;intro K hK)|(refine hq_ ?_;clear hK K)|refine ca_ ?_ ?_|refine gq_ ?_|(refine c2_ ?_ ?_<;>(intro hb hb';try(exfalso;omega)))|(refine cg_ ?_;first|(refine bn (h:=(Zb c hc)) (hK:= ?_);rintro _ _ ⟨⟨_|_,rfl⟩,rfl⟩))|refine sz_ (a6_ tdE @gK @gu @eU @dV.eq_1 @GRow.el) ?_|refine nv ?_|exact bq_|fail)
 all_goals first
  |exact bQ rfl rfl ⟨⟨_,rfl⟩,rfl⟩
  |skip
 refine aQ (X:=Nat) (fun z=> [.d,.k,.d,.v (.c false [.raw (.int .i64 ((z:Nat)))])]) (fun _=> []) (fun _ _=> [[.raw (.int .i64 k),.raw (.int .i64 n),.raw (.int .i64 s),.raw (.string t),.sl false [],.sl false (c.map ls),.sl false (r.map GRow.toD)]]) (fun z=>z≤r.length) (fun z=>r.length - z) 0 (f_ _) ?_ ?_
 ·simp[aG,aU,aC,aF,AV.fits,AC.fits,FB,aB]
 rintro z hz;simp only[FB,aB];by_cases hlt:z<r.length
 ·have hT:decide ((z:Int)<(r.length:Int))=true:=decide_eq_true (by omega);have hw1:(z:Int)+1=((z+1:Nat):Int):=by omega
  have hg:idx (r.map GRow.toD) (some (z:Int))=some (r[z]).toD:=bU GRow.toD r hlt;obtain⟨hcl,hsrc⟩:=hr.2 _ (j_ hlt)
  repeat' (first|(refine rg_ ?_;intro K hK)|(refine hq_ ?_;clear hK K)|refine ca_ ?_ ?_|refine gq_ ?_|(refine c2_ ?_ ?_<;>(intro hb hb';try(exfalso;omega)))|(refine cg_ ?_;first|(refine bn (h:=ah1) (hK:= ?_);rintro _ _ ⟨⟨_|_,rfl⟩,rfl⟩))|refine sz_ (WU tdE @gK @gu @eU @dV.eq_1 @GRow.el hT hw1 hg hsrc) ?_|refine nv ?_|exact bq_|fail)
  all_goals first
   |omega
   |exact aiy r
   |exact bQ rfl rfl ⟨⟨_,rfl⟩,rfl⟩
   |skip
  refine aQ (X:=Nat) (fun y=> [.d,.k,.d,.k,.k,.v (.c false [.raw (.int .i64 ((y:Nat)))])]) (fun _=> []) (fun _ _=> [[.raw (.int .i64 k),.raw (.int .i64 n),.raw (.int .i64 s),.raw (.string t),.sl false [],.sl false (c.map ls),.sl false (r.map GRow.toD)],[.sl false ((r[z]).cells.map li),.sl false []]]) (fun y=>y≤(r[z]).cells.length) (fun y=>(r[z]).cells.length - y) 0 (f_ _) ?_ ?_
  ·simp[aG,aU,aC,aF,AV.fits,AC.fits,FB,aB]
  rintro y hy;simp only[FB,aB];by_cases hlt2:y<(r[z]).cells.length
  ·have hT2:decide ((y:Int)<((r[z]).cells.length:Int))=true:=decide_eq_true (by omega);have hw2:(y:Int)+1=((y+1:Nat):Int):=by omega
   have hg2:idx ((r[z]).cells.map li) (some (y:Int))=some (li (r[z]).cells[y]):=bU li _ hlt2
   repeat' (first|(refine rg_ ?_;intro K hK)|(refine hq_ ?_;clear hK K)|refine ca_ ?_ ?_|refine gq_ ?_|(refine c2_ ?_ ?_<;>(intro hb hb';try(exfalso;omega)))|(refine cg_ ?_;first|(refine bn (h:=(acX _)) (hK:= ?_);rintro _ _ ⟨⟨_|_,rfl⟩,rfl⟩))|refine sz_ (a9_ tdE @gK @gu @eU @dV.eq_1 @GRow.el hT2 hw2 hg2) ?_|refine nv ?_|exact bq_|fail)
   all_goals first
    |omega
    |exact eP _
    |exact bQ rfl rfl ⟨⟨_,rfl⟩,rfl⟩
    | (refine aP (y+1) ?_ (show y+1≤(r[z]).cells.length by omega) (show(r[z]).cells.length - (y+1)<(r[z]).cells.length - y by omega)
       simp[aG,aU,aC,aF,AV.fits,AC.fits,FB,aB]
       done)
  ·have hT2:decide ((y:Int)<((r[z]).cells.length:Int))=false:=decide_eq_false (by omega)
   repeat' (first|(refine rg_ ?_;intro K hK)|(refine hq_ ?_;clear hK K)|refine ca_ ?_ ?_|refine gq_ ?_|(refine c2_ ?_ ?_<;>(intro hb hb';try(exfalso;omega)))|refine sz_ (a8_ tdE @gK @gu @eU @dV.eq_1 @GRow.el hT2 hw1) ?_|refine nv ?_|exact bq_|fail)
   all_goals first
    |omega
    | (refine aP (z+1) ?_ (show z+1≤r.length by omega) (show r.length - (z+1)<r.length - z by omega)
       simp[aG,aU,aC,aF,AV.fits,AC.fits,FB,aB]
       done)
 ·have hT:decide ((z:Int)<(r.length:Int))=false:=decide_eq_false (by omega)
  repeat' (first|(refine rg_ ?_;intro K hK)|(refine hq_ ?_;clear hK K)|refine ca_ ?_ ?_|refine gq_ ?_|(refine c2_ ?_ ?_<;>(intro hb hb';try(exfalso;omega)))|refine sz_ (a7_ tdE @gK @gu @eU @dV.eq_1 @GRow.el hT) ?_|refine nv ?_|exact bq_|fail)
  all_goals exact bQ rfl rfl ⟨⟨_,rfl⟩,rfl⟩
def Vy :IC:=(zd_ [zj_ 2 false] .ret)
def Vx :IC:=(zd_ [zj_ 2 false] .ret)
def Vw :IC:=(zd_ [zt_ 49 1 1,zs_ 50 1 49,zq_ 51 183 50,zw_ 2 51] .ret)
def Vu :IC:=(zd_ [zt_ 54 1 1,zs_ 55 1 54,zm_ 56 .eql 55 0,zw_ 57 56,zy_ 58 57 (.fad 3 (.t 1)),zy_ 59 57 (.load 1 false (.t 58)),zy_ 60 57 (.call 184 [(.t 59)]),zh_ 61 57 60 false,zw_ 2 61] .ret)
def Vt :IC:=(zd_ [zt_ 64 1 1,zs_ 65 1 64,zm_ 66 .eql 65 0,zw_ 67 66,zy_ 68 67 (.load 7 true (.t 1)),zy_ 69 67 (.call 185 [(.t 68)]),zh_ 70 67 69 false,zw_ 2 70] .ret)
def Vs :IC:=(zd_ [zt_ 73 1 1,zs_ 74 1 73,zq_ 75 183 74,zw_ 76 75,zy_ 77 76 (.fad 2 (.t 1)),zy_ 78 76 (.load 1 false (.t 77)),zy_ 79 76 (.call 183 [(.t 78)]),zh_ 80 76 79 false,zw_ 2 80] .ret)
def IL :IC:=(zd_ [zt_ 83 1 1,zs_ 84 1 83,zm_ 85 .eql 84 0,zw_ 86 85,zy_ 87 86 (.load 7 true (.t 1)),zy_ 88 86 (.call 186 [(.t 87)]),zh_ 89 86 88 false,zw_ 2 89] .ret)
def Vr :IC:=(zd_ [zt_ 92 1 1,zs_ 93 1 92,zz_ 94 (.call 60 [(.t 93),(.k (.int .i64 1)),(.k (.int .i64 8))]),zw_ 2 94] .ret)
def Yi :IC:=(zd_ [zz_ 1 (.box (.t 0)),zj_ 2 false] (.seq (zd_ [zt_ 3 0 1,zs_ 4 1 3,zm_ 5 .neq 4 3,zw_ 6 5,zy_ 7 6 (.fad 4 (.t 1)),zy_ 8 6 (.load 1 false (.t 7)),zy_ 9 6 (.len false (.t 8)),zy_ 10 6 (.bin .gtr (.t 9) (.k (.int .i64 0))),zh_ 11 6 10 false,zw_ 12 11,zx_ 13 12 (.fad 0 (.t 1)),zx_ 14 12 (.load 1 false (.t 13)),zx_ 15 12 (.bin .neq (.t 14) (.k (.int .i64 5))),zu_ 16 12 15,zy_ 17 16 (.fad 5 (.t 1)),zy_ 18 16 (.load 1 false (.t 17)),zy_ 19 16 (.len false (.t 18)),zy_ 20 16 (.fad 6 (.t 1)),zy_ 21 16 (.load 1 false (.t 20)),zy_ 22 16 (.len false (.t 21)),zy_ 23 16 (.bin .add (.t 19) (.t 22)),zy_ 24 16 (.bin .gtr (.t 23) (.k (.int .i64 0))),zx_ 25 12 (.pick (.t 16) (.t 24) (.k (.bool false))),zg_ 26 12 true 25] (.cond (.t 26) Vy .skip)) (.seq (zd_ [zt_ 27 0 1,zs_ 28 1 27,zm_ 29 .neq 28 2,zw_ 30 29,zy_ 31 30 (.fad 3 (.t 1)),zy_ 32 30 (.load 1 false (.t 31)),zy_ 33 30 (.bin .neq (.t 32) (.k (.string ⟨#[]⟩))),zh_ 34 30 33 false,zw_ 35 34,zx_ 36 35 (.fad 0 (.t 1)),zx_ 37 35 (.load 1 false (.t 36)),zx_ 38 35 (.bin .neq (.t 37) (.k (.int .i64 4))),zu_ 39 35 38,zy_ 40 39 (.fad 2 (.t 1)),zy_ 41 39 (.load 1 false (.t 40)),zy_ 42 39 (.bin .neq (.t 41) (.k (.int .i64 0))),zx_ 43 35 (.pick (.t 39) (.t 42) (.k (.bool false))),zg_ 44 35 true 43] (.cond (.t 44) Vx .skip)) (.seq (zd_ [zt_ 45 0 1,zs_ 46 1 45] (.block 0 (zd_ [zm_ 48 .eql 46 1,zw_ 47 48] (.cond (.t 47) Vw (zd_ [zm_ 53 .eql 46 2,zw_ 52 53] (.cond (.t 52) Vu (zd_ [zm_ 63 .eql 46 3,zw_ 62 63] (.cond (.t 62) Vt (zd_ [zm_ 72 .eql 46 4,zw_ 71 72] (.cond (.t 71) Vs (zd_ [zm_ 82 .eql 46 5,zw_ 81 82] (.cond (.t 81) IL (zd_ [zm_ 91 .eql 46 6,zw_ 90 91] (.cond (.t 90) Vr .skip)))))))))))))) (zd_ [zj_ 2 false] .ret)))))
theorem Vq :ak Tryz.prog (Tryz.f140.body.getD .skip)=some Yi:=by kernel_rfl
theorem abg(k n s:Int)(t:ByteArray)(c:List ByteArray)(r:List GRow)(hk:k=5)(hn:n=0)(hs:s=0)(ht:t=⟨#[]⟩)(hc:Bh 1000 c)(hr:J7 1000 r):bC Tryz.prog 140 [dV k n s t c r] (fun r os'=>(∃b:Bool,r= .c false [.raw (.bool b)])∧os'= []):=by
 refine dS (fn:=Tryz.f140) (r:= .tmp 2) (hc:=Vq) (h:= ?_);unfold Yi;refine zb_ ?_;change AWP _ _ _ (st0 95 _);refine sS tdV ?_;have k1:(k==1)=false:=by subst hk;rfl
 have k2:(k==2)=false:=by subst hk;rfl
 have k3:(k==3)=false:=by subst hk;rfl
 have k4:(k==4)=false:=by subst hk;rfl
 have k5:(k==5)=true:=by subst hk;rfl
 have k6:(k==6)=false:=by subst hk;rfl
 have j1:(k !=1)=true:=by subst hk;rfl
 have j2:(k !=2)=true:=by subst hk;rfl
 have j3:(k !=3)=true:=by subst hk;rfl
 have j4:(k !=4)=true:=by subst hk;rfl
 have j5:(k !=5)=false:=by subst hk;rfl
 have j6:(k !=6)=true:=by subst hk;rfl
 have n1:(n==0)=true:=by subst hn;rfl
 have s1:(s !=0)=false:=by subst hs;rfl
 have t1:(t.toList==(⟨#[]⟩:ByteArray).toList)=true:=by subst ht;simp
 have d0:decide (((((0:Nat):Nat):Int)) > 0)=false:=rfl;clear hk hn hs ht
 repeat' (first|(refine rg_ ?_;intro K hK)|(refine hq_ ?_;clear hK K)|refine ca_ ?_ ?_|refine gq_ ?_|(refine c2_ ?_ ?_<;>(intro hb hb';try(exfalso;omega)))|refine sz_ (a3_ tdE @gK (a9_ @gu @eU @dV.eq_1 @GRow.el k1 k2 k3 k4 (a9_ k5 j2 j3 j4 j5 n1 s1 t1 d0))) ?_|refine nv ?_|exact bq_|fail)
 all_goals unfold IL;refine zb_ ?_
 all_goals(repeat' (first|((with_reducible refine iC ?_);intro K hK)|((with_reducible refine hK _ ?_);clear hK K)|(with_reducible refine fC ?_ ?_)|((with_reducible refine gi ?_);first|(refine eX ?_ ?_;rfl)|(refine eY ?_ ?_;(rfl;refine gF ?_))|((with_reducible refine gS rfl ?_ ?_)<;>(intro hb hb';try(exfalso;omega))))|((with_reducible refine oK ?_);first|(refine bn (h:=(aho k n s t c r hc hr)) (hK:= ?_);rintro _ _ ⟨⟨_|_,rfl⟩,rfl⟩))|((with_reducible refine jg ?_);refine ss (aiX tdE (aiX @gK (aiX @gu (aiX @eU (aiX @dV.eq_1 (aiX @GRow.el (aiX k1 (aiX k2 (aiX k3 (aiX k4 (aiX k5 (aiX j2 (aiX j3 (aiX j4 (aiX j5 (aiX n1 (aiX s1 (aiX t1 d0)))))))))))))))))) ?_)|refine nv ?_|(with_reducible (refine cS rfl ?_ ?_)<;>(intro hb hb';try(exfalso;omega)))|exact wG|exact jm))
 all_goals exact bQ rfl rfl ⟨⟨_,rfl⟩,rfl⟩
theorem MZ{P:Program}{t s k e sz ver:Nat}{nw:Nw}{q:List D}{u:Value}{st:St}{post:AV→List Own→Prop}(h1:st.fr.getD t .any= .c false [.own k ver])(h2:st.fr.getD s .any= .c false [.raw u])(ho:st.owns[k]? =some ⟨q,e,sz,ver,nw⟩)(hn:nw.n=true)
 (hq:post (.tup [(false,[.sl true q]),(false,[.raw u])]) []):iG (Dy P (.tmp t) (.tmp s) post) .ret st:=
 ⟨false,false,[.sl true q],[.raw u],[],[],hq,rfl,rfl,by simp,trivial,rfl,rfl,⟨_,h1,⟨rfl,by simp,_,ho,rfl,rfl,Or.inl hn⟩,trivial⟩,⟨_,h2,⟨rfl,trivial⟩⟩⟩
theorem O4{P:Program}{t k e sz ver:Nat}{nw:Nw}{q:List D}{st:St}{post:AV→List Own→Prop}(h1:st.fr.getD t .any= .c false [.own k ver])(ho:st.owns[k]? =some ⟨q,e,sz,ver,nw⟩)(hn:nw.n=true)
 (hq:post (.c false [.sl true q]) []):iG (FM P (.tmp t) post) .ret st:=
 ⟨false,[.sl true q],[],[],hq,rfl,by simp,trivial,rfl,_,h1,⟨rfl,by simp,_,ho,rfl,rfl,Or.inl hn⟩,trivial⟩
theorem Qb{W:Nat}{l:List ByteArray}{s:ByteArray}(h:∀x∈l,x.size≤W)(hs:s.size≤W):∀x∈l++ [s],x.size≤W:=fun x hx=>by
 rcases t_.1 hx with hx|hx
 ·exact h x hx
 ·simp only[List.mem_singleton]at hx;rw[hx];exact hs
def L6 :IC:=(zd_ [zz_ 2 (.mov (.k (.slice none 0 0)))] (zd_ [zz_ 6 (.brow true 9 1 0 false []),zw_ 3 6] (zd_ [zk_ 4 0] (.seq (zd_ [zk_ 5 0] (.block 0 (.loop (.seq (zd_ [zw_ 7 5,zm_ 8 .add 7 1,zw_ 9 0,zf_ 10 true 9,zl_ 11 .lss 8 10] (.cond (.t 11) .skip (.exit 0))) (.seq (.block 1 (zd_ [zw_ 14 0,zw_ 15 5,zz_ 16 (.sidx (.t 14) (.t 15)),zz_ 17 (.bin .eql (.t 16) (.k (.int .u8 59))),zw_ 18 17,zv_ 19 18 0,zv_ 20 18 5,zy_ 21 18 (.bin .add (.t 20) (.k (.int .i64 1))),zy_ 22 18 (.sidx (.t 19) (.t 21)),zy_ 23 18 (.bin .eql (.t 22) (.k (.int .u8 32))),zh_ 24 18 23 false] (.cond (.t 24) (zd_ [zw_ 25 3,zw_ 26 0,zw_ 27 4,zw_ 28 5,zz_ 29 (.ssl (.t 26) (some (.t 27)) (some (.t 28))),zz_ 30 (.brow false 9 1 1 false [(.t 29)]),zz_ 31 (.app 9 1 (.t 25) (.t 30)),zw_ 3 31] (.reg false [zw_ 32 5,zm_ 33 .add 32 2,zw_ 4 33])) .skip))) (.reg false [zw_ 12 5,zm_ 13 .add 12 1,zw_ 5 13])))))) (zd_ [zw_ 34 3,zw_ 35 0,zw_ 36 4,zz_ 37 (.ssl (.t 35) (some (.t 36)) none),zz_ 38 (.brow false 9 1 1 false [(.t 37)]),zz_ 39 (.app 9 1 (.t 34) (.t 38)),zw_ 2 39] .ret)))))
theorem OI :ak Tryz.prog (Tryz.f138.body.getD .skip)=some L6:=by kernel_rfl
theorem QB(s:ByteArray)(hs:s.size≤1048575):bC Tryz.prog 138 [ls s] (fun r os'=>(∃q:List ByteArray,0<q.length∧Bh (s.size+1) q∧r= .c false [.sl true (q.map ls)])∧os'= []):=by
 refine dS (fn:=Tryz.f138) (r:= .tmp 2) (hc:=OI) (h:= ?_);unfold L6;refine zb_ ?_;change AWP _ _ _ (st0 40 _);refine sS tdX ?_
 repeat' (first|(refine rg_ ?_;intro K hK)|(refine hq_ ?_;clear hK K)|refine ca_ ?_ ?_|refine gq_ ?_|(refine c2_ ?_ ?_<;>(intro hb hb';try(exfalso;omega)))|refine sz_ (aiX tdE @GRow.el) ?_|refine nv ?_|exact bq_|fail)
 refine aQ (X:=Nat×Nat×Nat×List ByteArray) (fun z=> [.k,.d,.d,.v (.c false [.own 0 z.2.2.1]),.v (.c false [.raw (.int .i64 ((z.2.1:Nat)))]),.v (.c false [.raw (.int .i64 ((z.1:Nat)))])]) (fun z=> [⟨z.2.2.2.map ls,9,1,z.2.2.1,true⟩]) (fun _ _=> []) (fun z=>z.1≤s.size∧z.2.1≤s.size∧z.2.2.2.length≤z.1∧(∀x∈z.2.2.2,x.size≤s.size)∧(z.2.1≤z.1∨(z.2.1=z.1+1∧∃h:z.1<s.size,(s[z.1]).toNat=32))) (fun z=>s.size - z.1) (0,0,0,[]) ⟨f_ _,f_ _,f_ _,fun x hx=>by simp at hx,Or.inl (d_ _)⟩ ?_ ?_
 ·simp[aG,aU,aC,aF,AV.fits,AC.fits,FB,aB]
 rintro⟨i,k,v,l⟩ ⟨hi,hk,hl,hsz,hki⟩;simp only at hi hk hl hsz hki;simp only[FB,aB];have hw1:(i:Int)+1=((i+1:Nat):Int):=by omega
 by_cases hlt:i+1<s.size
 ·have hT:decide (((i+1:Nat):Int)<(s.size:Int))=true:=decide_eq_true (by omega);have hsx:=jW (show i<s.size by omega);have hsx1:=jW hlt;have hw2:(i:Int)+2=((i+2:Nat):Int):=by omega
  have hse:(l++ [s.extract k i]).map ls=l.map ls++ [ls (s.extract k i)]:=by simp
  by_cases hc:(s[i]).toNat=59
  ·have hki':k≤i:=by rcases hki with h|⟨_,_,h⟩<;>omega
   by_cases hd:(s[i+1]).toNat=32
   ·have e1:((((s[i]).toNat:Nat):Int)==59)=true:=by simp[hc]
    have e2:((((s[i+1]).toNat:Nat):Int)==32)=true:=by simp[hd]
    repeat' (first|(refine rg_ ?_;intro K hK)|(refine hq_ ?_;clear hK K)|refine ca_ ?_ ?_|refine gq_ ?_|(refine c2_ ?_ ?_<;>(intro hb hb';try(exfalso;omega)))|refine sz_ (WU tdE @GRow.el hT hw1 hw2 hsx hsx1 e1 e2 @jV) ?_|refine nv ?_|exact bq_|fail)
    all_goals first
     |omega
     |(simp only[h_];omega)
     | (refine aP (i+1,i+2,v+1,l++ [s.extract k i]) ?_ ⟨by simp only;omega,by simp only;omega,by simp;omega,Qb hsz (by simp only[ByteArray.size_extract];omega),Or.inr ⟨rfl,hlt,hd⟩⟩ (show s.size - (i+1)<s.size - i by omega)
        simp[aG,aU,aC,aF,AV.fits,AC.fits,FB,aB,ls]
        done)
   ·have e1:((((s[i]).toNat:Nat):Int)==59)=true:=by simp[hc]
    have e2:((((s[i+1]).toNat:Nat):Int)==32)=false:=Fz (by omega)
    repeat' (first|(refine rg_ ?_;intro K hK)|(refine hq_ ?_;clear hK K)|refine ca_ ?_ ?_|refine gq_ ?_|(refine c2_ ?_ ?_<;>(intro hb hb';try(exfalso;omega)))|refine sz_ (a9_ tdE @GRow.el hT hw1 hsx hsx1 e1 e2 @jV) ?_|refine nv ?_|exact bq_|fail)
    all_goals first
     |omega
     | (refine aP (i+1,k,v,l) ?_ ⟨by simp only;omega,hk,by simp only;omega,hsz,Or.inl (by simp only;omega)⟩ (show s.size - (i+1)<s.size - i by omega)
        simp[aG,aU,aC,aF,AV.fits,AC.fits,FB,aB]
        done)
  ·have e1:((((s[i]).toNat:Nat):Int)==59)=false:=Fz (by omega)
   repeat' (first|(refine rg_ ?_;intro K hK)|(refine hq_ ?_;clear hK K)|refine ca_ ?_ ?_|refine gq_ ?_|(refine c2_ ?_ ?_<;>(intro hb hb';try(exfalso;omega)))|refine sz_ (a7_ tdE @GRow.el hT hw1 hsx e1 @jV) ?_|refine nv ?_|exact bq_|fail)
   all_goals first
    |omega
    | (refine aP (i+1,k,v,l) ?_ ⟨by simp only;omega,hk,by simp only;omega,hsz,Or.inl (by simp only;rcases hki with h|⟨h,_⟩<;>omega)⟩ (show s.size - (i+1)<s.size - i by omega)
       simp[aG,aU,aC,aF,AV.fits,AC.fits,FB,aB]
       done)
 ·have hT:decide (((i+1:Nat):Int)<(s.size:Int))=false:=decide_eq_false (by omega);have hse:(l++ [s.extract k s.size]).map ls=l.map ls++ [ls (s.extract k s.size)]:=by simp
  repeat' (first|(refine rg_ ?_;intro K hK)|(refine hq_ ?_;clear hK K)|refine ca_ ?_ ?_|refine gq_ ?_|(refine c2_ ?_ ?_<;>(intro hb hb';try(exfalso;omega)))|refine sz_ (a5_ tdE @GRow.el hT hw1 @jV) ?_|refine nv ?_|exact bq_|fail)
  all_goals first
   |omega
   |(simp only[h_];omega)
   |exact O4 rfl rfl rfl ⟨⟨l++ [s.extract k s.size],by simp,⟨by simp;omega,fun x hx=>Nat.le_succ_of_le (Qb hsz (by simp only[ByteArray.size_extract];omega) x hx)⟩,by rw[hse];rfl⟩,rfl⟩
def Yp :IC:=(zd_ [zz_ 4 (.mov (.k (.slice none 0 0))),zj_ 5 false] (zd_ [zz_ 11 (.brow true 3 1 0 false []),zw_ 6 11] (zd_ [zw_ 12 0,zz_ 13 (.call 129 [(.t 12),(.k (.int .u8 32))]),zw_ 7 13] (.seq (zd_ [zk_ 8 0] (.block 0 (.loop (.seq (zd_ [zw_ 14 8,zw_ 15 7,zf_ 16 false 15,zl_ 17 .lss 14 16] (.cond (.t 17) .skip (.exit 0))) (.seq (.block 1 (zd_ [zw_ 21 7,zw_ 22 8,ze_ 23 1 21 22,zs_ 24 1 23,zq_ 25 182 24,zw_ 20 25,zz_ 26 (.ext 0 (.t 20)),zz_ 27 (.ext 1 (.t 20)),zw_ 9 26,zw_ 10 27] (.seq (zd_ [zw_ 28 10,zz_ 29 (.not (.t 28)),zw_ 30 29,zu_ 31 30 9,zx_ 32 30 (.call 183 [(.t 31)]),zx_ 33 30 (.not (.t 32)),zg_ 34 30 true 33] (.cond (.t 34) (zd_ [zw_ 35 6,zw_ 4 35,zj_ 5 false] .ret) .skip)) (.reg false [zw_ 36 6,zw_ 37 9,zz_ 38 (.brow false 3 1 1 false [(.t 37)]),zz_ 39 (.app 3 1 (.t 36) (.t 38)),zw_ 6 39])))) (.reg false [zw_ 18 8,zm_ 19 .add 18 1,zw_ 8 19])))))) (zd_ [zw_ 40 6,zw_ 41 6,zf_ 42 false 41,zw_ 43 1,zl_ 44 .eql 42 43,zw_ 4 40,zw_ 5 44] .ret)))))
theorem VG :ak Tryz.prog (Tryz.f139.body.getD .skip)=some Yp:=by kernel_rfl
theorem U6(s:ByteArray)(n:Int)(hs:s.size≤1000000):bC Tryz.prog 139 [ls s,li n] (fun r os'=>(∃(l:List Int) (b:Bool),l.length≤s.size+1∧r= .tup [(false,[.sl true (l.map li)]),(false,[.raw (.bool b)])])∧os'= []):=by
 refine pK (fn:=Tryz.f139) (r:= .tmp 4) (q:= .tmp 5) (hc:=VG) (h:= ?_);unfold Yp;refine zb_ ?_;change AWP _ _ _ (st0 45 _);refine sS tdX ?_
 repeat' (first|(refine rg_ ?_;intro K hK)|(refine hq_ ?_;clear hK K)|refine ca_ ?_ ?_|refine gq_ ?_|(refine c2_ ?_ ?_<;>(intro hb hb';try(exfalso;omega)))|(refine cg_ ?_;first|(refine bn (h:=(sV s 32 (by omega))) (hK:= ?_);rintro _ _ ⟨⟨q,hq,hqs,rfl⟩,rfl⟩))|refine sz_ (aiX tdE @GRow.el) ?_|refine nv ?_|exact bq_|fail)
 refine aQ (X:=Nat×Nat×List Int) (fun z=> [.d,.k,.d,.d,.d,.d,.v (.c false [.own 0 z.2.1]),.k,.v (.c false [.raw (.int .i64 ((z.1:Nat)))])]) (fun z=> [⟨z.2.2.map li,3,1,z.2.1,true⟩]) (fun _ _=> []) (fun z=>z.1≤q.length∧z.2.2.length=z.1) (fun z=>q.length - z.1) (0,0,[]) ⟨f_ _,rfl⟩ ?_ ?_
 ·simp[aG,aU,aC,aF,AV.fits,AC.fits,FB,aB]
 rintro⟨i,v,l⟩ ⟨hi,hl⟩;simp only at hi hl;simp only[FB,aB];by_cases hlt:i<q.length
 ·have hT:decide ((i:Int)<(q.length:Int))=true:=decide_eq_true (by omega);have hw1:(i:Int)+1=((i+1:Nat):Int):=by omega
  have hg:idx (q.map ls) (some (i:Int))=some (ls q[i]):=bU ls q hlt;have hsz:=hqs _ (j_ hlt)
  repeat' (first|(refine rg_ ?_;intro K hK)|(refine hq_ ?_;clear hK K)|refine ca_ ?_ ?_|refine gq_ ?_|(refine c2_ ?_ ?_<;>(intro hb hb';try(exfalso;omega)))|(refine cg_ ?_;first|(refine bn (h:=(xJ _ (by omega))) (hK:= ?_);rintro _ _ ⟨⟨n,_|_,rfl⟩,rfl⟩)|(refine bn (h:=(acX _)) (hK:= ?_);rintro _ _ ⟨⟨_|_,rfl⟩,rfl⟩))|refine sz_ (a5_ tdE @GRow.el hT hw1 hg) ?_|refine nv ?_|exact bq_|fail)
  all_goals first
   |omega
   |exact bW _
   |exact eP _
   |(simp only[h_];omega)
   |exact MZ rfl rfl rfl rfl ⟨⟨l,_,by omega,rfl⟩,rfl⟩
   | (refine aP (i+1,v+1,l++ [n]) ?_ ⟨by simp only;omega,by simp[hl]⟩ (show q.length - (i+1)<q.length - i by omega)
      simp[aG,aU,aC,aF,AV.fits,AC.fits,FB,aB,li]
      done)
 ·have hT:decide ((i:Int)<(q.length:Int))=false:=decide_eq_false (by omega)
  repeat' (first|(refine rg_ ?_;intro K hK)|(refine hq_ ?_;clear hK K)|refine ca_ ?_ ?_|refine gq_ ?_|(refine c2_ ?_ ?_<;>(intro hb hb';try(exfalso;omega)))|refine sz_ (a3_ tdE @GRow.el hT) ?_|refine nv ?_|exact bq_|fail)
  all_goals exact MZ rfl rfl rfl rfl ⟨⟨l,_,by omega,rfl⟩,rfl⟩
end
end Go.Proofs.YtfjmoicellpnhaaGreat
