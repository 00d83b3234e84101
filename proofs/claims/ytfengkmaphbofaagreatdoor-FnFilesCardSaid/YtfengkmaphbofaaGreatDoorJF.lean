/-
  Texts joined: Cells Res Res2 Valid ValidNb.
-/
import Derived.Test.YtfengkmaphbofaaGreatDoorJA
import Derived.Test.YtfengkmaphbofaaGreatDoorProg
import Derived.KernelRfl
set_option maxHeartbeats 8000000
set_option maxRecDepth 20000
set_option linter.unusedSimpArgs false
set_option linter.unusedVariables false
namespace Go.Proofs.YtfengkmaphbofaaGreatDoor
open Go.RowKit
open Lib renaming hid→a_
open List renaming setIfInBounds_toArray→b_,getElem_cons_succ→c_,getElem_cons_zero→d_,getElem_toArray→f_,set_cons_zero→g_,set_cons_succ→h_,getElem?_eq_getElem→i_,getElem?_map→k_,drop_eq_getElem_cons→l_,take_succ_eq_append_getElem→m_,drop_eq_nil_of_le→n_,take_of_length_le→p_,contains_cons→r_,contains_iff_mem→u_,not_mem_nil→v_,getElem_mem→w_,mem_cons→x_
open Below renaming refl→e_
open Act renaming put→j_
open Nat renaming le_refl→o_,lt_of_lt_of_le→s_
open Or renaming inr→q_,inl→t_
def GCell.cs(x:GCell):List Value:= [.int .i64 x.id,.int .i64 x.ver,.int .i64 x.kind,.string x.name,.string x.code,.int .i64 x.n]
def cellsOf(l:List GCell):List Value:=l.flatMap GCell.cs
theorem EN{w:World}:∀{l:List GCell} {fp:List Nat} {cs:List Value},Rs w (l.map GCell.toD) fp cs↔fp= []∧cs=cellsOf l
 | [],fp,cs=>by rw[List.map_nil,Rs];rfl
 | x::l,fp,cs=>by
   rw[List.map_cons,Rs];constructor
   ·rintro⟨f1,f2,c1,c2,rfl,rfl,h1,h2⟩;obtain⟨rfl,rfl⟩:=GCell.opened.1 h1;obtain⟨rfl,rfl⟩:=EN.1 h2;exact⟨rfl,rfl⟩
   ·rintro⟨rfl,rfl⟩;exact⟨[],[],x.cs,cellsOf l,rfl,rfl,GCell.opened.2 ⟨rfl,rfl⟩,EN.2 ⟨rfl,rfl⟩⟩
deriving instance DecidableEq for GCell
theorem qj{a b:ByteArray}:a.toList=b.toList↔a=b:=by
 rw[ByteArray.toList_eq,ByteArray.toList_eq];constructor
 ·intro h;have:a.data=b.data:=Array.toList_inj.1 h;cases a;cases b;simp_all
 ·rintro rfl;rfl
theorem WO(x y:GCell)(w:World):(binOp .neq 45 (.agg #[.int .i64 x.id,.int .i64 x.ver,.int .i64 x.kind,.string x.name,.string x.code,.int .i64 x.n]) (.agg #[.int .i64 y.id,.int .i64 y.ver,.int .i64 y.kind,.string y.name,.string y.code,.int .i64 y.n])).run Tryz.prog w= .ok (.bool (!decide (x=y))) w:=by
 go_simp
 simp only[qj];cases x;cases y;simp
 repeat' split
 all_goals simp_all
def XH(w:World)(base:Nat)(l:List GCell)(v:Value):Prop:=w.ownsRow base 45 6 v l.length (cellsOf l)
theorem XH.sl{w:World}{base:Nat}{l:List GCell}{v:Value}(h:XH w base l v):Sl w (l.map GCell.toD) v.ownBlock.toList v:=by
 have h':w.ownsRow base 45 6 v (l.map GCell.toD).length (cellsOf l):=by rw[List.length_map];exact h
 have:=Sl.of_own h' (EN.2 ⟨rfl,rfl⟩);rwa[List.append_nil]at this
theorem GCell.one(x:GCell):x.toD.one:=by simp[GCell.bQ,D.one,D.ones,li,ls,Value.oneCell']
theorem GCell.ones{l:List GCell}:∀d∈l.map GCell.toD,d.one:=fun d h=>by obtain⟨x,_,rfl⟩:=List.mem_map.1 h;exact x.one
theorem XH.lit{w:World}{base g:Nat}(hg:w.heap.size=g)(hb:base≤g):XH (w.alloc (.cells #[] 45)) base [] (.slice (some ⟨g,0,none⟩) 0 0):=by
 subst hg;exact World.ownsRow_lit w #[] 0 hb (by simp) rfl
theorem Ui{l l':List GCell}{k:Nat}(h1:k<l.length)(h2:k<l'.length)(h:l[k]≠l'[k]):l≠l':=fun e=>by
 subst e;exact h rfl
theorem Qk{l l':List GCell}{k:Nat}(h1:k<l.length)(h2:k<l'.length)(ht:l.take k=l'.take k)(h:l[k]=l'[k]):l.take (k+1)=l'.take (k+1):=by
 rw[m_ h1,m_ h2,ht,h]
theorem wL(l l':List GCell)(fp fp':List Nat)(v v':Value)(w:World)(hS1:Sl w (l.map GCell.toD) fp v)(hS2:Sl w (l'.map GCell.toD) fp' v')(hn:l.length≤1048576):
 Calls Tryz.prog 17 #[.agg #[v],.agg #[v']] w (wW (.bool (decide (l=l'))) w):=by
 obtain⟨A,c,rfl,hq1,hq2⟩:=hS1.Ad;obtain⟨A',c',rfl,hq3,hq4⟩:=hS2.Ad;clear hq1 hq2 hq3 hq4;by_cases hlen:l.length=l'.length
 ·have hb0:((l.length:Int) !=(l'.length:Int))=false:=by simp[hlen]
  have hlen':=a_ hlen;clear hlen
  go_enter Tryz.func17,Tryz.ntmps17
  go_wp2_with fail
  go_loopw [5] (fun iv wr=>∃k:Nat,k≤l.length∧iv= .int .i64 k∧l.take k=l'.take k∧Row wr w.heap.size 36 [.slice A l.length c]∧Row wr (w.heap.size+1) 36 [.slice A' l'.length c']∧Below w.heap.size w wr) (fun iv _=>l.length - (intOf iv).toNat)
  case atStart=>
   obtain⟨r0,r1,_,hB⟩:=YN (e_ _ ((w.alloc (.cells #[.slice A l.length c] 36)).alloc (.cells #[.slice A' l'.length c'] 36)));exact⟨0,by omega,rfl,by simp,r0,r1,hB⟩
  case round=>
   obtain⟨k,hk,rfl,hte,hro0,hro1,hb⟩:=hrel;have kk0:=hro0.cell;have kk1:=hro1.cell;have hte':=a_ hte;clear hte;by_cases hlt:k<l.length
   ·have hlt2:k<l'.length:=by have:=hlen'.out;omega
    have hi1:0≤(k:Int):=by omega
    have hi2:(k:Int)<l.length:=by omega
    have hi3:(k:Int)<l'.length:=by omega
    have hd1:(l.map GCell.toD)[k]? =some (GCell.toD l[k]):=by rw[k_,i_ hlt];rfl
    have hd2:(l'.map GCell.toD)[k]? =some (GCell.toD l'[k]):=by rw[k_,i_ hlt2];rfl
    obtain⟨b1,o1,fi1,ci1,rfl,hbb1,hbf1,hri1,hfi1,hat1⟩:=hS1.elem GCell.szs hd1;obtain⟨b2,o2,fi2,ci2,rfl,hbb2,hbf2,hri2,hfi2,hat2⟩:=hS2.elem GCell.szs hd2;obtain⟨rfl,rfl⟩:=GCell.opened.1 hri1;obtain⟨rfl,rfl⟩:=GCell.opened.1 hri2;have q10:wr.cell? ⟨b1,o1+k*6,none⟩=some (.int .i64 l[k].id):=(hb.cell (p:=⟨b1,o1+k*6,none⟩) hbb1).trans (hat1.head);have q11:wr.cell? ⟨b1,o1+k*6+1,none⟩=some (.int .i64 l[k].ver):=(hb.cell (p:=⟨b1,o1+k*6+1,none⟩) hbb1).trans (hat1.nth 1 rfl);have q12:wr.cell? ⟨b1,o1+k*6+2,none⟩=some (.int .i64 l[k].kind):=(hb.cell (p:=⟨b1,o1+k*6+2,none⟩) hbb1).trans (hat1.nth 2 rfl);have q13:wr.cell? ⟨b1,o1+k*6+3,none⟩=some (.string l[k].name):=(hb.cell (p:=⟨b1,o1+k*6+3,none⟩) hbb1).trans (hat1.nth 3 rfl);have q14:wr.cell? ⟨b1,o1+k*6+4,none⟩=some (.string l[k].code):=(hb.cell (p:=⟨b1,o1+k*6+4,none⟩) hbb1).trans (hat1.nth 4 rfl);have q15:wr.cell? ⟨b1,o1+k*6+5,none⟩=some (.int .i64 l[k].n):=(hb.cell (p:=⟨b1,o1+k*6+5,none⟩) hbb1).trans (hat1.nth 5 rfl);have q20:wr.cell? ⟨b2,o2+k*6,none⟩=some (.int .i64 l'[k].id):=(hb.cell (p:=⟨b2,o2+k*6,none⟩) hbb2).trans (hat2.head);have q21:wr.cell? ⟨b2,o2+k*6+1,none⟩=some (.int .i64 l'[k].ver):=(hb.cell (p:=⟨b2,o2+k*6+1,none⟩) hbb2).trans (hat2.nth 1 rfl);have q22:wr.cell? ⟨b2,o2+k*6+2,none⟩=some (.int .i64 l'[k].kind):=(hb.cell (p:=⟨b2,o2+k*6+2,none⟩) hbb2).trans (hat2.nth 2 rfl);have q23:wr.cell? ⟨b2,o2+k*6+3,none⟩=some (.string l'[k].name):=(hb.cell (p:=⟨b2,o2+k*6+3,none⟩) hbb2).trans (hat2.nth 3 rfl);have q24:wr.cell? ⟨b2,o2+k*6+4,none⟩=some (.string l'[k].code):=(hb.cell (p:=⟨b2,o2+k*6+4,none⟩) hbb2).trans (hat2.nth 4 rfl);have q25:wr.cell? ⟨b2,o2+k*6+5,none⟩=some (.int .i64 l'[k].n):=(hb.cell (p:=⟨b2,o2+k*6+5,none⟩) hbb2).trans (hat2.nth 5 rfl);clear hat1 hat2 hd1 hd2 hri1 hri2;have hneq:=WO l[k] l'[k];by_cases hxy:l[k]=l'[k]
    ·have hde:(!decide (l[k]=l'[k]))=false:=by simp[hxy]
     rw[hde]at hneq;clear hde;have hxy':=a_ hxy;clear hxy
     go_wp2_with fail
     go_quiet (fail)
     go_wp2_with fail
     go_roundw
     case rel=>exact⟨k+1,by omega,by go_num,Qk hlt hlt2 hte'.out hxy'.out,hro0,hro1,uV hb _⟩
     case measure=>(simp[intOf]<;>omega)
    ·have hde:(!decide (l[k]=l'[k]))=true:=by simp[hxy]
     rw[hde]at hneq;clear hde;have hf:=a_ (show false=decide (l=l') by rw[decide_eq_false (Ui hlt hlt2 hxy)]);clear hxy
     go_wp2_with fail
     go_quiet (fail)
     go_wp2_with fail
     go_ret
     exact⟨fA hf.out,uV hb _⟩
   ·have hf:=a_ (show true=decide (l=l') by
     have h1:=hte'.out;have h2:=hlen'.out;rw[p_ (by omega),p_ (by omega)]at h1;rw[decide_eq_true h1])
    go_wp2_with fail
    go_ret
    exact⟨fA hf.out,hb⟩
 ·have hb0:((l.length:Int) !=(l'.length:Int))=true:=by simp;omega
  have hf:=a_ (show false=decide (l=l') by rw[decide_eq_false (fun e=>hlen (by rw[e]))]);clear hlen
  go_enter Tryz.func17,Tryz.ntmps17
  go_wp2_with fail
  go_ret
  exact⟨fA hf.out,((e_ _ _).alloc (by simp) _).alloc (by simp;try omega) _⟩
def fE :List (List UInt8×Int):= [([99,108,111,99,107],0),([108,101,110],1),([115,117,109],1),([114,111,119,115],1),([99,104,97,110,99,101],1),([102,105,108,101],1),([116,97,107,101],2),([115,107,105,112],2),([114,97,110,103,101],2),([110,116,104],2),([107,101,101,112],2),([99,111,108,117,109,110],2),([116,97,98,108,101],2),([119,104,101,114,101],3),([103,114,111,117,112],3),([106,111,105,110],3),([97,100,100],4)]
def iC :List (List UInt8×Int)→List UInt8→Int
 | [],_=> -1
 |(w,n)::r,l=>if l==w then n else iC r l
def eG(l:List UInt8):Int:=iC fE l
def lS :List (List UInt8):= [[108,101,116],[105,110],[105,102],[116,104,101,110],[101,108,115,101],[102,111,114],[100,111]]
def ru :List (List UInt8):= [[108,101,116],[105,110],[105,102],[116,104,101,110],[101,108,115,101],[102,111,114],[100,111],[108,101,110],[115,117,109],[116,97,107,101],[115,107,105,112],[114,97,110,103,101],[110,116,104],[119,104,101,114,101],[107,101,101,112],[97,100,100],[103,114,111,117,112],[106,111,105,110],[99,111,108,117,109,110],[114,111,119,115],[99,108,111,99,107],[99,104,97,110,99,101],[102,105,108,101],[116,97,98,108,101]]
def ng(l:List UInt8):Bool:=ru.contains l
theorem eY{w l:List UInt8}{n:Int}{r:List (List UInt8×Int)}(h:(l==w)=true):iC ((w,n)::r) l=n:=by rw[iC,h];rfl
theorem ak{w l:List UInt8}{n:Int}{r:List (List UInt8×Int)}(h:(l==w)=false):iC ((w,n)::r) l=iC r l:=by rw[iC,h];rfl
theorem kD{w l:List UInt8}{r:List (List UInt8)}(h:(l==w)=true):(w::r).contains l=true:=by rw[r_,h];rfl
theorem dY{w l:List UInt8}{r:List (List UInt8)}(h:(l==w)=false):(w::r).contains l=r.contains l:=by rw[r_,h];rfl
theorem FK (s : ByteArray) (w:World):Calls Tryz.prog 157 #[.string s] w (AX (.int .i64 (eG s.toList)) w):=by
 cases e0:(s.toList== [99,108,111,99,107])with
 | true=>
   have hf:=a_ (show(0:Int)=eG s.toList from(show iC fE s.toList=0 from eY e0).symm)
   go_enter Tryz.func157,Tryz.ntmps157
   go_wp2
   go_ret
   exact⟨fO hf.out,rfl⟩
 | false =>
   cases e1:(s.toList== [108,101,110])with
   | true=>
     have hf:=a_ (show(1:Int)=eG s.toList from(show iC fE s.toList=1 from(ak e0).trans (eY e1)).symm)
     go_enter Tryz.func157,Tryz.ntmps157
     go_wp2
     go_ret
     exact⟨fO hf.out,rfl⟩
   | false =>
     cases e2:(s.toList== [115,117,109])with
     | true=>
       have hf:=a_ (show(1:Int)=eG s.toList from(show iC fE s.toList=1 from(ak e0).trans ((ak e1).trans (eY e2))).symm)
       go_enter Tryz.func157,Tryz.ntmps157
       go_wp2
       go_ret
       exact⟨fO hf.out,rfl⟩
     | false =>
       cases e3:(s.toList== [114,111,119,115])with
       | true=>
         have hf:=a_ (show(1:Int)=eG s.toList from(show iC fE s.toList=1 from(ak e0).trans ((ak e1).trans ((ak e2).trans (eY e3)))).symm)
         go_enter Tryz.func157,Tryz.ntmps157
         go_wp2
         go_ret
         exact⟨fO hf.out,rfl⟩
       | false =>
         cases e4:(s.toList== [99,104,97,110,99,101])with
         | true=>
           have hf:=a_ (show(1:Int)=eG s.toList from(show iC fE s.toList=1 from(ak e0).trans ((ak e1).trans ((ak e2).trans ((ak e3).trans (eY e4))))).symm)
           go_enter Tryz.func157,Tryz.ntmps157
           go_wp2
           go_ret
           exact⟨fO hf.out,rfl⟩
         | false =>
           cases e5:(s.toList== [102,105,108,101])with
           | true=>
             have hf:=a_ (show(1:Int)=eG s.toList from(show iC fE s.toList=1 from(ak e0).trans ((ak e1).trans ((ak e2).trans ((ak e3).trans ((ak e4).trans (eY e5)))))).symm)
             go_enter Tryz.func157,Tryz.ntmps157
             go_wp2
             go_ret
             exact⟨fO hf.out,rfl⟩
           | false =>
             cases e6:(s.toList== [116,97,107,101])with
             | true=>
               have hf:=a_ (show(2:Int)=eG s.toList from(show iC fE s.toList=2 from(ak e0).trans ((ak e1).trans ((ak e2).trans ((ak e3).trans ((ak e4).trans ((ak e5).trans (eY e6))))))).symm)
               go_enter Tryz.func157,Tryz.ntmps157
               go_wp2
               go_ret
               exact⟨fO hf.out,rfl⟩
             | false =>
               cases e7:(s.toList== [115,107,105,112])with
               | true=>
                 have hf:=a_ (show(2:Int)=eG s.toList from(show iC fE s.toList=2 from(ak e0).trans ((ak e1).trans ((ak e2).trans ((ak e3).trans ((ak e4).trans ((ak e5).trans ((ak e6).trans (eY e7)))))))).symm)
                 go_enter Tryz.func157,Tryz.ntmps157
                 go_wp2
                 go_ret
                 exact⟨fO hf.out,rfl⟩
               | false =>
                 cases e8:(s.toList== [114,97,110,103,101])with
                 | true=>
                   have hf:=a_ (show(2:Int)=eG s.toList from(show iC fE s.toList=2 from(ak e0).trans ((ak e1).trans ((ak e2).trans ((ak e3).trans ((ak e4).trans ((ak e5).trans ((ak e6).trans ((ak e7).trans (eY e8))))))))).symm)
                   go_enter Tryz.func157,Tryz.ntmps157
                   go_wp2
                   go_ret
                   exact⟨fO hf.out,rfl⟩
                 | false =>
                   cases e9:(s.toList== [110,116,104])with
                   | true=>
                     have hf:=a_ (show(2:Int)=eG s.toList from(show iC fE s.toList=2 from(ak e0).trans ((ak e1).trans ((ak e2).trans ((ak e3).trans ((ak e4).trans ((ak e5).trans ((ak e6).trans ((ak e7).trans ((ak e8).trans (eY e9)))))))))).symm)
                     go_enter Tryz.func157,Tryz.ntmps157
                     go_wp2
                     go_ret
                     exact⟨fO hf.out,rfl⟩
                   | false =>
                     cases e10:(s.toList== [107,101,101,112])with
                     | true=>
                       have hf:=a_ (show(2:Int)=eG s.toList from(show iC fE s.toList=2 from(ak e0).trans ((ak e1).trans ((ak e2).trans ((ak e3).trans ((ak e4).trans ((ak e5).trans ((ak e6).trans ((ak e7).trans ((ak e8).trans ((ak e9).trans (eY e10))))))))))).symm)
                       go_enter Tryz.func157,Tryz.ntmps157
                       go_wp2
                       go_ret
                       exact⟨fO hf.out,rfl⟩
                     | false =>
                       cases e11:(s.toList== [99,111,108,117,109,110])with
                       | true=>
                         have hf:=a_ (show(2:Int)=eG s.toList from(show iC fE s.toList=2 from(ak e0).trans ((ak e1).trans ((ak e2).trans ((ak e3).trans ((ak e4).trans ((ak e5).trans ((ak e6).trans ((ak e7).trans ((ak e8).trans ((ak e9).trans ((ak e10).trans (eY e11)))))))))))).symm)
                         go_enter Tryz.func157,Tryz.ntmps157
                         go_wp2
                         go_ret
                         exact⟨fO hf.out,rfl⟩
                       | false =>
                         cases e12:(s.toList== [116,97,98,108,101])with
                         | true=>
                           have hf:=a_ (show(2:Int)=eG s.toList from(show iC fE s.toList=2 from(ak e0).trans ((ak e1).trans ((ak e2).trans ((ak e3).trans ((ak e4).trans ((ak e5).trans ((ak e6).trans ((ak e7).trans ((ak e8).trans ((ak e9).trans ((ak e10).trans ((ak e11).trans (eY e12))))))))))))).symm)
                           go_enter Tryz.func157,Tryz.ntmps157
                           go_wp2
                           go_ret
                           exact⟨fO hf.out,rfl⟩
                         | false =>
                           cases e13:(s.toList== [119,104,101,114,101])with
                           | true=>
                             have hf:=a_ (show(3:Int)=eG s.toList from(show iC fE s.toList=3 from(ak e0).trans ((ak e1).trans ((ak e2).trans ((ak e3).trans ((ak e4).trans ((ak e5).trans ((ak e6).trans ((ak e7).trans ((ak e8).trans ((ak e9).trans ((ak e10).trans ((ak e11).trans ((ak e12).trans (eY e13)))))))))))))).symm)
                             go_enter Tryz.func157,Tryz.ntmps157
                             go_wp2
                             go_ret
                             exact⟨fO hf.out,rfl⟩
                           | false =>
                             cases e14:(s.toList== [103,114,111,117,112])with
                             | true=>
                               have hf:=a_ (show(3:Int)=eG s.toList from(show iC fE s.toList=3 from(ak e0).trans ((ak e1).trans ((ak e2).trans ((ak e3).trans ((ak e4).trans ((ak e5).trans ((ak e6).trans ((ak e7).trans ((ak e8).trans ((ak e9).trans ((ak e10).trans ((ak e11).trans ((ak e12).trans ((ak e13).trans (eY e14))))))))))))))).symm)
                               go_enter Tryz.func157,Tryz.ntmps157
                               go_wp2
                               go_ret
                               exact⟨fO hf.out,rfl⟩
                             | false=>
                               cases e15:(s.toList== [106,111,105,110])with
                               | true=>
                                 have hf:=a_ (show(3:Int)=eG s.toList from(show iC fE s.toList=3 from(ak e0).trans ((ak e1).trans ((ak e2).trans ((ak e3).trans ((ak e4).trans ((ak e5).trans ((ak e6).trans ((ak e7).trans ((ak e8).trans ((ak e9).trans ((ak e10).trans ((ak e11).trans ((ak e12).trans ((ak e13).trans ((ak e14).trans (eY e15)))))))))))))))).symm)
                                 go_enter Tryz.func157,Tryz.ntmps157
                                 go_wp2
                                 go_ret
                                 exact⟨fO hf.out,rfl⟩
                               | false=>
                                 cases e16:(s.toList== [97,100,100])with
                                 | true=>
                                   have hf:=a_ (show(4:Int)=eG s.toList from(show iC fE s.toList=4 from(ak e0).trans ((ak e1).trans ((ak e2).trans ((ak e3).trans ((ak e4).trans ((ak e5).trans ((ak e6).trans ((ak e7).trans ((ak e8).trans ((ak e9).trans ((ak e10).trans ((ak e11).trans ((ak e12).trans ((ak e13).trans ((ak e14).trans ((ak e15).trans (eY e16))))))))))))))))).symm)
                                   go_enter Tryz.func157,Tryz.ntmps157
                                   go_wp2
                                   go_ret
                                   exact⟨fO hf.out,rfl⟩
                                 | false=>
                                   have hf:=a_ (show(-1:Int)=eG s.toList from(show iC fE s.toList= -1 from(ak e0).trans ((ak e1).trans ((ak e2).trans ((ak e3).trans ((ak e4).trans ((ak e5).trans ((ak e6).trans ((ak e7).trans ((ak e8).trans ((ak e9).trans ((ak e10).trans ((ak e11).trans ((ak e12).trans ((ak e13).trans ((ak e14).trans ((ak e15).trans ((ak e16).trans (rfl)))))))))))))))))).symm)
                                   go_enter Tryz.func157,Tryz.ntmps157
                                   go_wp2
                                   go_ret
                                   exact⟨fO hf.out,rfl⟩
theorem FI (s : ByteArray) (w:World):Calls Tryz.prog 207 #[.string s] w (AX (.int .i64 (eG s.toList)) w):=by
 cases e0:(s.toList== [99,108,111,99,107])with
 | true=>
   have hf:=a_ (show(0:Int)=eG s.toList from(show iC fE s.toList=0 from eY e0).symm)
   go_enter Tryz.func207,Tryz.ntmps207
   go_wp2
   go_ret
   exact⟨fO hf.out,rfl⟩
 | false =>
   cases e1:(s.toList== [108,101,110])with
   | true=>
     have hf:=a_ (show(1:Int)=eG s.toList from(show iC fE s.toList=1 from(ak e0).trans (eY e1)).symm)
     go_enter Tryz.func207,Tryz.ntmps207
     go_wp2
     go_ret
     exact⟨fO hf.out,rfl⟩
   | false =>
     cases e2:(s.toList== [115,117,109])with
     | true=>
       have hf:=a_ (show(1:Int)=eG s.toList from(show iC fE s.toList=1 from(ak e0).trans ((ak e1).trans (eY e2))).symm)
       go_enter Tryz.func207,Tryz.ntmps207
       go_wp2
       go_ret
       exact⟨fO hf.out,rfl⟩
     | false =>
       cases e3:(s.toList== [114,111,119,115])with
       | true=>
         have hf:=a_ (show(1:Int)=eG s.toList from(show iC fE s.toList=1 from(ak e0).trans ((ak e1).trans ((ak e2).trans (eY e3)))).symm)
         go_enter Tryz.func207,Tryz.ntmps207
         go_wp2
         go_ret
         exact⟨fO hf.out,rfl⟩
       | false =>
         cases e4:(s.toList== [99,104,97,110,99,101])with
         | true=>
           have hf:=a_ (show(1:Int)=eG s.toList from(show iC fE s.toList=1 from(ak e0).trans ((ak e1).trans ((ak e2).trans ((ak e3).trans (eY e4))))).symm)
           go_enter Tryz.func207,Tryz.ntmps207
           go_wp2
           go_ret
           exact⟨fO hf.out,rfl⟩
         | false =>
           cases e5:(s.toList== [102,105,108,101])with
           | true=>
             have hf:=a_ (show(1:Int)=eG s.toList from(show iC fE s.toList=1 from(ak e0).trans ((ak e1).trans ((ak e2).trans ((ak e3).trans ((ak e4).trans (eY e5)))))).symm)
             go_enter Tryz.func207,Tryz.ntmps207
             go_wp2
             go_ret
             exact⟨fO hf.out,rfl⟩
           | false =>
             cases e6:(s.toList== [116,97,107,101])with
             | true=>
               have hf:=a_ (show(2:Int)=eG s.toList from(show iC fE s.toList=2 from(ak e0).trans ((ak e1).trans ((ak e2).trans ((ak e3).trans ((ak e4).trans ((ak e5).trans (eY e6))))))).symm)
               go_enter Tryz.func207,Tryz.ntmps207
               go_wp2
               go_ret
               exact⟨fO hf.out,rfl⟩
             | false =>
               cases e7:(s.toList== [115,107,105,112])with
               | true=>
                 have hf:=a_ (show(2:Int)=eG s.toList from(show iC fE s.toList=2 from(ak e0).trans ((ak e1).trans ((ak e2).trans ((ak e3).trans ((ak e4).trans ((ak e5).trans ((ak e6).trans (eY e7)))))))).symm)
                 go_enter Tryz.func207,Tryz.ntmps207
                 go_wp2
                 go_ret
                 exact⟨fO hf.out,rfl⟩
               | false =>
                 cases e8:(s.toList== [114,97,110,103,101])with
                 | true=>
                   have hf:=a_ (show(2:Int)=eG s.toList from(show iC fE s.toList=2 from(ak e0).trans ((ak e1).trans ((ak e2).trans ((ak e3).trans ((ak e4).trans ((ak e5).trans ((ak e6).trans ((ak e7).trans (eY e8))))))))).symm)
                   go_enter Tryz.func207,Tryz.ntmps207
                   go_wp2
                   go_ret
                   exact⟨fO hf.out,rfl⟩
                 | false =>
                   cases e9:(s.toList== [110,116,104])with
                   | true=>
                     have hf:=a_ (show(2:Int)=eG s.toList from(show iC fE s.toList=2 from(ak e0).trans ((ak e1).trans ((ak e2).trans ((ak e3).trans ((ak e4).trans ((ak e5).trans ((ak e6).trans ((ak e7).trans ((ak e8).trans (eY e9)))))))))).symm)
                     go_enter Tryz.func207,Tryz.ntmps207
                     go_wp2
                     go_ret
                     exact⟨fO hf.out,rfl⟩
                   | false =>
                     cases e10:(s.toList== [107,101,101,112])with
                     | true=>
                       have hf:=a_ (show(2:Int)=eG s.toList from(show iC fE s.toList=2 from(ak e0).trans ((ak e1).trans ((ak e2).trans ((ak e3).trans ((ak e4).trans ((ak e5).trans ((ak e6).trans ((ak e7).trans ((ak e8).trans ((ak e9).trans (eY e10))))))))))).symm)
                       go_enter Tryz.func207,Tryz.ntmps207
                       go_wp2
                       go_ret
                       exact⟨fO hf.out,rfl⟩
                     | false =>
                       cases e11:(s.toList== [99,111,108,117,109,110])with
                       | true=>
                         have hf:=a_ (show(2:Int)=eG s.toList from(show iC fE s.toList=2 from(ak e0).trans ((ak e1).trans ((ak e2).trans ((ak e3).trans ((ak e4).trans ((ak e5).trans ((ak e6).trans ((ak e7).trans ((ak e8).trans ((ak e9).trans ((ak e10).trans (eY e11)))))))))))).symm)
                         go_enter Tryz.func207,Tryz.ntmps207
                         go_wp2
                         go_ret
                         exact⟨fO hf.out,rfl⟩
                       | false =>
                         cases e12:(s.toList== [116,97,98,108,101])with
                         | true=>
                           have hf:=a_ (show(2:Int)=eG s.toList from(show iC fE s.toList=2 from(ak e0).trans ((ak e1).trans ((ak e2).trans ((ak e3).trans ((ak e4).trans ((ak e5).trans ((ak e6).trans ((ak e7).trans ((ak e8).trans ((ak e9).trans ((ak e10).trans ((ak e11).trans (eY e12))))))))))))).symm)
                           go_enter Tryz.func207,Tryz.ntmps207
                           go_wp2
                           go_ret
                           exact⟨fO hf.out,rfl⟩
                         | false =>
                           cases e13:(s.toList== [119,104,101,114,101])with
                           | true=>
                             have hf:=a_ (show(3:Int)=eG s.toList from(show iC fE s.toList=3 from(ak e0).trans ((ak e1).trans ((ak e2).trans ((ak e3).trans ((ak e4).trans ((ak e5).trans ((ak e6).trans ((ak e7).trans ((ak e8).trans ((ak e9).trans ((ak e10).trans ((ak e11).trans ((ak e12).trans (eY e13)))))))))))))).symm)
                             go_enter Tryz.func207,Tryz.ntmps207
                             go_wp2
                             go_ret
                             exact⟨fO hf.out,rfl⟩
                           | false =>
                             cases e14:(s.toList== [103,114,111,117,112])with
                             | true=>
                               have hf:=a_ (show(3:Int)=eG s.toList from(show iC fE s.toList=3 from(ak e0).trans ((ak e1).trans ((ak e2).trans ((ak e3).trans ((ak e4).trans ((ak e5).trans ((ak e6).trans ((ak e7).trans ((ak e8).trans ((ak e9).trans ((ak e10).trans ((ak e11).trans ((ak e12).trans ((ak e13).trans (eY e14))))))))))))))).symm)
                               go_enter Tryz.func207,Tryz.ntmps207
                               go_wp2
                               go_ret
                               exact⟨fO hf.out,rfl⟩
                             | false=>
                               cases e15:(s.toList== [106,111,105,110])with
                               | true=>
                                 have hf:=a_ (show(3:Int)=eG s.toList from(show iC fE s.toList=3 from(ak e0).trans ((ak e1).trans ((ak e2).trans ((ak e3).trans ((ak e4).trans ((ak e5).trans ((ak e6).trans ((ak e7).trans ((ak e8).trans ((ak e9).trans ((ak e10).trans ((ak e11).trans ((ak e12).trans ((ak e13).trans ((ak e14).trans (eY e15)))))))))))))))).symm)
                                 go_enter Tryz.func207,Tryz.ntmps207
                                 go_wp2
                                 go_ret
                                 exact⟨fO hf.out,rfl⟩
                               | false=>
                                 cases e16:(s.toList== [97,100,100])with
                                 | true=>
                                   have hf:=a_ (show(4:Int)=eG s.toList from(show iC fE s.toList=4 from(ak e0).trans ((ak e1).trans ((ak e2).trans ((ak e3).trans ((ak e4).trans ((ak e5).trans ((ak e6).trans ((ak e7).trans ((ak e8).trans ((ak e9).trans ((ak e10).trans ((ak e11).trans ((ak e12).trans ((ak e13).trans ((ak e14).trans ((ak e15).trans (eY e16))))))))))))))))).symm)
                                   go_enter Tryz.func207,Tryz.ntmps207
                                   go_wp2
                                   go_ret
                                   exact⟨fO hf.out,rfl⟩
                                 | false=>
                                   have hf:=a_ (show(-1:Int)=eG s.toList from(show iC fE s.toList= -1 from(ak e0).trans ((ak e1).trans ((ak e2).trans ((ak e3).trans ((ak e4).trans ((ak e5).trans ((ak e6).trans ((ak e7).trans ((ak e8).trans ((ak e9).trans ((ak e10).trans ((ak e11).trans ((ak e12).trans ((ak e13).trans ((ak e14).trans ((ak e15).trans ((ak e16).trans (rfl)))))))))))))))))).symm)
                                   go_enter Tryz.func207,Tryz.ntmps207
                                   go_wp2
                                   go_ret
                                   exact⟨fO hf.out,rfl⟩
theorem mM(l:List UInt8):ng l=(lS.contains l || decide (0≤eG l)):=by
 by_cases h:l∈ru
 ·have h1:ng l=true:=by unfold ng;exact u_.2 h
  rw[h1];simp only[ru,x_,v_,or_false]at h;rcases h with rfl|rfl|rfl|rfl|rfl|rfl|rfl|rfl|rfl|rfl|rfl|rfl|rfl|rfl|rfl|rfl|rfl|rfl|rfl|rfl|rfl|rfl|rfl|rfl<;>decide
 ·have h1:ng l=false:=by
   unfold ng;rw[← Bool.not_eq_true,u_];exact h
  rw[h1];simp only[ru,x_,v_,or_false,not_or]at h;obtain⟨h0,h1,h2,h3,h4,h5,h6,h7,h8,h9,h10,h11,h12,h13,h14,h15,h16,h17,h18,h19,h20,h21,h22,h23⟩:=h;simp[lS,eG,fE,iC, *]
theorem AA (s:ByteArray)(w:World):Calls Tryz.prog 125 #[.string s] w (AX (.bool (ng s.toList)) w):=by
 cases e0:(s.toList== [108,101,116])with
 | true=>
   have hf:=a_ (show true=ng s.toList by rw[mM,show lS.contains s.toList=true from kD e0];rfl)
   go_enter Tryz.func125,Tryz.ntmps125
   go_wp2
   go_ret
   exact⟨fA hf.out,rfl⟩
 | false =>
   cases e1:(s.toList== [105,110])with
   | true=>
     have hf:=a_ (show true=ng s.toList by rw[mM,show lS.contains s.toList=true from(dY e0).trans (kD e1)];rfl)
     go_enter Tryz.func125,Tryz.ntmps125
     go_wp2
     go_ret
     exact⟨fA hf.out,rfl⟩
   | false =>
     cases e2:(s.toList== [105,102])with
     | true=>
       have hf:=a_ (show true=ng s.toList by rw[mM,show lS.contains s.toList=true from(dY e0).trans ((dY e1).trans (kD e2))];rfl)
       go_enter Tryz.func125,Tryz.ntmps125
       go_wp2
       go_ret
       exact⟨fA hf.out,rfl⟩
     | false =>
       cases e3:(s.toList== [116,104,101,110])with
       | true=>
         have hf:=a_ (show true=ng s.toList by rw[mM,show lS.contains s.toList=true from(dY e0).trans ((dY e1).trans ((dY e2).trans (kD e3)))];rfl)
         go_enter Tryz.func125,Tryz.ntmps125
         go_wp2
         go_ret
         exact⟨fA hf.out,rfl⟩
       | false =>
         cases e4:(s.toList== [101,108,115,101])with
         | true=>
           have hf:=a_ (show true=ng s.toList by rw[mM,show lS.contains s.toList=true from(dY e0).trans ((dY e1).trans ((dY e2).trans ((dY e3).trans (kD e4))))];rfl)
           go_enter Tryz.func125,Tryz.ntmps125
           go_wp2
           go_ret
           exact⟨fA hf.out,rfl⟩
         | false=>
           cases e5:(s.toList== [102,111,114])with
           | true=>
             have hf:=a_ (show true=ng s.toList by rw[mM,show lS.contains s.toList=true from(dY e0).trans ((dY e1).trans ((dY e2).trans ((dY e3).trans ((dY e4).trans (kD e5)))))];rfl)
             go_enter Tryz.func125,Tryz.ntmps125
             go_wp2
             go_ret
             exact⟨fA hf.out,rfl⟩
           | false=>
             cases e6:(s.toList== [100,111])with
             | true=>
               have hf:=a_ (show true=ng s.toList by rw[mM,show lS.contains s.toList=true from(dY e0).trans ((dY e1).trans ((dY e2).trans ((dY e3).trans ((dY e4).trans ((dY e5).trans (kD e6))))))];rfl)
               go_enter Tryz.func125,Tryz.ntmps125
               go_wp2
               go_ret
               exact⟨fA hf.out,rfl⟩
             | false=>
               have hf:=a_ (show decide (0≤eG s.toList)=ng s.toList by rw[mM,show lS.contains s.toList=false from(dY e0).trans ((dY e1).trans ((dY e2).trans ((dY e3).trans ((dY e4).trans ((dY e5).trans ((dY e6).trans (rfl)))))))];rfl);have hP:=fun wx=>FK s wx
               generalize eG s.toList=ac at hP hf
               go_enter Tryz.func125,Tryz.ntmps125
               go_wp2_with (go_at_call 157;refine(hP _).mono ?_;rintro e w1 ⟨rfl,rfl⟩)
               go_ret
               exact⟨fA hf.out,rfl⟩
theorem yX(s:ByteArray)(hs:s.size≤9223372036854775807)(w:World):Calls Tryz.prog 99 #[.string s] w (AX (.bool (jO s && !ng s.toList)) w):=by
 have hP:=fun wx=>JV s hs wx
 have hQ:=fun wx=>AA s wx
 cases h1:jO s with
 | true=>
   rw[h1]at hP;cases h2:ng s.toList with
   | true=>
     rw[h2]at hQ;clear h1 h2
     go_enter Tryz.func99,Tryz.ntmps99
     go_wp2_with (first|(go_at_call 124;refine(hP _).mono ?_;rintro e w1 ⟨rfl,rfl⟩)|(go_at_call 125;refine(hQ _).mono ?_;rintro e w1 ⟨rfl,rfl⟩))
     go_ret
     exact⟨rfl,rfl⟩
   | false=>
     rw[h2]at hQ;clear h1 h2
     go_enter Tryz.func99,Tryz.ntmps99
     go_wp2_with (first|(go_at_call 124;refine(hP _).mono ?_;rintro e w1 ⟨rfl,rfl⟩)|(go_at_call 125;refine(hQ _).mono ?_;rintro e w1 ⟨rfl,rfl⟩))
     go_ret
     exact⟨rfl,rfl⟩
 | false=>
   rw[h1]at hP;clear h1 hQ
   go_enter Tryz.func99,Tryz.ntmps99
   go_wp2_with (go_at_call 124;refine(hP _).mono ?_;rintro e w1 ⟨rfl,rfl⟩)
   go_ret
   exact⟨rfl,rfl⟩
def IE(l:List ByteArray)(s:ByteArray):Bool:=l.any fun x=>x.toList==s.toList
theorem E8(l:List ByteArray)(s:ByteArray)(fp:List Nat)(v:Value)(w:World)(hS:Sl w (l.map ls) fp v):Calls Tryz.prog 127 #[v,.string s] w (AX (.bool (IE l s)) w):=by
 obtain⟨A,c,rfl,hl,hc⟩:=hS.Ad;have hm:l.length≤9223372036854775807:=by unfold maxLen at hc;omega
 clear hl hc
 go_enter Tryz.func127,Tryz.ntmps127
 go_wp2_with fail
 go_loop [5] (fun iv=>∃k:Nat,k≤l.length∧iv= .int .i64 k∧IE (l.take k) s=false) (fun iv=>l.length - (intOf iv).toNat)
 case atStart=>exact⟨0,by omega,rfl,rfl⟩
 case round=>
  obtain⟨k,hk,rfl,hno⟩:=hrel;have hno':=a_ hno;clear hno;by_cases hlt:k<l.length
  ·have hd:(l.map ls)[k]? =some (ls l[k]):=by rw[k_,i_ hlt];rfl
   obtain⟨b,o,fi,ci,rfl,hbb,hbf,hri,hfi,hat⟩:=hS.elem Yn hd;obtain⟨rfl,rfl⟩:=hri;have q0:w.cell? ⟨b,o+k,none⟩=some (.string l[k]):=by simpa using hat.head
   clear hat hd;cases he:((l[k]).toList==s.toList)with
   | true=>
     have hf:=a_ (show true=IE l s by
      unfold IE;rw[eq_comm,List.any_eq_true];exact⟨l[k],w_ hlt,he⟩)
     go_wp2_with fail
     go_ret
     exact⟨fA hf.out,rfl⟩
   | false=>
     have hf:=a_ (show IE (l.take (k+1)) s=false by
      have h:=hno'.out;unfold IE at h⊢;rw[m_ hlt,List.any_append,h];simp[he])
     go_wp2_with fail
     go_round
     case rel=>exact⟨k+1,by omega,by go_num,hf.out⟩
     case measure=>(simp[intOf]<;>omega)
  ·have hf:=a_ (show false=IE l s by
    have h:=hno'.out;rw[p_ (by omega)]at h;exact h.symm)
   go_wp2_with fail
   go_ret
   exact⟨fA hf.out,rfl⟩
def rC :List ByteArray:=ru.map fun l=>⟨l.toArray⟩
theorem Ux(s:ByteArray):IE rC s=ng s.toList:=by
 unfold IE ng rC;rw[List.any_map]
 induction ru with
 |nil=>rfl
 | cons x l ih=>
   rw[List.any_cons,r_,ih];congr 1;simp only[Function.comp,ByteArray.toList_mk];rw[Bool.eq_iff_iff,beq_iff_eq,beq_iff_eq];exact eq_comm
def YE(l:List D)(w:World)(e:Ending)(w':World):Prop:=∃fp v,e= .returned v∧Sl w' l fp v∧Below w.heap.size w w'
theorem MH{w:World}:∀(l:List ByteArray),Rs w (l.map ls) [] (l.map Value.string)
 | []=>⟨rfl,rfl⟩
 |x::l=>⟨[],[],[.string x],l.map Value.string,rfl,rfl,⟨rfl,rfl⟩,MH l⟩
theorem Aw(w:World):Calls Tryz.prog 128 #[] w (YE (rC.map ls) w):=by
 go_enter Tryz.func128,Tryz.ntmps128
 go_wp2
 go_ret
 refine⟨_,_,rfl,Sl.MZ (Row.new _ _ _) (MH rC) (by rfl) (by simp[maxLen]),(e_ _ _).alloc (o_ _) _⟩
theorem Az(s:ByteArray)(w:World):Calls Tryz.prog 102 #[.string s] w (wW (.bool (ng s.toList)) w):=by
 have hP:=fun wx (fp:List Nat) (v:Value) (hS:Sl wx (rC.map ls) fp v)=>E8 rC s fp v wx hS
 rw[Ux]at hP;generalize ng s.toList=b at hP
 go_enter Tryz.func102,Tryz.ntmps102
 go_wp2_with fail
 refine(Aw _).mono ?_;rintro e w1 ⟨fp,v,rfl,hS,hb⟩;obtain⟨A,c,rfl,_,_⟩:=hS.Ad
 go_wp2_with fail
 refine(hP _ _ _ hS).mono ?_;rintro e w2 ⟨rfl,rfl⟩
 go_wp2_with fail
 go_ret
 exact⟨rfl,hb⟩
theorem rM(s:ByteArray)(hs:s.size≤9223372036854775807)(w:World):Calls Tryz.prog 64 #[.string s] w (wW (.bool (jO s && !ng s.toList)) w):=by
 have hP:=fun wx=>Ik s hs wx
 have hQ:=fun wx=>Az s wx
 unfold jO;cases h1:l9 s with
 | true=>
   rw[h1]at hP;rcases ilt 8 (s.size:Int)with h3|h3
   ·have d1:decide ((s.size:Int)≤8)=false:=by simp;omega
    rw[d1];clear h1 hQ h3
    go_enter Tryz.func64,Tryz.ntmps64
    go_wp2_with (first|(go_at_call 101;refine(hP _).mono ?_;rintro e w1 ⟨rfl,rfl⟩)|(go_at_call 102;refine(hQ _).mono ?_;rintro e w1 ⟨rfl,hb⟩))
    go_ret
    exact⟨rfl,e_ _ _⟩
   ·have d1:decide ((s.size:Int)≤8)=true:=by simp;omega
    rw[d1];clear d1;cases h2:ng s.toList with
    | true=>
      rw[h2]at hQ;clear h1 h2
      go_enter Tryz.func64,Tryz.ntmps64
      go_wp2_with (first|(go_at_call 101;refine(hP _).mono ?_;rintro e w1 ⟨rfl,rfl⟩)|(go_at_call 102;refine(hQ _).mono ?_;rintro e w1 ⟨rfl,hb⟩))
      go_ret
      exact⟨rfl,hb⟩
    | false=>
      rw[h2]at hQ;clear h1 h2
      go_enter Tryz.func64,Tryz.ntmps64
      go_wp2_with (first|(go_at_call 101;refine(hP _).mono ?_;rintro e w1 ⟨rfl,rfl⟩)|(go_at_call 102;refine(hQ _).mono ?_;rintro e w1 ⟨rfl,hb⟩))
      go_ret
      exact⟨rfl,hb⟩
 | false=>
   rw[h1]at hP;clear h1 hQ
   go_enter Tryz.func64,Tryz.ntmps64
   go_wp2_with (first|(go_at_call 101;refine(hP _).mono ?_;rintro e w1 ⟨rfl,rfl⟩)|(go_at_call 102;refine(hQ _).mono ?_;rintro e w1 ⟨rfl,hb⟩))
   go_ret
   exact⟨rfl,e_ _ _⟩
def lM(x:GCell)(d f:Bool):Bool:=
 if x.kind==1 then x.name.toList.isEmpty && x.n==0
 else if x.kind==2 then d && x.n==0
 else if x.kind==4 then d && x.n==0
 else if x.kind==3 then d && x.code.toList.isEmpty && f
 else false
def fQ(x:GCell):Bool:=inR x.id 1 999 && inR x.ver 1 999 && gB x.code && lM x (jO x.name && !ng x.name.toList) (inR x.n 0 100)
theorem wG(x:GCell){d f:Bool}:((x.kind==1)=true∧x.name.toList.isEmpty=true∧lM x d f=(x.n==0))∨((x.kind==1)=true∧x.name.toList.isEmpty=false∧lM x d f=false)∨((x.kind==1)=false∧(x.kind==2)=true∧lM x d f=(d && x.n==0))∨
 ((x.kind==1)=false∧(x.kind==2)=false∧(x.kind==4)=true∧lM x d f=(d && x.n==0))∨((x.kind==1)=false∧(x.kind==2)=false∧(x.kind==4)=false∧(x.kind==3)=true∧lM x d f=(d && x.code.toList.isEmpty && f))∨
 ((x.kind==1)=false∧(x.kind==2)=false∧(x.kind==4)=false∧(x.kind==3)=false∧lM x d f=false):=by
 unfold lM;cases x.kind==1<;>cases x.kind==2<;>cases x.kind==4<;>cases x.kind==3<;>cases x.name.toList.isEmpty<;>simp
theorem rP (x:GCell)(hw:x.toD.wf)(w:World):Calls Tryz.prog 60 #[.agg #[.int .i64 x.id,.int .i64 x.ver,.int .i64 x.kind,.string x.name,.string x.code,.int .i64 x.n]] w (wW (.bool (fQ x)) w):=by
 have hw3:x.name.size≤9223372036854775807:=hw.2.2.2.1;have hw4:x.code.size≤9223372036854775807:=hw.2.2.2.2.1;clear hw;have hA:=fun wx=>rZ x.id 1 999 wx
 have hB:=fun wx=>rZ x.ver 1 999 wx
 have hC:=fun wx=>yZ x.code hw4 wx
 have hD:=fun wx=>yX x.name hw3 wx
 have hE:=fun wx=>rZ x.n 0 100 wx
 clear hw3 hw4;have hv:=a_ (show fQ x=(inR x.id 1 999 && inR x.ver 1 999 && gB x.code && lM x (jO x.name && !ng x.name.toList) (inR x.n 0 100)) from rfl);generalize inR x.id 1 999=a at hA hv;generalize inR x.ver 1 999=b at hB hv;generalize gB x.code=c at hC hv;generalize(jO x.name && !ng x.name.toList)=d at hD hv;generalize inR x.n 0 100=f at hE hv;rw[hv.out];clear hv;cases a with
 | false=>
   go_enter Tryz.func60,Tryz.ntmps60
   go_wp2_with fail
   refine(hA _).mono ?_;rintro e w1 ⟨rfl,rfl⟩
   go_wp2_with fail
   go_ret
   exact⟨rfl,(e_ _ _).alloc (by simp) _⟩
 | true =>
   cases b with
   | false=>
     go_enter Tryz.func60,Tryz.ntmps60
     go_wp2_with fail
     refine(hA _).mono ?_;rintro e w1 ⟨rfl,rfl⟩
     go_wp2_with fail
     refine(hB _).mono ?_;rintro e w1 ⟨rfl,rfl⟩
     go_wp2_with fail
     go_ret
     exact⟨rfl,(e_ _ _).alloc (by simp) _⟩
   | true =>
     cases c with
     | false=>
       go_enter Tryz.func60,Tryz.ntmps60
       go_wp2_with fail
       refine(hA _).mono ?_;rintro e w1 ⟨rfl,rfl⟩
       go_wp2_with fail
       refine(hB _).mono ?_;rintro e w1 ⟨rfl,rfl⟩
       go_wp2_with fail
       refine(hC _).mono ?_;rintro e w1 ⟨rfl,rfl⟩
       go_wp2_with fail
       go_ret
       exact⟨rfl,(e_ _ _).alloc (by simp) _⟩
     | true =>
       rcases wG x with⟨h1,hn,hk⟩|⟨h1,hn,hk⟩|⟨h1,h2,hk⟩|⟨h1,h2,h4,hk⟩|⟨h1,h2,h4,h3,hk⟩|⟨h1,h2,h4,h3,hk⟩
       all_goals rw[show(true && true && true && lM x d f)=lM x d f from rfl,hk]
       all_goals clear hk
       all_goals
        go_enter Tryz.func60,Tryz.ntmps60
        go_wp2_with fail
        refine(hA _).mono ?_;rintro e w1 ⟨rfl,rfl⟩
        go_wp2_with fail
        refine(hB _).mono ?_;rintro e w1 ⟨rfl,rfl⟩
        go_wp2_with fail
        refine(hC _).mono ?_;rintro e w1 ⟨rfl,rfl⟩
        go_wp2_with fail
       ·go_ret
        exact⟨rfl,(e_ _ _).alloc (by simp) _⟩
       ·go_ret
        exact⟨rfl,(e_ _ _).alloc (by simp) _⟩
       ·cases d with
        | true=>
          refine(hD _).mono ?_;rintro e w1 ⟨rfl,rfl⟩
          go_wp2_with fail
          go_ret
          exact⟨by simp[*],(e_ _ _).alloc (by simp) _⟩
        | false=>
          refine(hD _).mono ?_;rintro e w1 ⟨rfl,rfl⟩
          go_wp2_with fail
          go_ret
          exact⟨by simp[*],(e_ _ _).alloc (by simp) _⟩
       ·cases d with
        | true=>
          refine(hD _).mono ?_;rintro e w1 ⟨rfl,rfl⟩
          go_wp2_with fail
          go_ret
          exact⟨by simp[*],(e_ _ _).alloc (by simp) _⟩
        | false=>
          refine(hD _).mono ?_;rintro e w1 ⟨rfl,rfl⟩
          go_wp2_with fail
          go_ret
          exact⟨by simp[*],(e_ _ _).alloc (by simp) _⟩
       ·cases d with
        | true=>
          cases hc:x.code.toList.isEmpty with
          | true=>
            refine(hD _).mono ?_;rintro e w1 ⟨rfl,rfl⟩
            skip
            go_wp2_with fail
            refine(hE _).mono ?_;rintro e w2 ⟨rfl,rfl⟩
            go_wp2_with fail
            go_ret
            exact⟨by simp[*],(e_ _ _).alloc (by simp) _⟩
          | false=>
            refine(hD _).mono ?_;rintro e w1 ⟨rfl,rfl⟩
            skip
            go_wp2_with fail
            go_ret
            exact⟨by simp[*],(e_ _ _).alloc (by simp) _⟩
        | false=>
          refine(hD _).mono ?_;rintro e w1 ⟨rfl,rfl⟩
          go_wp2_with fail
          go_ret
          exact⟨by simp[*],(e_ _ _).alloc (by simp) _⟩
       ·go_ret
        exact⟨by simp[*],(e_ _ _).alloc (by simp) _⟩
theorem rO (x:GCell)(hw:x.toD.wf)(w:World):Calls Tryz.prog 23 #[.agg #[.int .i64 x.id,.int .i64 x.ver,.int .i64 x.kind,.string x.name,.string x.code,.int .i64 x.n]] w (wW (.bool (fQ x)) w):=by
 have hw3:x.name.size≤9223372036854775807:=hw.2.2.2.1;have hw4:x.code.size≤9223372036854775807:=hw.2.2.2.2.1;clear hw;have hA:=fun wx=>C9 x.id 1 999 wx
 have hB:=fun wx=>C9 x.ver 1 999 wx
 have hC:=fun wx=>yY x.code hw4 wx
 have hD:=fun wx=>rM x.name hw3 wx
 have hE:=fun wx=>C9 x.n 0 100 wx
 clear hw3 hw4;have hv:=a_ (show fQ x=(inR x.id 1 999 && inR x.ver 1 999 && gB x.code && lM x (jO x.name && !ng x.name.toList) (inR x.n 0 100)) from rfl);generalize inR x.id 1 999=a at hA hv;generalize inR x.ver 1 999=b at hB hv;generalize gB x.code=c at hC hv;generalize(jO x.name && !ng x.name.toList)=d at hD hv;generalize inR x.n 0 100=f at hE hv;rw[hv.out];clear hv;cases a with
 | false=>
   go_enter Tryz.func23,Tryz.ntmps23
   go_wp2_with fail
   refine(hA _).mono ?_;rintro e w1 ⟨rfl,rfl⟩
   go_wp2_with fail
   go_ret
   exact⟨rfl,(e_ _ _).alloc (by simp) _⟩
 | true =>
   cases b with
   | false=>
     go_enter Tryz.func23,Tryz.ntmps23
     go_wp2_with fail
     refine(hA _).mono ?_;rintro e w1 ⟨rfl,rfl⟩
     go_wp2_with fail
     refine(hB _).mono ?_;rintro e w1 ⟨rfl,rfl⟩
     go_wp2_with fail
     go_ret
     exact⟨rfl,(e_ _ _).alloc (by simp) _⟩
   | true =>
     cases c with
     | false=>
       go_enter Tryz.func23,Tryz.ntmps23
       go_wp2_with fail
       refine(hA _).mono ?_;rintro e w1 ⟨rfl,rfl⟩
       go_wp2_with fail
       refine(hB _).mono ?_;rintro e w1 ⟨rfl,rfl⟩
       go_wp2_with fail
       refine(hC _).mono ?_;rintro e w1 ⟨rfl,rfl⟩
       go_wp2_with fail
       go_ret
       exact⟨rfl,(e_ _ _).alloc (by simp) _⟩
     | true =>
       rcases wG x with⟨h1,hn,hk⟩|⟨h1,hn,hk⟩|⟨h1,h2,hk⟩|⟨h1,h2,h4,hk⟩|⟨h1,h2,h4,h3,hk⟩|⟨h1,h2,h4,h3,hk⟩
       all_goals rw[show(true && true && true && lM x d f)=lM x d f from rfl,hk]
       all_goals clear hk
       all_goals
        go_enter Tryz.func23,Tryz.ntmps23
        go_wp2_with fail
        refine(hA _).mono ?_;rintro e w1 ⟨rfl,rfl⟩
        go_wp2_with fail
        refine(hB _).mono ?_;rintro e w1 ⟨rfl,rfl⟩
        go_wp2_with fail
        refine(hC _).mono ?_;rintro e w1 ⟨rfl,rfl⟩
        go_wp2_with fail
       ·go_ret
        exact⟨rfl,(e_ _ _).alloc (by simp) _⟩
       ·go_ret
        exact⟨rfl,(e_ _ _).alloc (by simp) _⟩
       ·cases d with
        | true=>
          refine(hD _).mono ?_;rintro e w1 ⟨rfl,hb1⟩;have kk:=(zM hb1).1.cell
          go_wp2_with fail
          go_ret
          exact⟨by simp[*],((e_ _ _).alloc (by simp) _).trans (hb1.mono (by simp))⟩
        | false=>
          refine(hD _).mono ?_;rintro e w1 ⟨rfl,hb1⟩;have kk:=(zM hb1).1.cell
          go_wp2_with fail
          go_ret
          exact⟨by simp[*],((e_ _ _).alloc (by simp) _).trans (hb1.mono (by simp))⟩
       ·cases d with
        | true=>
          refine(hD _).mono ?_;rintro e w1 ⟨rfl,hb1⟩;have kk:=(zM hb1).1.cell
          go_wp2_with fail
          go_ret
          exact⟨by simp[*],((e_ _ _).alloc (by simp) _).trans (hb1.mono (by simp))⟩
        | false=>
          refine(hD _).mono ?_;rintro e w1 ⟨rfl,hb1⟩;have kk:=(zM hb1).1.cell
          go_wp2_with fail
          go_ret
          exact⟨by simp[*],((e_ _ _).alloc (by simp) _).trans (hb1.mono (by simp))⟩
       ·cases d with
        | true=>
          cases hc:x.code.toList.isEmpty with
          | true=>
            refine(hD _).mono ?_;rintro e w1 ⟨rfl,hb1⟩;have kk:=(zM hb1).1.cell
            skip
            go_wp2_with fail
            refine(hE _).mono ?_;rintro e w2 ⟨rfl,rfl⟩
            go_wp2_with fail
            go_ret
            exact⟨by simp[*],((e_ _ _).alloc (by simp) _).trans (hb1.mono (by simp))⟩
          | false=>
            refine(hD _).mono ?_;rintro e w1 ⟨rfl,hb1⟩;have kk:=(zM hb1).1.cell
            skip
            go_wp2_with fail
            go_ret
            exact⟨by simp[*],((e_ _ _).alloc (by simp) _).trans (hb1.mono (by simp))⟩
        | false=>
          refine(hD _).mono ?_;rintro e w1 ⟨rfl,hb1⟩;have kk:=(zM hb1).1.cell
          go_wp2_with fail
          go_ret
          exact⟨by simp[*],((e_ _ _).alloc (by simp) _).trans (hb1.mono (by simp))⟩
       ·go_ret
        exact⟨by simp[*],(e_ _ _).alloc (by simp) _⟩
def lX :List GCell→Int→Nat→Int
 | [],_,_=> -1
 |c::r,id,k=>if c.id==id then(k:Int)else lX r id (k+1)
def iT(l:List GCell)(id:Int):Int:=lX l id 0
def iE(l:List GCell):List GCell→Nat→Bool
 | [],_=>true
 |c::r,k=>fQ c && (iT l c.id==(k:Int)) && iE l r (k+1)
def gu(l:List GCell):Bool:=iE l l 0 && decide ((l.length:Int)≤8)
theorem Es(l:List GCell)(id:Int)(fp:List Nat)(v:Value)(w:World)(hS:Sl w (l.map GCell.toD) fp v):Calls Tryz.prog 92 #[.agg #[v],.int .i64 id] w (wW (.int .i64 (iT l id)) w):=by
 obtain⟨A,c,rfl,hl,hc⟩:=hS.Ad;have hm:l.length≤9223372036854775807:=by unfold maxLen at hc;omega
 clear hl hc
 go_enter Tryz.func92,Tryz.ntmps92
 go_wp2_with fail
 go_loopw [10] (fun iv wr=>∃k:Nat,k≤l.length∧iv= .int .i64 k∧iT l id=lX (l.drop k) id k∧Row wr w.heap.size 36 [.slice A l.length c]∧Below w.heap.size w wr) (fun iv _=>l.length - (intOf iv).toNat)
 case atStart=>exact⟨0,by omega,rfl,rfl,Row.new _ _ _,(e_ _ _).alloc (o_ _) _⟩
 case round=>
  obtain⟨k,hk,rfl,he,hro,hb⟩:=hrel;have he':=a_ he;clear he;have kk:=hro.cell;have hz:=hro.lt;by_cases hlt:k<l.length
  ·have hd:(l.map GCell.toD)[k]? =some (GCell.toD l[k]):=by rw[k_,i_ hlt];rfl
   obtain⟨b,o,fi,ci,rfl,hbb,hbf,hri,hfi,hat⟩:=hS.elem GCell.szs hd;obtain⟨rfl,rfl⟩:=GCell.opened.1 hri;have q0:wr.cell? ⟨b,o+k*6,none⟩=some (.int .i64 l[k].id):=(hb.cell (p:=⟨b,o+k*6,none⟩) hbb).trans (hat.head);have q1:wr.cell? ⟨b,o+k*6+1,none⟩=some (.int .i64 l[k].ver):=(hb.cell (p:=⟨b,o+k*6+1,none⟩) hbb).trans (hat.nth 1 rfl);have q2:wr.cell? ⟨b,o+k*6+2,none⟩=some (.int .i64 l[k].kind):=(hb.cell (p:=⟨b,o+k*6+2,none⟩) hbb).trans (hat.nth 2 rfl);have q3:wr.cell? ⟨b,o+k*6+3,none⟩=some (.string l[k].name):=(hb.cell (p:=⟨b,o+k*6+3,none⟩) hbb).trans (hat.nth 3 rfl);have q4:wr.cell? ⟨b,o+k*6+4,none⟩=some (.string l[k].code):=(hb.cell (p:=⟨b,o+k*6+4,none⟩) hbb).trans (hat.nth 4 rfl);have q5:wr.cell? ⟨b,o+k*6+5,none⟩=some (.int .i64 l[k].n):=(hb.cell (p:=⟨b,o+k*6+5,none⟩) hbb).trans (hat.nth 5 rfl);clear hat hd hri;have hst:=a_ (show lX (l.drop k) id k=if l[k].id==id then(k:Int)else lX (l.drop (k+1)) id (k+1) by rw[l_ hlt,lX]);cases hid:(l[k].id==id)with
   | true=>
     have hf:=a_ (show(k:Int)=iT l id by rw[he'.out,hst.out,hid];rfl)
     go_wp2_with fail
     go_ret
     exact⟨fO hf.out,by first|exact hb|exact hb.alloc (by omega) _⟩
   | false=>
     have hf:=a_ (show iT l id=lX (l.drop (k+1)) id (k+1) by rw[he'.out,hst.out,hid];rfl)
     go_wp2_with fail
     go_roundw
     case rel=>exact⟨k+1,by omega,by go_num,hf.out,by first|exact hro|exact hro.below ((e_ _ _).alloc (o_ _) _),by first|exact hb|exact hb.alloc (by omega) _⟩
     case measure=>(simp[intOf]<;>omega)
  ·have hf:=a_ (show(-1:Int)=iT l id by rw[he'.out,n_ (by omega)];rfl)
   go_wp2_with fail
   go_ret
   exact⟨fO hf.out,hb⟩
theorem Ep(l:List GCell)(id:Int)(fp:List Nat)(v:Value)(w:World)(hS:Sl w (l.map GCell.toD) fp v):Calls Tryz.prog 52 #[.agg #[v],.int .i64 id] w (wW (.int .i64 (iT l id)) w):=by
 obtain⟨A,c,rfl,hl,hc⟩:=hS.Ad;have hm:l.length≤9223372036854775807:=by unfold maxLen at hc;omega
 clear hl hc
 go_enter Tryz.func52,Tryz.ntmps52
 go_wp2_with fail
 go_loopw [5] (fun iv wr=>∃k:Nat,k≤l.length∧iv= .int .i64 k∧iT l id=lX (l.drop k) id k∧Row wr w.heap.size 36 [.slice A l.length c]∧Below w.heap.size w wr) (fun iv _=>l.length - (intOf iv).toNat)
 case atStart=>exact⟨0,by omega,rfl,rfl,Row.new _ _ _,(e_ _ _).alloc (o_ _) _⟩
 case round=>
  obtain⟨k,hk,rfl,he,hro,hb⟩:=hrel;have he':=a_ he;clear he;have kk:=hro.cell;have hz:=hro.lt;by_cases hlt:k<l.length
  ·have hd:(l.map GCell.toD)[k]? =some (GCell.toD l[k]):=by rw[k_,i_ hlt];rfl
   obtain⟨b,o,fi,ci,rfl,hbb,hbf,hri,hfi,hat⟩:=hS.elem GCell.szs hd;obtain⟨rfl,rfl⟩:=GCell.opened.1 hri;have q0:wr.cell? ⟨b,o+k*6,none⟩=some (.int .i64 l[k].id):=(hb.cell (p:=⟨b,o+k*6,none⟩) hbb).trans (hat.head);have q1:wr.cell? ⟨b,o+k*6+1,none⟩=some (.int .i64 l[k].ver):=(hb.cell (p:=⟨b,o+k*6+1,none⟩) hbb).trans (hat.nth 1 rfl);have q2:wr.cell? ⟨b,o+k*6+2,none⟩=some (.int .i64 l[k].kind):=(hb.cell (p:=⟨b,o+k*6+2,none⟩) hbb).trans (hat.nth 2 rfl);have q3:wr.cell? ⟨b,o+k*6+3,none⟩=some (.string l[k].name):=(hb.cell (p:=⟨b,o+k*6+3,none⟩) hbb).trans (hat.nth 3 rfl);have q4:wr.cell? ⟨b,o+k*6+4,none⟩=some (.string l[k].code):=(hb.cell (p:=⟨b,o+k*6+4,none⟩) hbb).trans (hat.nth 4 rfl);have q5:wr.cell? ⟨b,o+k*6+5,none⟩=some (.int .i64 l[k].n):=(hb.cell (p:=⟨b,o+k*6+5,none⟩) hbb).trans (hat.nth 5 rfl);clear hat hd hri;have hst:=a_ (show lX (l.drop k) id k=if l[k].id==id then(k:Int)else lX (l.drop (k+1)) id (k+1) by rw[l_ hlt,lX]);cases hid:(l[k].id==id)with
   | true=>
     have hf:=a_ (show(k:Int)=iT l id by rw[he'.out,hst.out,hid];rfl)
     go_wp2_with fail
     go_ret
     exact⟨fO hf.out,by first|exact hb|exact hb.alloc (by omega) _⟩
   | false=>
     have hf:=a_ (show iT l id=lX (l.drop (k+1)) id (k+1) by rw[he'.out,hst.out,hid];rfl)
     go_wp2_with fail
     go_roundw
     case rel=>exact⟨k+1,by omega,by go_num,hf.out,by first|exact hro|exact hro.below ((e_ _ _).alloc (o_ _) _),by first|exact hb|exact hb.alloc (by omega) _⟩
     case measure=>(simp[intOf]<;>omega)
  ·have hf:=a_ (show(-1:Int)=iT l id by rw[he'.out,n_ (by omega)];rfl)
   go_wp2_with fail
   go_ret
   exact⟨fO hf.out,hb⟩
theorem wfs_get{l:List GCell}(h:D.wfs (l.map GCell.toD)){k:Nat}(hk:k<l.length):(l[k]).toD.wf:=D.wfs_get h (List.mem_map_of_mem (f:=GCell.toD) (w_ hk))
theorem uG(l:List GCell)(fp:List Nat)(v:Value)(w:World)(hS:Sl w (l.map GCell.toD) fp v)(hw:D.wfs (l.map GCell.toD)):Calls Tryz.prog 50 #[.agg #[v]] w (wW (.bool (gu l)) w):=by
 have hI:∀(wx:World) (id:Int),Below w.heap.size w wx→Calls Tryz.prog 92 #[.agg #[v],.int .i64 id] wx (wW (.int .i64 (iT l id)) wx):=fun wx id h=>Es l id fp v wx (hS.below h)
 obtain⟨A,c,rfl,hl,hc⟩:=hS.Ad;have hm:l.length≤9223372036854775807:=by unfold maxLen at hc;omega
 clear hl hc
 go_enter Tryz.func50,Tryz.ntmps50
 go_wp2_with fail
 go_loopw [8] (fun iv wr=>∃k:Nat,k≤l.length∧iv= .int .i64 k∧iE l l 0=iE l (l.drop k) k∧Row wr w.heap.size 36 [.slice A l.length c]∧Below w.heap.size w wr) (fun iv _=>l.length - (intOf iv).toNat)
 case atStart=>exact⟨0,by omega,rfl,rfl,Row.new _ _ _,(e_ _ _).alloc (o_ _) _⟩
 case round=>
  obtain⟨k,hk,rfl,he,hro,hb⟩:=hrel;have he':=a_ he;clear he;have kk:=hro.cell;have hz:=hro.lt;by_cases hlt:k<l.length
  ·have hd:(l.map GCell.toD)[k]? =some (GCell.toD l[k]):=by rw[k_,i_ hlt];rfl
   obtain⟨b,o,fi,ci,rfl,hbb,hbf,hri,hfi,hat⟩:=hS.elem GCell.szs hd;obtain⟨rfl,rfl⟩:=GCell.opened.1 hri;have q0:wr.cell? ⟨b,o+k*6,none⟩=some (.int .i64 l[k].id):=(hb.cell (p:=⟨b,o+k*6,none⟩) hbb).trans (hat.head);have q1:wr.cell? ⟨b,o+k*6+1,none⟩=some (.int .i64 l[k].ver):=(hb.cell (p:=⟨b,o+k*6+1,none⟩) hbb).trans (hat.nth 1 rfl);have q2:wr.cell? ⟨b,o+k*6+2,none⟩=some (.int .i64 l[k].kind):=(hb.cell (p:=⟨b,o+k*6+2,none⟩) hbb).trans (hat.nth 2 rfl);have q3:wr.cell? ⟨b,o+k*6+3,none⟩=some (.string l[k].name):=(hb.cell (p:=⟨b,o+k*6+3,none⟩) hbb).trans (hat.nth 3 rfl);have q4:wr.cell? ⟨b,o+k*6+4,none⟩=some (.string l[k].code):=(hb.cell (p:=⟨b,o+k*6+4,none⟩) hbb).trans (hat.nth 4 rfl);have q5:wr.cell? ⟨b,o+k*6+5,none⟩=some (.int .i64 l[k].n):=(hb.cell (p:=⟨b,o+k*6+5,none⟩) hbb).trans (hat.nth 5 rfl);clear hat hd hri;have hst:=a_ (show iE l (l.drop k) k=(fQ l[k] && (iT l l[k].id==(k:Int)) && iE l (l.drop (k+1)) (k+1)) by rw[l_ hlt,iE]);have hV:=fun wx=>rP l[k] (wfs_get hw hlt) wx
   go_wp2_with fail
   refine(hV _).mono ?_;clear hV;cases hc1:fQ l[k]with
   | false=>
     have hf:=a_ (show false=gu l by unfold gu;rw[he'.out,hst.out,hc1];rfl);rintro e w1 ⟨rfl,hb1⟩
     go_wp2_with fail
     go_ret
     exact⟨fA hf.out,(hb.alloc (by omega) _).trans (hb1.mono (by simp;omega))⟩
   | true=>
     rintro e w1 ⟨rfl,hb1⟩;obtain⟨hr1,hz1,L1⟩:=zM hb1;have r1:=hro.below L1;have k1:=hr1.cell;have k2:=r1.cell;have B1:Below w.heap.size w w1:=hb.trans (L1.mono (by omega))
     go_wp2_with fail
     refine(hI _ _ B1).mono ?_;cases hc2:(iT l l[k].id==(k:Int))with
     | false=>
       have hf:=a_ (show false=gu l by unfold gu;rw[he'.out,hst.out,hc1,hc2];rfl);have hne:(iT l l[k].id !=(k:Int))=true:=by simp[bne,hc2]
       generalize iT l l[k].id=ix at*;clear hc2;rintro e w2 ⟨rfl,hb2⟩
       go_wp2_with fail
       go_ret
       exact⟨fA hf.out,B1.trans (hb2.mono (by have:=B1.size;omega))⟩
     | true=>
       have hf:=a_ (show iE l l 0=iE l (l.drop (k+1)) (k+1) by rw[he'.out,hst.out,hc1,hc2];rfl);have hne:(iT l l[k].id !=(k:Int))=false:=by simp[bne,hc2]
       generalize iT l l[k].id=ix at*;clear hc2;rintro e w2 ⟨rfl,hb2⟩
       go_wp2_with fail
       go_roundw
       case rel=>exact⟨k+1,by omega,by go_num,hf.out,r1.below hb2,B1.trans (hb2.mono (by have:=B1.size;omega))⟩
       case measure=>(simp[intOf]<;>omega)
  ·have hf:=a_ (show decide ((l.length:Int)≤8)=gu l by unfold gu;rw[he'.out,n_ (by omega)];rfl)
   go_wp2_with fail
   go_ret
   exact⟨fA hf.out,hb⟩
theorem uF(l:List GCell)(fp:List Nat)(v:Value)(w:World)(hS:Sl w (l.map GCell.toD) fp v)(hw:D.wfs (l.map GCell.toD)):Calls Tryz.prog 16 #[.agg #[v]] w (wW (.bool (gu l)) w):=by
 have hI:∀(wx:World) (id:Int),Below w.heap.size w wx→Calls Tryz.prog 52 #[.agg #[v],.int .i64 id] wx (wW (.int .i64 (iT l id)) wx):=fun wx id h=>Ep l id fp v wx (hS.below h)
 obtain⟨A,c,rfl,hl,hc⟩:=hS.Ad;have hm:l.length≤9223372036854775807:=by unfold maxLen at hc;omega
 clear hl hc
 go_enter Tryz.func16,Tryz.ntmps16
 go_wp2_with fail
 go_loopw [3] (fun iv wr=>∃k:Nat,k≤l.length∧iv= .int .i64 k∧iE l l 0=iE l (l.drop k) k∧Row wr w.heap.size 36 [.slice A l.length c]∧Below w.heap.size w wr) (fun iv _=>l.length - (intOf iv).toNat)
 case atStart=>exact⟨0,by omega,rfl,rfl,Row.new _ _ _,(e_ _ _).alloc (o_ _) _⟩
 case round=>
  obtain⟨k,hk,rfl,he,hro,hb⟩:=hrel;have he':=a_ he;clear he;have kk:=hro.cell;have hz:=hro.lt;by_cases hlt:k<l.length
  ·have hd:(l.map GCell.toD)[k]? =some (GCell.toD l[k]):=by rw[k_,i_ hlt];rfl
   obtain⟨b,o,fi,ci,rfl,hbb,hbf,hri,hfi,hat⟩:=hS.elem GCell.szs hd;obtain⟨rfl,rfl⟩:=GCell.opened.1 hri;have q0:wr.cell? ⟨b,o+k*6,none⟩=some (.int .i64 l[k].id):=(hb.cell (p:=⟨b,o+k*6,none⟩) hbb).trans (hat.head);have q1:wr.cell? ⟨b,o+k*6+1,none⟩=some (.int .i64 l[k].ver):=(hb.cell (p:=⟨b,o+k*6+1,none⟩) hbb).trans (hat.nth 1 rfl);have q2:wr.cell? ⟨b,o+k*6+2,none⟩=some (.int .i64 l[k].kind):=(hb.cell (p:=⟨b,o+k*6+2,none⟩) hbb).trans (hat.nth 2 rfl);have q3:wr.cell? ⟨b,o+k*6+3,none⟩=some (.string l[k].name):=(hb.cell (p:=⟨b,o+k*6+3,none⟩) hbb).trans (hat.nth 3 rfl);have q4:wr.cell? ⟨b,o+k*6+4,none⟩=some (.string l[k].code):=(hb.cell (p:=⟨b,o+k*6+4,none⟩) hbb).trans (hat.nth 4 rfl);have q5:wr.cell? ⟨b,o+k*6+5,none⟩=some (.int .i64 l[k].n):=(hb.cell (p:=⟨b,o+k*6+5,none⟩) hbb).trans (hat.nth 5 rfl);clear hat hd hri;have hst:=a_ (show iE l (l.drop k) k=(fQ l[k] && (iT l l[k].id==(k:Int)) && iE l (l.drop (k+1)) (k+1)) by rw[l_ hlt,iE]);have hV:=fun wx=>rO l[k] (wfs_get hw hlt) wx
   have hbr:b<wr.heap.size:=s_ hbb hb.size;have hi1:0≤(k:Int):=by omega
   have hi2:(k:Int)<l.length:=by omega
   cases hc1:fQ l[k]with
   | false=>
     have hf:=a_ (show false=gu l by unfold gu;rw[he'.out,hst.out,hc1];rfl);rw[hc1]at hV;clear hc1
     go_wp2_with fail
     refine wp_region_held_drew (S:=(fun w'=>w'.cell? ⟨w.heap.size,0,none⟩=some (.slice (some ⟨b,o,none⟩) l.length c)∧w'.cell? ⟨b,o+k*6,none⟩=some (.int .i64 l[k].id)∧w'.cell? ⟨b,o+k*6+1,none⟩=some (.int .i64 l[k].ver)∧w'.cell? ⟨b,o+k*6+2,none⟩=some (.int .i64 l[k].kind)∧w'.cell? ⟨b,o+k*6+3,none⟩=some (.string l[k].name)∧w'.cell? ⟨b,o+k*6+4,none⟩=some (.string l[k].code)∧w'.cell? ⟨b,o+k*6+5,none⟩=some (.int .i64 l[k].n))) (by kernel_rfl) ?_ (fun hHeld=> ?_)
     ·go_keep
     refine wpAnyH_take (i:=0) (v:= ?_) rfl (by kernel_rfl) (by kernel_rfl) (by kernel_rfl) (fun _ _ _ h=>h) (t_ ⟨by rfl, ?_⟩) ‹_› ?_
     rotate_left
     ·intro w hSw
      try dsimp only at hSw
      go_simp
      try with_reducible rfl
     try simp only[j_,f_,c_,d_,b_,g_,h_]
     refine wpAnyH_take (i:=1) (v:= ?_) rfl (by kernel_rfl) (by kernel_rfl) (by kernel_rfl) (fun _ _ _ h=>h) (t_ ⟨by rfl, ?_⟩) ‹_› ?_
     rotate_left
     ·intro w hSw
      try dsimp only at hSw
      go_simp
      try with_reducible rfl
     try simp only[j_,f_,c_,d_,b_,g_,h_]
     refine wpAnyH_take (i:=2) (v:= ?_) rfl (by kernel_rfl) (by kernel_rfl) (by kernel_rfl) (fun _ _ _ h=>h) (t_ ⟨by rfl, ?_⟩) ‹_› ?_
     rotate_left
     ·intro w hSw
      try dsimp only at hSw
      go_simp
      try with_reducible rfl
     try simp only[j_,f_,c_,d_,b_,g_,h_]
     refine wpAnyH_take (i:=3) (v:= ?_) rfl (by kernel_rfl) (by kernel_rfl) (by kernel_rfl) (fun _ _ _ h=>h) (t_ ⟨by rfl, ?_⟩) ‹_› ?_
     rotate_left
     ·intro w hSw
      try dsimp only at hSw
      go_simp
      try with_reducible rfl
     try simp only[j_,f_,c_,d_,b_,g_,h_]
     refine wpAnyH_take (i:=4) (v:= ?_) rfl (by kernel_rfl) (by kernel_rfl) (by kernel_rfl) (fun _ _ _ h=>h) (t_ ⟨by rfl, ?_⟩) ‹_› ?_
     rotate_left
     ·intro w hSw
      try dsimp only at hSw
      go_simp
      try with_reducible rfl
     try simp only[j_,f_,c_,d_,b_,g_,h_]
     refine wpAnyH_ready (rs:= [5]) (by kernel_rfl) (by simp) ?_;refine AllReadyH.cons rfl (fun K hK=> ?_) AllReadyH.nil
     go_simp
     refine(hV _).mono ?_;rintro e w1 ⟨rfl,hb1⟩;have L1:Below wr.heap.size wr w1:=(e_ _ _).drew.trans hb1;have r1:=hro.below L1;have k1:=r1.cell;have c1:∀o,w1.cell? ⟨b,o,none⟩=wr.cell? ⟨b,o,none⟩:=fun o=>L1.cell (p:=⟨b,o,none⟩) hbr
     have B1:Below w.heap.size w w1:=hb.trans (L1.mono (by omega));refine hK.out _ _ ?_ (fun hHeld1=> ?_)
     ·go_keep
     clear hK K
     try simp only[j_,f_,c_,d_,b_,g_,h_]
     refine wpAnyH_take (i:=6) (v:= ?_) rfl (by kernel_rfl) (by kernel_rfl) (by kernel_rfl) (fun _ _ _ h=>h) (t_ ⟨by rfl, ?_⟩) ‹_› ?_
     rotate_left
     ·intro w hSw
      try dsimp only at hSw
      go_simp
      try with_reducible rfl
     try simp only[j_,f_,c_,d_,b_,g_,h_]
     refine wpAnyH_take (i:=7) (v:= ?_) rfl (by kernel_rfl) (by kernel_rfl) (by kernel_rfl) (fun _ _ _ h=>h) (t_ ⟨by rfl, ?_⟩) ‹_› ?_
     rotate_left
     ·intro w hSw
      try dsimp only at hSw
      go_simp
      try with_reducible rfl
     try simp only[j_,f_,c_,d_,b_,g_,h_]
     refine wpAnyH_take (i:=8) (v:=undef) rfl (by kernel_rfl) (by kernel_rfl) (by kernel_rfl) (fun _ _ _ h=>h) (q_ ⟨by rfl,rfl⟩) ‹_› ?_
     try simp only[j_,f_,c_,d_,b_,g_,h_]
     refine wpAnyH_take (i:=9) (v:=undef) rfl (by kernel_rfl) (by kernel_rfl) (by kernel_rfl) (fun _ _ _ h=>h) (q_ ⟨by rfl,rfl⟩) ‹_› ?_
     try simp only[j_,f_,c_,d_,b_,g_,h_]
     refine wpAnyH_take (i:=10) (v:=undef) rfl (by kernel_rfl) (by kernel_rfl) (by kernel_rfl) (fun _ _ _ h=>h) (q_ ⟨by rfl,rfl⟩) ‹_› ?_
     try simp only[j_,f_,c_,d_,b_,g_,h_]
     refine wpAnyH_take (i:=11) (v:=undef) rfl (by kernel_rfl) (by kernel_rfl) (by kernel_rfl) (fun _ _ _ h=>h) (q_ ⟨by rfl,rfl⟩) ‹_› ?_
     try simp only[j_,f_,c_,d_,b_,g_,h_]
     refine wpAnyH_take (i:=12) (v:=undef) rfl (by kernel_rfl) (by kernel_rfl) (by kernel_rfl) (fun _ _ _ h=>h) (q_ ⟨by rfl,rfl⟩) ‹_› ?_
     try simp only[j_,f_,c_,d_,b_,g_,h_]
     refine wpAnyH_take (i:=13) (v:=undef) rfl (by kernel_rfl) (by kernel_rfl) (by kernel_rfl) (fun _ _ _ h=>h) (q_ ⟨by rfl,rfl⟩) ‹_› ?_
     try simp only[j_,f_,c_,d_,b_,g_,h_]
     refine wpAnyH_take (i:=14) (v:=undef) rfl (by kernel_rfl) (by kernel_rfl) (by kernel_rfl) (fun _ _ _ h=>h) (q_ ⟨by rfl,rfl⟩) ‹_› ?_
     try simp only[j_,f_,c_,d_,b_,g_,h_]
     refine wpAnyH_take (i:=15) (v:=undef) rfl (by kernel_rfl) (by kernel_rfl) (by kernel_rfl) (fun _ _ _ h=>h) (q_ ⟨by rfl,rfl⟩) ‹_› ?_
     try simp only[j_,f_,c_,d_,b_,g_,h_]
     refine wpAnyH_take (i:=16) (v:=undef) rfl (by kernel_rfl) (by kernel_rfl) (by kernel_rfl) (fun _ _ _ h=>h) (q_ ⟨by rfl,rfl⟩) ‹_› ?_
     try simp only[j_,f_,c_,d_,b_,g_,h_]
     refine wpAnyH_take (i:=17) (v:=undef) rfl (by kernel_rfl) (by kernel_rfl) (by kernel_rfl) (fun _ _ _ h=>h) (q_ ⟨by rfl,rfl⟩) ‹_› ?_
     try simp only[j_,f_,c_,d_,b_,g_,h_]
     refine wpAnyH_take (i:=18) (v:= ?_) rfl (by kernel_rfl) (by kernel_rfl) (by kernel_rfl) (fun _ _ _ h=>h) (t_ ⟨by rfl, ?_⟩) ‹_› ?_
     rotate_left
     ·intro w hSw
      try dsimp only at hSw
      go_simp
      try with_reducible rfl
     try simp only[j_,f_,c_,d_,b_,g_,h_]
     refine wpAnyH_done (by kernel_rfl) ?_ _
     go_wp2_with fail
     go_ret
     exact⟨fA hf.out,B1⟩
   | true=>
     rw[hc1]at hV;cases hc2:(iT l l[k].id==(k:Int))with
     | false=>
       have hf:=a_ (show false=gu l by unfold gu;rw[he'.out,hst.out,hc1,hc2];rfl);have hne:(iT l l[k].id !=(k:Int))=true:=by simp[bne,hc2]
       clear hc1 hc2
       go_wp2_with fail
       go_region_held3 (fun w'=>w'.cell? ⟨w.heap.size,0,none⟩=some (.slice (some ⟨b,o,none⟩) l.length c)∧w'.cell? ⟨b,o+k*6,none⟩=some (.int .i64 l[k].id)∧w'.cell? ⟨b,o+k*6+1,none⟩=some (.int .i64 l[k].ver)∧w'.cell? ⟨b,o+k*6+2,none⟩=some (.int .i64 l[k].kind)∧w'.cell? ⟨b,o+k*6+3,none⟩=some (.string l[k].name)∧w'.cell? ⟨b,o+k*6+4,none⟩=some (.string l[k].code)∧w'.cell? ⟨b,o+k*6+5,none⟩=some (.int .i64 l[k].n)) (go_keep)
        (first|(go_at_call 23;refine(hV _).mono ?_;rintro e w1 ⟨rfl,hb1⟩;have L1:Below wr.heap.size wr w1:=(e_ _ _).drew.trans hb1;have r1:=hro.below L1;have k1:=r1.cell;have c1:∀o,w1.cell? ⟨b,o,none⟩=wr.cell? ⟨b,o,none⟩:=fun o=>L1.cell (p:=⟨b,o,none⟩) hbr;have B1:Below w.heap.size w w1:=hb.trans (L1.mono (by omega)))|(go_at_call 52;refine(hI _ _ B1).mono ?_;rintro e w2 ⟨rfl,hb2⟩;have r2:=r1.below hb2;have k2:=r2.cell;have c2:∀o,w2.cell? ⟨b,o,none⟩=w1.cell? ⟨b,o,none⟩:=fun o=>hb2.cell (p:=⟨b,o,none⟩) (s_ hbr L1.size);have B2:Below w.heap.size w w2:=B1.trans (hb2.mono (by have:=B1.size;omega))))
       go_wp2_with fail
       go_ret
       exact⟨fA hf.out,B2⟩
     | true=>
       have hf:=a_ (show iE l l 0=iE l (l.drop (k+1)) (k+1) by rw[he'.out,hst.out,hc1,hc2];rfl);have hne:(iT l l[k].id !=(k:Int))=false:=by simp[bne,hc2]
       clear hc1 hc2
       go_wp2_with fail
       go_region_held3 (fun w'=>w'.cell? ⟨w.heap.size,0,none⟩=some (.slice (some ⟨b,o,none⟩) l.length c)∧w'.cell? ⟨b,o+k*6,none⟩=some (.int .i64 l[k].id)∧w'.cell? ⟨b,o+k*6+1,none⟩=some (.int .i64 l[k].ver)∧w'.cell? ⟨b,o+k*6+2,none⟩=some (.int .i64 l[k].kind)∧w'.cell? ⟨b,o+k*6+3,none⟩=some (.string l[k].name)∧w'.cell? ⟨b,o+k*6+4,none⟩=some (.string l[k].code)∧w'.cell? ⟨b,o+k*6+5,none⟩=some (.int .i64 l[k].n)) (go_keep)
        (first|(go_at_call 23;refine(hV _).mono ?_;rintro e w1 ⟨rfl,hb1⟩;have L1:Below wr.heap.size wr w1:=(e_ _ _).drew.trans hb1;have r1:=hro.below L1;have k1:=r1.cell;have c1:∀o,w1.cell? ⟨b,o,none⟩=wr.cell? ⟨b,o,none⟩:=fun o=>L1.cell (p:=⟨b,o,none⟩) hbr;have B1:Below w.heap.size w w1:=hb.trans (L1.mono (by omega)))|(go_at_call 52;refine(hI _ _ B1).mono ?_;rintro e w2 ⟨rfl,hb2⟩;have r2:=r1.below hb2;have k2:=r2.cell;have c2:∀o,w2.cell? ⟨b,o,none⟩=w1.cell? ⟨b,o,none⟩:=fun o=>hb2.cell (p:=⟨b,o,none⟩) (s_ hbr L1.size);have B2:Below w.heap.size w w2:=B1.trans (hb2.mono (by have:=B1.size;omega))))
       go_wp2_with fail
       go_roundw
       case rel=>exact⟨k+1,by omega,by go_num,hf.out,r2,B2⟩
       case measure=>(simp[intOf]<;>omega)
  ·have hf:=a_ (show decide ((l.length:Int)≤8)=gu l by unfold gu;rw[he'.out,n_ (by omega)];rfl)
   go_wp2_with fail
   go_ret
   exact⟨fA hf.out,hb⟩
end Go.Proofs.YtfengkmaphbofaaGreatDoor
