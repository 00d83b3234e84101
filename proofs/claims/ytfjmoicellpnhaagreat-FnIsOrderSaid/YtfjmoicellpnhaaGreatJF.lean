/-
  Texts joined: Res Res2 Valid ValidNb Cells.
-/
import Derived.Test.YtfjmoicellpnhaaGreatJA
import Derived.Test.YtfjmoicellpnhaaGreatProg
import Derived.KernelRfl
set_option maxHeartbeats 8000000
set_option maxRecDepth 20000
set_option linter.unusedSimpArgs false
set_option linter.unusedVariables false
namespace Go.Proofs.YtfjmoicellpnhaaGreat
open Go.RowKit
open List renaming setIfInBounds_toArray→a_,getElem_cons_succ→b_,getElem_cons_zero→c_,getElem_toArray→d_,set_cons_zero→e_,set_cons_succ→f_,getElem?_eq_getElem→j_,getElem?_map→m_,drop_eq_getElem_cons→n_,drop_eq_nil_of_le→q_,getElem_mem→r_
open Lib renaming hid→g_
open Below renaming refl→h_
open Act renaming put→i_
open Or renaming inr→k_,inl→o_
open Nat renaming lt_of_lt_of_le→l_,le_refl→p_
def gB :List (List UInt8×Int):= [([99,108,111,99,107],0),([108,101,110],1),([115,117,109],1),([114,111,119,115],1),([99,104,97,110,99,101],1),([102,105,108,101],1),([116,97,107,101],2),([115,107,105,112],2),([114,97,110,103,101],2),([110,116,104],2),([107,101,101,112],2),([99,111,108,117,109,110],2),([116,97,98,108,101],2),([119,104,101,114,101],3),([103,114,111,117,112],3),([106,111,105,110],3),([97,100,100],4)]
def kE :List (List UInt8×Int)→List UInt8→Int
 | [],_=> -1
 |(w,n)::r,l=>if l==w then n else kE r l
def eG(l:List UInt8):Int:=kE gB l
def Hz :List (List UInt8):= [[108,101,116],[105,110],[105,102],[116,104,101,110],[101,108,115,101],[102,111,114],[100,111],[108,101,110],[115,117,109],[116,97,107,101],[115,107,105,112],[114,97,110,103,101],[110,116,104],[119,104,101,114,101],[107,101,101,112],[97,100,100],[103,114,111,117,112],[106,111,105,110],[99,111,108,117,109,110],[114,111,119,115],[99,108,111,99,107],[99,104,97,110,99,101],[102,105,108,101],[116,97,98,108,101]]
def Kv(l:List UInt8):Bool:=Hz.contains l
theorem fP{w l:List UInt8}{n:Int}{r:List (List UInt8×Int)}(h:(l==w)=true):kE ((w,n)::r) l=n:=by rw[kE,h];rfl
theorem aj{w l:List UInt8}{n:Int}{r:List (List UInt8×Int)}(h:(l==w)=false):kE ((w,n)::r) l=kE r l:=by rw[kE,h];rfl
theorem KU (s : ByteArray) (w:World):Calls Tryz.prog 220 #[.string s] w (UF (.int .i64 (eG s.toList)) w):=by
 cases e0:(s.toList== [99,108,111,99,107])with
 | true=>
   have hf:=g_ (show(0:Int)=eG s.toList from(show kE gB s.toList=0 from fP e0).symm)
   go_enter Tryz.func220,Tryz.ntmps220
   go_wp2
   go_ret
   exact⟨gQ hf.out,rfl⟩
 | false =>
   cases e1:(s.toList== [108,101,110])with
   | true=>
     have hf:=g_ (show(1:Int)=eG s.toList from(show kE gB s.toList=1 from(aj e0).trans (fP e1)).symm)
     go_enter Tryz.func220,Tryz.ntmps220
     go_wp2
     go_ret
     exact⟨gQ hf.out,rfl⟩
   | false =>
     cases e2:(s.toList== [115,117,109])with
     | true=>
       have hf:=g_ (show(1:Int)=eG s.toList from(show kE gB s.toList=1 from(aj e0).trans ((aj e1).trans (fP e2))).symm)
       go_enter Tryz.func220,Tryz.ntmps220
       go_wp2
       go_ret
       exact⟨gQ hf.out,rfl⟩
     | false =>
       cases e3:(s.toList== [114,111,119,115])with
       | true=>
         have hf:=g_ (show(1:Int)=eG s.toList from(show kE gB s.toList=1 from(aj e0).trans ((aj e1).trans ((aj e2).trans (fP e3)))).symm)
         go_enter Tryz.func220,Tryz.ntmps220
         go_wp2
         go_ret
         exact⟨gQ hf.out,rfl⟩
       | false =>
         cases e4:(s.toList== [99,104,97,110,99,101])with
         | true=>
           have hf:=g_ (show(1:Int)=eG s.toList from(show kE gB s.toList=1 from(aj e0).trans ((aj e1).trans ((aj e2).trans ((aj e3).trans (fP e4))))).symm)
           go_enter Tryz.func220,Tryz.ntmps220
           go_wp2
           go_ret
           exact⟨gQ hf.out,rfl⟩
         | false =>
           cases e5:(s.toList== [102,105,108,101])with
           | true=>
             have hf:=g_ (show(1:Int)=eG s.toList from(show kE gB s.toList=1 from(aj e0).trans ((aj e1).trans ((aj e2).trans ((aj e3).trans ((aj e4).trans (fP e5)))))).symm)
             go_enter Tryz.func220,Tryz.ntmps220
             go_wp2
             go_ret
             exact⟨gQ hf.out,rfl⟩
           | false =>
             cases e6:(s.toList== [116,97,107,101])with
             | true=>
               have hf:=g_ (show(2:Int)=eG s.toList from(show kE gB s.toList=2 from(aj e0).trans ((aj e1).trans ((aj e2).trans ((aj e3).trans ((aj e4).trans ((aj e5).trans (fP e6))))))).symm)
               go_enter Tryz.func220,Tryz.ntmps220
               go_wp2
               go_ret
               exact⟨gQ hf.out,rfl⟩
             | false =>
               cases e7:(s.toList== [115,107,105,112])with
               | true=>
                 have hf:=g_ (show(2:Int)=eG s.toList from(show kE gB s.toList=2 from(aj e0).trans ((aj e1).trans ((aj e2).trans ((aj e3).trans ((aj e4).trans ((aj e5).trans ((aj e6).trans (fP e7)))))))).symm)
                 go_enter Tryz.func220,Tryz.ntmps220
                 go_wp2
                 go_ret
                 exact⟨gQ hf.out,rfl⟩
               | false =>
                 cases e8:(s.toList== [114,97,110,103,101])with
                 | true=>
                   have hf:=g_ (show(2:Int)=eG s.toList from(show kE gB s.toList=2 from(aj e0).trans ((aj e1).trans ((aj e2).trans ((aj e3).trans ((aj e4).trans ((aj e5).trans ((aj e6).trans ((aj e7).trans (fP e8))))))))).symm)
                   go_enter Tryz.func220,Tryz.ntmps220
                   go_wp2
                   go_ret
                   exact⟨gQ hf.out,rfl⟩
                 | false =>
                   cases e9:(s.toList== [110,116,104])with
                   | true=>
                     have hf:=g_ (show(2:Int)=eG s.toList from(show kE gB s.toList=2 from(aj e0).trans ((aj e1).trans ((aj e2).trans ((aj e3).trans ((aj e4).trans ((aj e5).trans ((aj e6).trans ((aj e7).trans ((aj e8).trans (fP e9)))))))))).symm)
                     go_enter Tryz.func220,Tryz.ntmps220
                     go_wp2
                     go_ret
                     exact⟨gQ hf.out,rfl⟩
                   | false =>
                     cases e10:(s.toList== [107,101,101,112])with
                     | true=>
                       have hf:=g_ (show(2:Int)=eG s.toList from(show kE gB s.toList=2 from(aj e0).trans ((aj e1).trans ((aj e2).trans ((aj e3).trans ((aj e4).trans ((aj e5).trans ((aj e6).trans ((aj e7).trans ((aj e8).trans ((aj e9).trans (fP e10))))))))))).symm)
                       go_enter Tryz.func220,Tryz.ntmps220
                       go_wp2
                       go_ret
                       exact⟨gQ hf.out,rfl⟩
                     | false =>
                       cases e11:(s.toList== [99,111,108,117,109,110])with
                       | true=>
                         have hf:=g_ (show(2:Int)=eG s.toList from(show kE gB s.toList=2 from(aj e0).trans ((aj e1).trans ((aj e2).trans ((aj e3).trans ((aj e4).trans ((aj e5).trans ((aj e6).trans ((aj e7).trans ((aj e8).trans ((aj e9).trans ((aj e10).trans (fP e11)))))))))))).symm)
                         go_enter Tryz.func220,Tryz.ntmps220
                         go_wp2
                         go_ret
                         exact⟨gQ hf.out,rfl⟩
                       | false =>
                         cases e12:(s.toList== [116,97,98,108,101])with
                         | true=>
                           have hf:=g_ (show(2:Int)=eG s.toList from(show kE gB s.toList=2 from(aj e0).trans ((aj e1).trans ((aj e2).trans ((aj e3).trans ((aj e4).trans ((aj e5).trans ((aj e6).trans ((aj e7).trans ((aj e8).trans ((aj e9).trans ((aj e10).trans ((aj e11).trans (fP e12))))))))))))).symm)
                           go_enter Tryz.func220,Tryz.ntmps220
                           go_wp2
                           go_ret
                           exact⟨gQ hf.out,rfl⟩
                         | false =>
                           cases e13:(s.toList== [119,104,101,114,101])with
                           | true=>
                             have hf:=g_ (show(3:Int)=eG s.toList from(show kE gB s.toList=3 from(aj e0).trans ((aj e1).trans ((aj e2).trans ((aj e3).trans ((aj e4).trans ((aj e5).trans ((aj e6).trans ((aj e7).trans ((aj e8).trans ((aj e9).trans ((aj e10).trans ((aj e11).trans ((aj e12).trans (fP e13)))))))))))))).symm)
                             go_enter Tryz.func220,Tryz.ntmps220
                             go_wp2
                             go_ret
                             exact⟨gQ hf.out,rfl⟩
                           | false =>
                             cases e14:(s.toList== [103,114,111,117,112])with
                             | true=>
                               have hf:=g_ (show(3:Int)=eG s.toList from(show kE gB s.toList=3 from(aj e0).trans ((aj e1).trans ((aj e2).trans ((aj e3).trans ((aj e4).trans ((aj e5).trans ((aj e6).trans ((aj e7).trans ((aj e8).trans ((aj e9).trans ((aj e10).trans ((aj e11).trans ((aj e12).trans ((aj e13).trans (fP e14))))))))))))))).symm)
                               go_enter Tryz.func220,Tryz.ntmps220
                               go_wp2
                               go_ret
                               exact⟨gQ hf.out,rfl⟩
                             | false=>
                               cases e15:(s.toList== [106,111,105,110])with
                               | true=>
                                 have hf:=g_ (show(3:Int)=eG s.toList from(show kE gB s.toList=3 from(aj e0).trans ((aj e1).trans ((aj e2).trans ((aj e3).trans ((aj e4).trans ((aj e5).trans ((aj e6).trans ((aj e7).trans ((aj e8).trans ((aj e9).trans ((aj e10).trans ((aj e11).trans ((aj e12).trans ((aj e13).trans ((aj e14).trans (fP e15)))))))))))))))).symm)
                                 go_enter Tryz.func220,Tryz.ntmps220
                                 go_wp2
                                 go_ret
                                 exact⟨gQ hf.out,rfl⟩
                               | false=>
                                 cases e16:(s.toList== [97,100,100])with
                                 | true=>
                                   have hf:=g_ (show(4:Int)=eG s.toList from(show kE gB s.toList=4 from(aj e0).trans ((aj e1).trans ((aj e2).trans ((aj e3).trans ((aj e4).trans ((aj e5).trans ((aj e6).trans ((aj e7).trans ((aj e8).trans ((aj e9).trans ((aj e10).trans ((aj e11).trans ((aj e12).trans ((aj e13).trans ((aj e14).trans ((aj e15).trans (fP e16))))))))))))))))).symm)
                                   go_enter Tryz.func220,Tryz.ntmps220
                                   go_wp2
                                   go_ret
                                   exact⟨gQ hf.out,rfl⟩
                                 | false=>
                                   have hf:=g_ (show(-1:Int)=eG s.toList from(show kE gB s.toList= -1 from(aj e0).trans ((aj e1).trans ((aj e2).trans ((aj e3).trans ((aj e4).trans ((aj e5).trans ((aj e6).trans ((aj e7).trans ((aj e8).trans ((aj e9).trans ((aj e10).trans ((aj e11).trans ((aj e12).trans ((aj e13).trans ((aj e14).trans ((aj e15).trans ((aj e16).trans (rfl)))))))))))))))))).symm)
                                   go_enter Tryz.func220,Tryz.ntmps220
                                   go_wp2
                                   go_ret
                                   exact⟨gQ hf.out,rfl⟩
def O1(l:List ByteArray)(s:ByteArray):Bool:=l.any fun x=>x.toList==s.toList
theorem KD(l:List ByteArray)(s:ByteArray)(fp:List Nat)(v:Value)(w:World)(hS:Sl w (l.map ls) fp v):Calls Tryz.prog 110 #[v,.string s] w (UF (.bool (O1 l s)) w):=by
 obtain⟨A,c,rfl,hl,hc⟩:=hS.jk;have hm:l.length≤9223372036854775807:=by unfold maxLen at hc;omega
 clear hl hc
 go_enter Tryz.func110,Tryz.ntmps110
 go_wp2_with fail
 go_loop [5] (fun iv=>∃k:Nat,k≤l.length∧iv= .int .i64 k∧O1 (l.take k) s=false) (fun iv=>l.length - (intOf iv).toNat)
 case atStart=>exact⟨0,by omega,rfl,rfl⟩
 case round=>
  obtain⟨k,hk,rfl,hno⟩:=hrel;have hno':=g_ hno;clear hno;by_cases hlt:k<l.length
  ·have hd:(l.map ls)[k]? =some (ls l[k]):=by rw[m_,j_ hlt];rfl
   obtain⟨b,o,fi,ci,rfl,hbb,hbf,hri,hfi,hat⟩:=hS.elem kX hd;obtain⟨rfl,rfl⟩:=hri;have q0:w.cell? ⟨b,o+k,none⟩=some (.string l[k]):=by simpa using hat.head
   clear hat hd;cases he:((l[k]).toList==s.toList)with
   | true=>
     have hf:=g_ (show true=O1 l s by
      unfold O1;rw[eq_comm,List.any_eq_true];exact⟨l[k],r_ hlt,he⟩)
     go_wp2_with fail
     go_ret
     exact⟨gV hf.out,rfl⟩
   | false=>
     have hf:=g_ (show O1 (l.take (k+1)) s=false by
      have h:=hno'.out;unfold O1 at h⊢;rw[List.take_succ_eq_append_getElem hlt,List.any_append,h];simp[he])
     go_wp2_with fail
     go_round
     case rel=>exact⟨k+1,by omega,by go_num,hf.out⟩
     case measure=>(simp[intOf]<;>omega)
  ·have hf:=g_ (show false=O1 l s by
    have h:=hno'.out;rw[List.take_of_length_le (by omega)]at h;exact h.symm)
   go_wp2_with fail
   go_ret
   exact⟨gV hf.out,rfl⟩
def uQ :List ByteArray:=Hz.map fun l=>⟨l.toArray⟩
theorem adr(s:ByteArray):O1 uQ s=Kv s.toList:=by
 unfold O1 Kv uQ;rw[List.any_map]
 induction Hz with
 |nil=>rfl
 | cons x l ih=>
   rw[List.any_cons,List.contains_cons,ih];congr 1;simp only[Function.comp,ByteArray.toList_mk];rw[Bool.eq_iff_iff,beq_iff_eq,beq_iff_eq];exact eq_comm
def ah6(l:List D)(w:World)(e:Ending)(w':World):Prop:=∃fp v,e= .returned v∧Sl w' l fp v∧Below w.heap.size w w'
theorem UD{w:World}:∀(l:List ByteArray),Rs w (l.map ls) [] (l.map Value.string)
 | []=>⟨rfl,rfl⟩
 |x::l=>⟨[],[],[.string x],l.map Value.string,rfl,rfl,⟨rfl,rfl⟩,UD l⟩
theorem FU(w:World):Calls Tryz.prog 204 #[] w (ah6 (uQ.map ls) w):=by
 go_enter Tryz.func204,Tryz.ntmps204
 go_wp2
 go_ret
 refine⟨_,_,rfl,Sl.Va (Row.new _ _ _) (UD uQ) (by rfl) (by simp[maxLen]),(h_ _ _).alloc (p_ _) _⟩
theorem FV(s:ByteArray)(w:World):Calls Tryz.prog 173 #[.string s] w (Ey (.bool (Kv s.toList)) w):=by
 have hP:=fun wx (fp:List Nat) (v:Value) (hS:Sl wx (uQ.map ls) fp v)=>KD uQ s fp v wx hS
 rw[adr]at hP;generalize Kv s.toList=b at hP
 go_enter Tryz.func173,Tryz.ntmps173
 go_wp2_with fail
 refine(FU _).mono ?_;rintro e w1 ⟨fp,v,rfl,hS,hb⟩;obtain⟨A,c,rfl,_,_⟩:=hS.jk
 go_wp2_with fail
 refine(hP _ _ _ hS).mono ?_;rintro e w2 ⟨rfl,rfl⟩
 go_wp2_with fail
 go_ret
 exact⟨rfl,hb⟩
theorem uY(s:ByteArray)(hs:s.size≤9223372036854775807)(w:World):Calls Tryz.prog 133 #[.string s] w (Ey (.bool (KZ s && !Kv s.toList)) w):=by
 have hP:=fun wx=>OA s hs wx
 have hQ:=fun wx=>FV s wx
 unfold KZ;cases h1:nT s with
 | true=>
   rw[h1]at hP;rcases ilt 8 (s.size:Int)with h3|h3
   ·have d1:decide ((s.size:Int)≤8)=false:=by simp;omega
    rw[d1];clear h1 hQ h3
    go_enter Tryz.func133,Tryz.ntmps133
    go_wp2_with (first|(go_at_call 172;refine(hP _).mono ?_;rintro e w1 ⟨rfl,rfl⟩)|(go_at_call 173;refine(hQ _).mono ?_;rintro e w1 ⟨rfl,hb⟩))
    go_ret
    exact⟨rfl,h_ _ _⟩
   ·have d1:decide ((s.size:Int)≤8)=true:=by simp;omega
    rw[d1];clear d1;cases h2:Kv s.toList with
    | true=>
      rw[h2]at hQ;clear h1 h2
      go_enter Tryz.func133,Tryz.ntmps133
      go_wp2_with (first|(go_at_call 172;refine(hP _).mono ?_;rintro e w1 ⟨rfl,rfl⟩)|(go_at_call 173;refine(hQ _).mono ?_;rintro e w1 ⟨rfl,hb⟩))
      go_ret
      exact⟨rfl,hb⟩
    | false=>
      rw[h2]at hQ;clear h1 h2
      go_enter Tryz.func133,Tryz.ntmps133
      go_wp2_with (first|(go_at_call 172;refine(hP _).mono ?_;rintro e w1 ⟨rfl,rfl⟩)|(go_at_call 173;refine(hQ _).mono ?_;rintro e w1 ⟨rfl,hb⟩))
      go_ret
      exact⟨rfl,hb⟩
 | false=>
   rw[h1]at hP;clear h1 hQ
   go_enter Tryz.func133,Tryz.ntmps133
   go_wp2_with (first|(go_at_call 172;refine(hP _).mono ?_;rintro e w1 ⟨rfl,rfl⟩)|(go_at_call 173;refine(hQ _).mono ?_;rintro e w1 ⟨rfl,hb⟩))
   go_ret
   exact⟨rfl,h_ _ _⟩
def rQ(x:GCell)(d f:Bool):Bool:=
 if x.kind==1 then x.name.toList.isEmpty && x.n==0
 else if x.kind==2 then d && x.n==0
 else if x.kind==4 then d && x.n==0
 else if x.kind==3 then d && x.code.toList.isEmpty && f
 else false
def lH(x:GCell):Bool:=inR x.id 1 999 && inR x.ver 1 999 && jC x.code && rQ x (KZ x.name && !Kv x.name.toList) (inR x.n 0 100)
theorem Vl(x:GCell){d f:Bool}:((x.kind==1)=true∧x.name.toList.isEmpty=true∧rQ x d f=(x.n==0))∨((x.kind==1)=true∧x.name.toList.isEmpty=false∧rQ x d f=false)∨((x.kind==1)=false∧(x.kind==2)=true∧rQ x d f=(d && x.n==0))∨
 ((x.kind==1)=false∧(x.kind==2)=false∧(x.kind==4)=true∧rQ x d f=(d && x.n==0))∨((x.kind==1)=false∧(x.kind==2)=false∧(x.kind==4)=false∧(x.kind==3)=true∧rQ x d f=(d && x.code.toList.isEmpty && f))∨
 ((x.kind==1)=false∧(x.kind==2)=false∧(x.kind==4)=false∧(x.kind==3)=false∧rQ x d f=false):=by
 unfold rQ;cases x.kind==1<;>cases x.kind==2<;>cases x.kind==4<;>cases x.kind==3<;>cases x.name.toList.isEmpty<;>simp
theorem uZ (x:GCell)(hw:x.toD.wf)(w:World):Calls Tryz.prog 115 #[.agg #[.int .i64 x.id,.int .i64 x.ver,.int .i64 x.kind,.string x.name,.string x.code,.int .i64 x.n]] w (Ey (.bool (lH x)) w):=by
 have hw3:x.name.size≤9223372036854775807:=hw.2.2.2.1;have hw4:x.code.size≤9223372036854775807:=hw.2.2.2.2.1;clear hw;have hA:=fun wx=>qm x.id 1 999 wx
 have hB:=fun wx=>qm x.ver 1 999 wx
 have hC:=fun wx=>D8 x.code hw4 wx
 have hD:=fun wx=>uY x.name hw3 wx
 have hE:=fun wx=>qm x.n 0 100 wx
 clear hw3 hw4;have hv:=g_ (show lH x=(inR x.id 1 999 && inR x.ver 1 999 && jC x.code && rQ x (KZ x.name && !Kv x.name.toList) (inR x.n 0 100)) from rfl);generalize inR x.id 1 999=a at hA hv;generalize inR x.ver 1 999=b at hB hv;generalize jC x.code=c at hC hv;generalize(KZ x.name && !Kv x.name.toList)=d at hD hv;generalize inR x.n 0 100=f at hE hv;rw[hv.out];clear hv;cases a with
 | false=>
   go_enter Tryz.func115,Tryz.ntmps115
   go_wp2_with fail
   refine(hA _).mono ?_;rintro e w1 ⟨rfl,rfl⟩
   go_wp2_with fail
   go_ret
   exact⟨rfl,(h_ _ _).alloc (by simp) _⟩
 | true =>
   cases b with
   | false=>
     go_enter Tryz.func115,Tryz.ntmps115
     go_wp2_with fail
     refine(hA _).mono ?_;rintro e w1 ⟨rfl,rfl⟩
     go_wp2_with fail
     refine(hB _).mono ?_;rintro e w1 ⟨rfl,rfl⟩
     go_wp2_with fail
     go_ret
     exact⟨rfl,(h_ _ _).alloc (by simp) _⟩
   | true =>
     cases c with
     | false=>
       go_enter Tryz.func115,Tryz.ntmps115
       go_wp2_with fail
       refine(hA _).mono ?_;rintro e w1 ⟨rfl,rfl⟩
       go_wp2_with fail
       refine(hB _).mono ?_;rintro e w1 ⟨rfl,rfl⟩
       go_wp2_with fail
       refine(hC _).mono ?_;rintro e w1 ⟨rfl,rfl⟩
       go_wp2_with fail
       go_ret
       exact⟨rfl,(h_ _ _).alloc (by simp) _⟩
     | true =>
       rcases Vl x with⟨h1,hn,hk⟩|⟨h1,hn,hk⟩|⟨h1,h2,hk⟩|⟨h1,h2,h4,hk⟩|⟨h1,h2,h4,h3,hk⟩|⟨h1,h2,h4,h3,hk⟩
       all_goals rw[show(true && true && true && rQ x d f)=rQ x d f from rfl,hk]
       all_goals clear hk
       all_goals
        go_enter Tryz.func115,Tryz.ntmps115
        go_wp2_with fail
        refine(hA _).mono ?_;rintro e w1 ⟨rfl,rfl⟩
        go_wp2_with fail
        refine(hB _).mono ?_;rintro e w1 ⟨rfl,rfl⟩
        go_wp2_with fail
        refine(hC _).mono ?_;rintro e w1 ⟨rfl,rfl⟩
        go_wp2_with fail
       ·go_ret
        exact⟨rfl,(h_ _ _).alloc (by simp) _⟩
       ·go_ret
        exact⟨rfl,(h_ _ _).alloc (by simp) _⟩
       ·cases d with
        | true=>
          refine(hD _).mono ?_;rintro e w1 ⟨rfl,hb1⟩;have kk:=(Hy hb1).1.cell
          go_wp2_with fail
          go_ret
          exact⟨by simp[*],((h_ _ _).alloc (by simp) _).trans (hb1.mono (by simp))⟩
        | false=>
          refine(hD _).mono ?_;rintro e w1 ⟨rfl,hb1⟩;have kk:=(Hy hb1).1.cell
          go_wp2_with fail
          go_ret
          exact⟨by simp[*],((h_ _ _).alloc (by simp) _).trans (hb1.mono (by simp))⟩
       ·cases d with
        | true=>
          refine(hD _).mono ?_;rintro e w1 ⟨rfl,hb1⟩;have kk:=(Hy hb1).1.cell
          go_wp2_with fail
          go_ret
          exact⟨by simp[*],((h_ _ _).alloc (by simp) _).trans (hb1.mono (by simp))⟩
        | false=>
          refine(hD _).mono ?_;rintro e w1 ⟨rfl,hb1⟩;have kk:=(Hy hb1).1.cell
          go_wp2_with fail
          go_ret
          exact⟨by simp[*],((h_ _ _).alloc (by simp) _).trans (hb1.mono (by simp))⟩
       ·cases d with
        | true=>
          cases hc:x.code.toList.isEmpty with
          | true=>
            refine(hD _).mono ?_;rintro e w1 ⟨rfl,hb1⟩;have kk:=(Hy hb1).1.cell
            skip
            go_wp2_with fail
            refine(hE _).mono ?_;rintro e w2 ⟨rfl,rfl⟩
            go_wp2_with fail
            go_ret
            exact⟨by simp[*],((h_ _ _).alloc (by simp) _).trans (hb1.mono (by simp))⟩
          | false=>
            refine(hD _).mono ?_;rintro e w1 ⟨rfl,hb1⟩;have kk:=(Hy hb1).1.cell
            skip
            go_wp2_with fail
            go_ret
            exact⟨by simp[*],((h_ _ _).alloc (by simp) _).trans (hb1.mono (by simp))⟩
        | false=>
          refine(hD _).mono ?_;rintro e w1 ⟨rfl,hb1⟩;have kk:=(Hy hb1).1.cell
          go_wp2_with fail
          go_ret
          exact⟨by simp[*],((h_ _ _).alloc (by simp) _).trans (hb1.mono (by simp))⟩
       ·go_ret
        exact⟨by simp[*],(h_ _ _).alloc (by simp) _⟩
def vW :List GCell→Int→Nat→Int
 | [],_,_=> -1
 |c::r,id,k=>if c.id==id then(k:Int)else vW r id (k+1)
def oN(l:List GCell)(id:Int):Int:=vW l id 0
def lG(l:List GCell):List GCell→Nat→Bool
 | [],_=>true
 |c::r,k=>lH c && (oN l c.id==(k:Int)) && lG l r (k+1)
def qH(l:List GCell):Bool:=lG l l 0 && decide ((l.length:Int)≤8)
theorem JM(l:List GCell)(id:Int)(fp:List Nat)(v:Value)(w:World)(hS:Sl w (l.map GCell.toD) fp v):Calls Tryz.prog 116 #[.agg #[v],.int .i64 id] w (Ey (.int .i64 (oN l id)) w):=by
 obtain⟨A,c,rfl,hl,hc⟩:=hS.jk;have hm:l.length≤9223372036854775807:=by unfold maxLen at hc;omega
 clear hl hc
 go_enter Tryz.func116,Tryz.ntmps116
 go_wp2_with fail
 go_loopw [5] (fun iv wr=>∃k:Nat,k≤l.length∧iv= .int .i64 k∧oN l id=vW (l.drop k) id k∧Row wr w.heap.size 82 [.slice A l.length c]∧Below w.heap.size w wr) (fun iv _=>l.length - (intOf iv).toNat)
 case atStart=>exact⟨0,by omega,rfl,rfl,Row.new _ _ _,(h_ _ _).alloc (p_ _) _⟩
 case round=>
  obtain⟨k,hk,rfl,he,hro,hb⟩:=hrel;have he':=g_ he;clear he;have kk:=hro.cell;have hz:=hro.lt;by_cases hlt:k<l.length
  ·have hd:(l.map GCell.toD)[k]? =some (GCell.toD l[k]):=by rw[m_,j_ hlt];rfl
   obtain⟨b,o,fi,ci,rfl,hbb,hbf,hri,hfi,hat⟩:=hS.elem GCell.szs hd;obtain⟨rfl,rfl⟩:=GCell.opened.1 hri;have q0:wr.cell? ⟨b,o+k*6,none⟩=some (.int .i64 l[k].id):=(hb.cell (p:=⟨b,o+k*6,none⟩) hbb).trans (hat.head);have q1:wr.cell? ⟨b,o+k*6+1,none⟩=some (.int .i64 l[k].ver):=(hb.cell (p:=⟨b,o+k*6+1,none⟩) hbb).trans (hat.nth 1 rfl);have q2:wr.cell? ⟨b,o+k*6+2,none⟩=some (.int .i64 l[k].kind):=(hb.cell (p:=⟨b,o+k*6+2,none⟩) hbb).trans (hat.nth 2 rfl);have q3:wr.cell? ⟨b,o+k*6+3,none⟩=some (.string l[k].name):=(hb.cell (p:=⟨b,o+k*6+3,none⟩) hbb).trans (hat.nth 3 rfl);have q4:wr.cell? ⟨b,o+k*6+4,none⟩=some (.string l[k].code):=(hb.cell (p:=⟨b,o+k*6+4,none⟩) hbb).trans (hat.nth 4 rfl);have q5:wr.cell? ⟨b,o+k*6+5,none⟩=some (.int .i64 l[k].n):=(hb.cell (p:=⟨b,o+k*6+5,none⟩) hbb).trans (hat.nth 5 rfl);clear hat hd hri;have hst:=g_ (show vW (l.drop k) id k=if l[k].id==id then(k:Int)else vW (l.drop (k+1)) id (k+1) by rw[n_ hlt,vW]);cases hid:(l[k].id==id)with
   | true=>
     have hf:=g_ (show(k:Int)=oN l id by rw[he'.out,hst.out,hid];rfl)
     go_wp2_with fail
     go_ret
     exact⟨gQ hf.out,by first|exact hb|exact hb.alloc (by omega) _⟩
   | false=>
     have hf:=g_ (show oN l id=vW (l.drop (k+1)) id (k+1) by rw[he'.out,hst.out,hid];rfl)
     go_wp2_with fail
     go_roundw
     case rel=>exact⟨k+1,by omega,by go_num,hf.out,by first|exact hro|exact hro.below ((h_ _ _).alloc (p_ _) _),by first|exact hb|exact hb.alloc (by omega) _⟩
     case measure=>(simp[intOf]<;>omega)
  ·have hf:=g_ (show(-1:Int)=oN l id by rw[he'.out,q_ (by omega)];rfl)
   go_wp2_with fail
   go_ret
   exact⟨gQ hf.out,hb⟩
theorem wfs_get{l:List GCell}(h:D.wfs (l.map GCell.toD)){k:Nat}(hk:k<l.length):(l[k]).toD.wf:=D.wfs_get h (List.mem_map_of_mem (f:=GCell.toD) (r_ hk))
theorem xQ(l:List GCell)(fp:List Nat)(v:Value)(w:World)(hS:Sl w (l.map GCell.toD) fp v)(hw:D.wfs (l.map GCell.toD)):Calls Tryz.prog 104 #[.agg #[v]] w (Ey (.bool (qH l)) w):=by
 have hI:∀(wx:World) (id:Int),Below w.heap.size w wx→Calls Tryz.prog 116 #[.agg #[v],.int .i64 id] wx (Ey (.int .i64 (oN l id)) wx):=fun wx id h=>JM l id fp v wx (hS.below h)
 obtain⟨A,c,rfl,hl,hc⟩:=hS.jk;have hm:l.length≤9223372036854775807:=by unfold maxLen at hc;omega
 clear hl hc
 go_enter Tryz.func104,Tryz.ntmps104
 go_wp2_with fail
 go_loopw [3] (fun iv wr=>∃k:Nat,k≤l.length∧iv= .int .i64 k∧lG l l 0=lG l (l.drop k) k∧Row wr w.heap.size 82 [.slice A l.length c]∧Below w.heap.size w wr) (fun iv _=>l.length - (intOf iv).toNat)
 case atStart=>exact⟨0,by omega,rfl,rfl,Row.new _ _ _,(h_ _ _).alloc (p_ _) _⟩
 case round=>
  obtain⟨k,hk,rfl,he,hro,hb⟩:=hrel;have he':=g_ he;clear he;have kk:=hro.cell;have hz:=hro.lt;by_cases hlt:k<l.length
  ·have hd:(l.map GCell.toD)[k]? =some (GCell.toD l[k]):=by rw[m_,j_ hlt];rfl
   obtain⟨b,o,fi,ci,rfl,hbb,hbf,hri,hfi,hat⟩:=hS.elem GCell.szs hd;obtain⟨rfl,rfl⟩:=GCell.opened.1 hri;have q0:wr.cell? ⟨b,o+k*6,none⟩=some (.int .i64 l[k].id):=(hb.cell (p:=⟨b,o+k*6,none⟩) hbb).trans (hat.head);have q1:wr.cell? ⟨b,o+k*6+1,none⟩=some (.int .i64 l[k].ver):=(hb.cell (p:=⟨b,o+k*6+1,none⟩) hbb).trans (hat.nth 1 rfl);have q2:wr.cell? ⟨b,o+k*6+2,none⟩=some (.int .i64 l[k].kind):=(hb.cell (p:=⟨b,o+k*6+2,none⟩) hbb).trans (hat.nth 2 rfl);have q3:wr.cell? ⟨b,o+k*6+3,none⟩=some (.string l[k].name):=(hb.cell (p:=⟨b,o+k*6+3,none⟩) hbb).trans (hat.nth 3 rfl);have q4:wr.cell? ⟨b,o+k*6+4,none⟩=some (.string l[k].code):=(hb.cell (p:=⟨b,o+k*6+4,none⟩) hbb).trans (hat.nth 4 rfl);have q5:wr.cell? ⟨b,o+k*6+5,none⟩=some (.int .i64 l[k].n):=(hb.cell (p:=⟨b,o+k*6+5,none⟩) hbb).trans (hat.nth 5 rfl);clear hat hd hri;have hst:=g_ (show lG l (l.drop k) k=(lH l[k] && (oN l l[k].id==(k:Int)) && lG l (l.drop (k+1)) (k+1)) by rw[n_ hlt,lG]);have hV:=fun wx=>uZ l[k] (wfs_get hw hlt) wx
   have hbr:b<wr.heap.size:=l_ hbb hb.size;have hi1:0≤(k:Int):=by omega
   have hi2:(k:Int)<l.length:=by omega
   cases hc1:lH l[k]with
   | false=>
     have hf:=g_ (show false=qH l by unfold qH;rw[he'.out,hst.out,hc1];rfl);rw[hc1]at hV;clear hc1
     go_wp2_with fail
     refine wp_region_held_drew (S:=(fun w'=>w'.cell? ⟨w.heap.size,0,none⟩=some (.slice (some ⟨b,o,none⟩) l.length c)∧w'.cell? ⟨b,o+k*6,none⟩=some (.int .i64 l[k].id)∧w'.cell? ⟨b,o+k*6+1,none⟩=some (.int .i64 l[k].ver)∧w'.cell? ⟨b,o+k*6+2,none⟩=some (.int .i64 l[k].kind)∧w'.cell? ⟨b,o+k*6+3,none⟩=some (.string l[k].name)∧w'.cell? ⟨b,o+k*6+4,none⟩=some (.string l[k].code)∧w'.cell? ⟨b,o+k*6+5,none⟩=some (.int .i64 l[k].n))) (by kernel_rfl) ?_ (fun hHeld=> ?_)
     ·go_keep
     refine wpAnyH_take (i:=0) (v:= ?_) rfl (by kernel_rfl) (by kernel_rfl) (by kernel_rfl) (fun _ _ _ h=>h) (o_ ⟨by rfl, ?_⟩) ‹_› ?_
     rotate_left
     ·intro w hSw
      try dsimp only at hSw
      go_simp
      try with_reducible rfl
     try simp only[i_,d_,b_,c_,a_,e_,f_]
     refine wpAnyH_take (i:=1) (v:= ?_) rfl (by kernel_rfl) (by kernel_rfl) (by kernel_rfl) (fun _ _ _ h=>h) (o_ ⟨by rfl, ?_⟩) ‹_› ?_
     rotate_left
     ·intro w hSw
      try dsimp only at hSw
      go_simp
      try with_reducible rfl
     try simp only[i_,d_,b_,c_,a_,e_,f_]
     refine wpAnyH_take (i:=2) (v:= ?_) rfl (by kernel_rfl) (by kernel_rfl) (by kernel_rfl) (fun _ _ _ h=>h) (o_ ⟨by rfl, ?_⟩) ‹_› ?_
     rotate_left
     ·intro w hSw
      try dsimp only at hSw
      go_simp
      try with_reducible rfl
     try simp only[i_,d_,b_,c_,a_,e_,f_]
     refine wpAnyH_take (i:=3) (v:= ?_) rfl (by kernel_rfl) (by kernel_rfl) (by kernel_rfl) (fun _ _ _ h=>h) (o_ ⟨by rfl, ?_⟩) ‹_› ?_
     rotate_left
     ·intro w hSw
      try dsimp only at hSw
      go_simp
      try with_reducible rfl
     try simp only[i_,d_,b_,c_,a_,e_,f_]
     refine wpAnyH_take (i:=4) (v:= ?_) rfl (by kernel_rfl) (by kernel_rfl) (by kernel_rfl) (fun _ _ _ h=>h) (o_ ⟨by rfl, ?_⟩) ‹_› ?_
     rotate_left
     ·intro w hSw
      try dsimp only at hSw
      go_simp
      try with_reducible rfl
     try simp only[i_,d_,b_,c_,a_,e_,f_]
     refine wpAnyH_ready (rs:= [5]) (by kernel_rfl) (by simp) ?_;refine AllReadyH.cons rfl (fun K hK=> ?_) AllReadyH.nil
     go_simp
     refine(hV _).mono ?_;rintro e w1 ⟨rfl,hb1⟩;have L1:Below wr.heap.size wr w1:=(h_ _ _).drew.trans hb1;have r1:=hro.below L1;have k1:=r1.cell;have c1:∀o,w1.cell? ⟨b,o,none⟩=wr.cell? ⟨b,o,none⟩:=fun o=>L1.cell (p:=⟨b,o,none⟩) hbr
     have B1:Below w.heap.size w w1:=hb.trans (L1.mono (by omega));refine hK.out _ _ ?_ (fun hHeld1=> ?_)
     ·go_keep
     clear hK K
     try simp only[i_,d_,b_,c_,a_,e_,f_]
     refine wpAnyH_take (i:=6) (v:= ?_) rfl (by kernel_rfl) (by kernel_rfl) (by kernel_rfl) (fun _ _ _ h=>h) (o_ ⟨by rfl, ?_⟩) ‹_› ?_
     rotate_left
     ·intro w hSw
      try dsimp only at hSw
      go_simp
      try with_reducible rfl
     try simp only[i_,d_,b_,c_,a_,e_,f_]
     refine wpAnyH_take (i:=7) (v:= ?_) rfl (by kernel_rfl) (by kernel_rfl) (by kernel_rfl) (fun _ _ _ h=>h) (o_ ⟨by rfl, ?_⟩) ‹_› ?_
     rotate_left
     ·intro w hSw
      try dsimp only at hSw
      go_simp
      try with_reducible rfl
     try simp only[i_,d_,b_,c_,a_,e_,f_]
     refine wpAnyH_take (i:=8) (v:=undef) rfl (by kernel_rfl) (by kernel_rfl) (by kernel_rfl) (fun _ _ _ h=>h) (k_ ⟨by rfl,rfl⟩) ‹_› ?_
     try simp only[i_,d_,b_,c_,a_,e_,f_]
     refine wpAnyH_take (i:=9) (v:=undef) rfl (by kernel_rfl) (by kernel_rfl) (by kernel_rfl) (fun _ _ _ h=>h) (k_ ⟨by rfl,rfl⟩) ‹_› ?_
     try simp only[i_,d_,b_,c_,a_,e_,f_]
     refine wpAnyH_take (i:=10) (v:=undef) rfl (by kernel_rfl) (by kernel_rfl) (by kernel_rfl) (fun _ _ _ h=>h) (k_ ⟨by rfl,rfl⟩) ‹_› ?_
     try simp only[i_,d_,b_,c_,a_,e_,f_]
     refine wpAnyH_take (i:=11) (v:=undef) rfl (by kernel_rfl) (by kernel_rfl) (by kernel_rfl) (fun _ _ _ h=>h) (k_ ⟨by rfl,rfl⟩) ‹_› ?_
     try simp only[i_,d_,b_,c_,a_,e_,f_]
     refine wpAnyH_take (i:=12) (v:=undef) rfl (by kernel_rfl) (by kernel_rfl) (by kernel_rfl) (fun _ _ _ h=>h) (k_ ⟨by rfl,rfl⟩) ‹_› ?_
     try simp only[i_,d_,b_,c_,a_,e_,f_]
     refine wpAnyH_take (i:=13) (v:=undef) rfl (by kernel_rfl) (by kernel_rfl) (by kernel_rfl) (fun _ _ _ h=>h) (k_ ⟨by rfl,rfl⟩) ‹_› ?_
     try simp only[i_,d_,b_,c_,a_,e_,f_]
     refine wpAnyH_take (i:=14) (v:=undef) rfl (by kernel_rfl) (by kernel_rfl) (by kernel_rfl) (fun _ _ _ h=>h) (k_ ⟨by rfl,rfl⟩) ‹_› ?_
     try simp only[i_,d_,b_,c_,a_,e_,f_]
     refine wpAnyH_take (i:=15) (v:=undef) rfl (by kernel_rfl) (by kernel_rfl) (by kernel_rfl) (fun _ _ _ h=>h) (k_ ⟨by rfl,rfl⟩) ‹_› ?_
     try simp only[i_,d_,b_,c_,a_,e_,f_]
     refine wpAnyH_take (i:=16) (v:=undef) rfl (by kernel_rfl) (by kernel_rfl) (by kernel_rfl) (fun _ _ _ h=>h) (k_ ⟨by rfl,rfl⟩) ‹_› ?_
     try simp only[i_,d_,b_,c_,a_,e_,f_]
     refine wpAnyH_take (i:=17) (v:=undef) rfl (by kernel_rfl) (by kernel_rfl) (by kernel_rfl) (fun _ _ _ h=>h) (k_ ⟨by rfl,rfl⟩) ‹_› ?_
     try simp only[i_,d_,b_,c_,a_,e_,f_]
     refine wpAnyH_take (i:=18) (v:= ?_) rfl (by kernel_rfl) (by kernel_rfl) (by kernel_rfl) (fun _ _ _ h=>h) (o_ ⟨by rfl, ?_⟩) ‹_› ?_
     rotate_left
     ·intro w hSw
      try dsimp only at hSw
      go_simp
      try with_reducible rfl
     try simp only[i_,d_,b_,c_,a_,e_,f_]
     refine wpAnyH_done (by kernel_rfl) ?_ _
     go_wp2_with fail
     go_ret
     exact⟨gV hf.out,B1⟩
   | true=>
     rw[hc1]at hV;cases hc2:(oN l l[k].id==(k:Int))with
     | false=>
       have hf:=g_ (show false=qH l by unfold qH;rw[he'.out,hst.out,hc1,hc2];rfl);have hne:(oN l l[k].id !=(k:Int))=true:=by simp[bne,hc2]
       clear hc1 hc2
       go_wp2_with fail
       go_region_held3 (fun w'=>w'.cell? ⟨w.heap.size,0,none⟩=some (.slice (some ⟨b,o,none⟩) l.length c)∧w'.cell? ⟨b,o+k*6,none⟩=some (.int .i64 l[k].id)∧w'.cell? ⟨b,o+k*6+1,none⟩=some (.int .i64 l[k].ver)∧w'.cell? ⟨b,o+k*6+2,none⟩=some (.int .i64 l[k].kind)∧w'.cell? ⟨b,o+k*6+3,none⟩=some (.string l[k].name)∧w'.cell? ⟨b,o+k*6+4,none⟩=some (.string l[k].code)∧w'.cell? ⟨b,o+k*6+5,none⟩=some (.int .i64 l[k].n)) (go_keep)
        (first|(go_at_call 115;refine(hV _).mono ?_;rintro e w1 ⟨rfl,hb1⟩;have L1:Below wr.heap.size wr w1:=(h_ _ _).drew.trans hb1;have r1:=hro.below L1;have k1:=r1.cell;have c1:∀o,w1.cell? ⟨b,o,none⟩=wr.cell? ⟨b,o,none⟩:=fun o=>L1.cell (p:=⟨b,o,none⟩) hbr;have B1:Below w.heap.size w w1:=hb.trans (L1.mono (by omega)))|(go_at_call 116;refine(hI _ _ B1).mono ?_;rintro e w2 ⟨rfl,hb2⟩;have r2:=r1.below hb2;have k2:=r2.cell;have c2:∀o,w2.cell? ⟨b,o,none⟩=w1.cell? ⟨b,o,none⟩:=fun o=>hb2.cell (p:=⟨b,o,none⟩) (l_ hbr L1.size);have B2:Below w.heap.size w w2:=B1.trans (hb2.mono (by have:=B1.size;omega))))
       go_wp2_with fail
       go_ret
       exact⟨gV hf.out,B2⟩
     | true=>
       have hf:=g_ (show lG l l 0=lG l (l.drop (k+1)) (k+1) by rw[he'.out,hst.out,hc1,hc2];rfl);have hne:(oN l l[k].id !=(k:Int))=false:=by simp[bne,hc2]
       clear hc1 hc2
       go_wp2_with fail
       go_region_held3 (fun w'=>w'.cell? ⟨w.heap.size,0,none⟩=some (.slice (some ⟨b,o,none⟩) l.length c)∧w'.cell? ⟨b,o+k*6,none⟩=some (.int .i64 l[k].id)∧w'.cell? ⟨b,o+k*6+1,none⟩=some (.int .i64 l[k].ver)∧w'.cell? ⟨b,o+k*6+2,none⟩=some (.int .i64 l[k].kind)∧w'.cell? ⟨b,o+k*6+3,none⟩=some (.string l[k].name)∧w'.cell? ⟨b,o+k*6+4,none⟩=some (.string l[k].code)∧w'.cell? ⟨b,o+k*6+5,none⟩=some (.int .i64 l[k].n)) (go_keep)
        (first|(go_at_call 115;refine(hV _).mono ?_;rintro e w1 ⟨rfl,hb1⟩;have L1:Below wr.heap.size wr w1:=(h_ _ _).drew.trans hb1;have r1:=hro.below L1;have k1:=r1.cell;have c1:∀o,w1.cell? ⟨b,o,none⟩=wr.cell? ⟨b,o,none⟩:=fun o=>L1.cell (p:=⟨b,o,none⟩) hbr;have B1:Below w.heap.size w w1:=hb.trans (L1.mono (by omega)))|(go_at_call 116;refine(hI _ _ B1).mono ?_;rintro e w2 ⟨rfl,hb2⟩;have r2:=r1.below hb2;have k2:=r2.cell;have c2:∀o,w2.cell? ⟨b,o,none⟩=w1.cell? ⟨b,o,none⟩:=fun o=>hb2.cell (p:=⟨b,o,none⟩) (l_ hbr L1.size);have B2:Below w.heap.size w w2:=B1.trans (hb2.mono (by have:=B1.size;omega))))
       go_wp2_with fail
       go_roundw
       case rel=>exact⟨k+1,by omega,by go_num,hf.out,r2,B2⟩
       case measure=>(simp[intOf]<;>omega)
  ·have hf:=g_ (show decide ((l.length:Int)≤8)=qH l by unfold qH;rw[he'.out,q_ (by omega)];rfl)
   go_wp2_with fail
   go_ret
   exact⟨gV hf.out,hb⟩
def GCell.cs(x:GCell):List Value:= [.int .i64 x.id,.int .i64 x.ver,.int .i64 x.kind,.string x.name,.string x.code,.int .i64 x.n]
def cellsOf(l:List GCell):List Value:=l.flatMap GCell.cs
theorem J6{w:World}:∀{l:List GCell} {fp:List Nat} {cs:List Value},Rs w (l.map GCell.toD) fp cs↔fp= []∧cs=cellsOf l
 | [],fp,cs=>by rw[List.map_nil,Rs];rfl
 | x::l,fp,cs=>by
   rw[List.map_cons,Rs];constructor
   ·rintro⟨f1,f2,c1,c2,rfl,rfl,h1,h2⟩;obtain⟨rfl,rfl⟩:=GCell.opened.1 h1;obtain⟨rfl,rfl⟩:=J6.1 h2;exact⟨rfl,rfl⟩
   ·rintro⟨rfl,rfl⟩;exact⟨[],[],x.cs,cellsOf l,rfl,rfl,GCell.opened.2 ⟨rfl,rfl⟩,J6.2 ⟨rfl,rfl⟩⟩
deriving instance DecidableEq for GCell
def agL(w:World)(base:Nat)(l:List GCell)(v:Value):Prop:=w.ownsRow base 85 6 v l.length (cellsOf l)
theorem agL.sl{w:World}{base:Nat}{l:List GCell}{v:Value}(h:agL w base l v):Sl w (l.map GCell.toD) v.ownBlock.toList v:=by
 have h':w.ownsRow base 85 6 v (l.map GCell.toD).length (cellsOf l):=by rw[List.length_map];exact h
 have:=Sl.of_own h' (J6.2 ⟨rfl,rfl⟩);rwa[List.append_nil]at this
theorem GCell.one(x:GCell):x.toD.one:=by simp[GCell.aN,D.one,D.ones,li,ls,Value.oneCell']
theorem GCell.ones{l:List GCell}:∀d∈l.map GCell.toD,d.one:=fun d h=>by obtain⟨x,_,rfl⟩:=List.mem_map.1 h;exact x.one
theorem agL.lit{w:World}{base g:Nat}(hg:w.heap.size=g)(hb:base≤g):agL (w.alloc (.cells #[] 85)) base [] (.slice (some ⟨g,0,none⟩) 0 0):=by
 subst hg;exact World.ownsRow_lit w #[] 0 hb (by simp) rfl
end Go.Proofs.YtfjmoicellpnhaaGreat
