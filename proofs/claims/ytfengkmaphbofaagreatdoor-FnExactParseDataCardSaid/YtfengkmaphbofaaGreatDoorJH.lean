/-
  Texts joined: Cells Res Res2 Valid ValidNb.
-/
import Derived.Test.YtfengkmaphbofaaGreatDoorJA
import Derived.Test.YtfengkmaphbofaaGreatDoorProg
import Derived.KernelRfl
set_option maxHeartbeats 8000000
set_option maxRecDepth 20000
set_option linter.unusedSimpArgs false
set_option linter.unusedVariables false
namespace Go.Proofs.YtfengkmaphbofaaGreatDoor
open Go.RowKit
open Lib renaming hid→a_
open List renaming contains_cons→b_,contains_iff_mem→c_,not_mem_nil→d_,mem_cons→f_
def GCell.cs(x:GCell):List Value:= [.int .i64 x.id,.int .i64 x.ver,.int .i64 x.kind,.string x.name,.string x.code,.int .i64 x.n]
def cellsOf(l:List GCell):List Value:=l.flatMap GCell.cs
theorem Ce{w:World}:∀{l:List GCell} {fp:List Nat} {cs:List Value},Rs w (l.map GCell.toD) fp cs↔fp= []∧cs=cellsOf l
 | [],fp,cs=>by rw[List.map_nil,Rs];rfl
 | x::l,fp,cs=>by
   rw[List.map_cons,Rs];constructor
   ·rintro⟨f1,f2,c1,c2,rfl,rfl,h1,h2⟩;obtain⟨rfl,rfl⟩:=GCell.opened.1 h1;obtain⟨rfl,rfl⟩:=Ce.1 h2;exact⟨rfl,rfl⟩
   ·rintro⟨rfl,rfl⟩;exact⟨[],[],x.cs,cellsOf l,rfl,rfl,GCell.opened.2 ⟨rfl,rfl⟩,Ce.2 ⟨rfl,rfl⟩⟩
deriving instance DecidableEq for GCell
theorem xB{a b:ByteArray}:a.toList=b.toList↔a=b:=by
 rw[ByteArray.toList_eq,ByteArray.toList_eq];constructor
 ·intro h;have:a.data=b.data:=Array.toList_inj.1 h;cases a;cases b;simp_all
 ·rintro rfl;rfl
def SX(w:World)(base:Nat)(l:List GCell)(v:Value):Prop:=w.ownsRow base 45 6 v l.length (cellsOf l)
theorem SX.sl{w:World}{base:Nat}{l:List GCell}{v:Value}(h:SX w base l v):Sl w (l.map GCell.toD) v.ownBlock.toList v:=by
 have h':w.ownsRow base 45 6 v (l.map GCell.toD).length (cellsOf l):=by rw[List.length_map];exact h
 have:=Sl.of_own h' (Ce.2 ⟨rfl,rfl⟩);rwa[List.append_nil]at this
theorem GCell.one(x:GCell):x.toD.one:=by simp[GCell.dI,D.one,D.ones,li,ls,Value.oneCell']
theorem GCell.ones{l:List GCell}:∀d∈l.map GCell.toD,d.one:=fun d h=>by obtain⟨x,_,rfl⟩:=List.mem_map.1 h;exact x.one
theorem SX.lit{w:World}{base g:Nat}(hg:w.heap.size=g)(hb:base≤g):SX (w.alloc (.cells #[] 45)) base [] (.slice (some ⟨g,0,none⟩) 0 0):=by
 subst hg;exact World.ownsRow_lit w #[] 0 hb (by simp) rfl
def iq :List (List UInt8×Int):= [([99,108,111,99,107],0),([108,101,110],1),([115,117,109],1),([114,111,119,115],1),([99,104,97,110,99,101],1),([102,105,108,101],1),([116,97,107,101],2),([115,107,105,112],2),([114,97,110,103,101],2),([110,116,104],2),([107,101,101,112],2),([99,111,108,117,109,110],2),([116,97,98,108,101],2),([119,104,101,114,101],3),([103,114,111,117,112],3),([106,111,105,110],3),([97,100,100],4)]
def jE :List (List UInt8×Int)→List UInt8→Int
 | [],_=> -1
 |(w,n)::r,l=>if l==w then n else jE r l
def gI(l:List UInt8):Int:=jE iq l
def kM :List (List UInt8):= [[108,101,116],[105,110],[105,102],[116,104,101,110],[101,108,115,101],[102,111,114],[100,111]]
def pF :List (List UInt8):= [[108,101,116],[105,110],[105,102],[116,104,101,110],[101,108,115,101],[102,111,114],[100,111],[108,101,110],[115,117,109],[116,97,107,101],[115,107,105,112],[114,97,110,103,101],[110,116,104],[119,104,101,114,101],[107,101,101,112],[97,100,100],[103,114,111,117,112],[106,111,105,110],[99,111,108,117,109,110],[114,111,119,115],[99,108,111,99,107],[99,104,97,110,99,101],[102,105,108,101],[116,97,98,108,101]]
def nT(l:List UInt8):Bool:=pF.contains l
theorem iw{w l:List UInt8}{n:Int}{r:List (List UInt8×Int)}(h:(l==w)=true):jE ((w,n)::r) l=n:=by rw[jE,h];rfl
theorem aP{w l:List UInt8}{n:Int}{r:List (List UInt8×Int)}(h:(l==w)=false):jE ((w,n)::r) l=jE r l:=by rw[jE,h];rfl
theorem jI{w l:List UInt8}{r:List (List UInt8)}(h:(l==w)=true):(w::r).contains l=true:=by rw[b_,h];rfl
theorem eu{w l:List UInt8}{r:List (List UInt8)}(h:(l==w)=false):(w::r).contains l=r.contains l:=by rw[b_,h];rfl
theorem Df (s : ByteArray) (w:World):Calls Tryz.prog 157 #[.string s] w (Cj (.int .i64 (gI s.toList)) w):=by
 cases e0:(s.toList== [99,108,111,99,107])with
 | true=>
   have hf:=a_ (show(0:Int)=gI s.toList from(show jE iq s.toList=0 from iw e0).symm)
   go_enter Tryz.func157,Tryz.ntmps157
   go_wp2
   go_ret
   exact⟨fU hf.out,rfl⟩
 | false =>
   cases e1:(s.toList== [108,101,110])with
   | true=>
     have hf:=a_ (show(1:Int)=gI s.toList from(show jE iq s.toList=1 from(aP e0).trans (iw e1)).symm)
     go_enter Tryz.func157,Tryz.ntmps157
     go_wp2
     go_ret
     exact⟨fU hf.out,rfl⟩
   | false =>
     cases e2:(s.toList== [115,117,109])with
     | true=>
       have hf:=a_ (show(1:Int)=gI s.toList from(show jE iq s.toList=1 from(aP e0).trans ((aP e1).trans (iw e2))).symm)
       go_enter Tryz.func157,Tryz.ntmps157
       go_wp2
       go_ret
       exact⟨fU hf.out,rfl⟩
     | false =>
       cases e3:(s.toList== [114,111,119,115])with
       | true=>
         have hf:=a_ (show(1:Int)=gI s.toList from(show jE iq s.toList=1 from(aP e0).trans ((aP e1).trans ((aP e2).trans (iw e3)))).symm)
         go_enter Tryz.func157,Tryz.ntmps157
         go_wp2
         go_ret
         exact⟨fU hf.out,rfl⟩
       | false =>
         cases e4:(s.toList== [99,104,97,110,99,101])with
         | true=>
           have hf:=a_ (show(1:Int)=gI s.toList from(show jE iq s.toList=1 from(aP e0).trans ((aP e1).trans ((aP e2).trans ((aP e3).trans (iw e4))))).symm)
           go_enter Tryz.func157,Tryz.ntmps157
           go_wp2
           go_ret
           exact⟨fU hf.out,rfl⟩
         | false =>
           cases e5:(s.toList== [102,105,108,101])with
           | true=>
             have hf:=a_ (show(1:Int)=gI s.toList from(show jE iq s.toList=1 from(aP e0).trans ((aP e1).trans ((aP e2).trans ((aP e3).trans ((aP e4).trans (iw e5)))))).symm)
             go_enter Tryz.func157,Tryz.ntmps157
             go_wp2
             go_ret
             exact⟨fU hf.out,rfl⟩
           | false =>
             cases e6:(s.toList== [116,97,107,101])with
             | true=>
               have hf:=a_ (show(2:Int)=gI s.toList from(show jE iq s.toList=2 from(aP e0).trans ((aP e1).trans ((aP e2).trans ((aP e3).trans ((aP e4).trans ((aP e5).trans (iw e6))))))).symm)
               go_enter Tryz.func157,Tryz.ntmps157
               go_wp2
               go_ret
               exact⟨fU hf.out,rfl⟩
             | false =>
               cases e7:(s.toList== [115,107,105,112])with
               | true=>
                 have hf:=a_ (show(2:Int)=gI s.toList from(show jE iq s.toList=2 from(aP e0).trans ((aP e1).trans ((aP e2).trans ((aP e3).trans ((aP e4).trans ((aP e5).trans ((aP e6).trans (iw e7)))))))).symm)
                 go_enter Tryz.func157,Tryz.ntmps157
                 go_wp2
                 go_ret
                 exact⟨fU hf.out,rfl⟩
               | false =>
                 cases e8:(s.toList== [114,97,110,103,101])with
                 | true=>
                   have hf:=a_ (show(2:Int)=gI s.toList from(show jE iq s.toList=2 from(aP e0).trans ((aP e1).trans ((aP e2).trans ((aP e3).trans ((aP e4).trans ((aP e5).trans ((aP e6).trans ((aP e7).trans (iw e8))))))))).symm)
                   go_enter Tryz.func157,Tryz.ntmps157
                   go_wp2
                   go_ret
                   exact⟨fU hf.out,rfl⟩
                 | false =>
                   cases e9:(s.toList== [110,116,104])with
                   | true=>
                     have hf:=a_ (show(2:Int)=gI s.toList from(show jE iq s.toList=2 from(aP e0).trans ((aP e1).trans ((aP e2).trans ((aP e3).trans ((aP e4).trans ((aP e5).trans ((aP e6).trans ((aP e7).trans ((aP e8).trans (iw e9)))))))))).symm)
                     go_enter Tryz.func157,Tryz.ntmps157
                     go_wp2
                     go_ret
                     exact⟨fU hf.out,rfl⟩
                   | false =>
                     cases e10:(s.toList== [107,101,101,112])with
                     | true=>
                       have hf:=a_ (show(2:Int)=gI s.toList from(show jE iq s.toList=2 from(aP e0).trans ((aP e1).trans ((aP e2).trans ((aP e3).trans ((aP e4).trans ((aP e5).trans ((aP e6).trans ((aP e7).trans ((aP e8).trans ((aP e9).trans (iw e10))))))))))).symm)
                       go_enter Tryz.func157,Tryz.ntmps157
                       go_wp2
                       go_ret
                       exact⟨fU hf.out,rfl⟩
                     | false =>
                       cases e11:(s.toList== [99,111,108,117,109,110])with
                       | true=>
                         have hf:=a_ (show(2:Int)=gI s.toList from(show jE iq s.toList=2 from(aP e0).trans ((aP e1).trans ((aP e2).trans ((aP e3).trans ((aP e4).trans ((aP e5).trans ((aP e6).trans ((aP e7).trans ((aP e8).trans ((aP e9).trans ((aP e10).trans (iw e11)))))))))))).symm)
                         go_enter Tryz.func157,Tryz.ntmps157
                         go_wp2
                         go_ret
                         exact⟨fU hf.out,rfl⟩
                       | false =>
                         cases e12:(s.toList== [116,97,98,108,101])with
                         | true=>
                           have hf:=a_ (show(2:Int)=gI s.toList from(show jE iq s.toList=2 from(aP e0).trans ((aP e1).trans ((aP e2).trans ((aP e3).trans ((aP e4).trans ((aP e5).trans ((aP e6).trans ((aP e7).trans ((aP e8).trans ((aP e9).trans ((aP e10).trans ((aP e11).trans (iw e12))))))))))))).symm)
                           go_enter Tryz.func157,Tryz.ntmps157
                           go_wp2
                           go_ret
                           exact⟨fU hf.out,rfl⟩
                         | false =>
                           cases e13:(s.toList== [119,104,101,114,101])with
                           | true=>
                             have hf:=a_ (show(3:Int)=gI s.toList from(show jE iq s.toList=3 from(aP e0).trans ((aP e1).trans ((aP e2).trans ((aP e3).trans ((aP e4).trans ((aP e5).trans ((aP e6).trans ((aP e7).trans ((aP e8).trans ((aP e9).trans ((aP e10).trans ((aP e11).trans ((aP e12).trans (iw e13)))))))))))))).symm)
                             go_enter Tryz.func157,Tryz.ntmps157
                             go_wp2
                             go_ret
                             exact⟨fU hf.out,rfl⟩
                           | false =>
                             cases e14:(s.toList== [103,114,111,117,112])with
                             | true=>
                               have hf:=a_ (show(3:Int)=gI s.toList from(show jE iq s.toList=3 from(aP e0).trans ((aP e1).trans ((aP e2).trans ((aP e3).trans ((aP e4).trans ((aP e5).trans ((aP e6).trans ((aP e7).trans ((aP e8).trans ((aP e9).trans ((aP e10).trans ((aP e11).trans ((aP e12).trans ((aP e13).trans (iw e14))))))))))))))).symm)
                               go_enter Tryz.func157,Tryz.ntmps157
                               go_wp2
                               go_ret
                               exact⟨fU hf.out,rfl⟩
                             | false=>
                               cases e15:(s.toList== [106,111,105,110])with
                               | true=>
                                 have hf:=a_ (show(3:Int)=gI s.toList from(show jE iq s.toList=3 from(aP e0).trans ((aP e1).trans ((aP e2).trans ((aP e3).trans ((aP e4).trans ((aP e5).trans ((aP e6).trans ((aP e7).trans ((aP e8).trans ((aP e9).trans ((aP e10).trans ((aP e11).trans ((aP e12).trans ((aP e13).trans ((aP e14).trans (iw e15)))))))))))))))).symm)
                                 go_enter Tryz.func157,Tryz.ntmps157
                                 go_wp2
                                 go_ret
                                 exact⟨fU hf.out,rfl⟩
                               | false=>
                                 cases e16:(s.toList== [97,100,100])with
                                 | true=>
                                   have hf:=a_ (show(4:Int)=gI s.toList from(show jE iq s.toList=4 from(aP e0).trans ((aP e1).trans ((aP e2).trans ((aP e3).trans ((aP e4).trans ((aP e5).trans ((aP e6).trans ((aP e7).trans ((aP e8).trans ((aP e9).trans ((aP e10).trans ((aP e11).trans ((aP e12).trans ((aP e13).trans ((aP e14).trans ((aP e15).trans (iw e16))))))))))))))))).symm)
                                   go_enter Tryz.func157,Tryz.ntmps157
                                   go_wp2
                                   go_ret
                                   exact⟨fU hf.out,rfl⟩
                                 | false=>
                                   have hf:=a_ (show(-1:Int)=gI s.toList from(show jE iq s.toList= -1 from(aP e0).trans ((aP e1).trans ((aP e2).trans ((aP e3).trans ((aP e4).trans ((aP e5).trans ((aP e6).trans ((aP e7).trans ((aP e8).trans ((aP e9).trans ((aP e10).trans ((aP e11).trans ((aP e12).trans ((aP e13).trans ((aP e14).trans ((aP e15).trans ((aP e16).trans (rfl)))))))))))))))))).symm)
                                   go_enter Tryz.func157,Tryz.ntmps157
                                   go_wp2
                                   go_ret
                                   exact⟨fU hf.out,rfl⟩
theorem kX(l:List UInt8):nT l=(kM.contains l || decide (0≤gI l)):=by
 by_cases h:l∈pF
 ·have h1:nT l=true:=by unfold nT;exact c_.2 h
  rw[h1];simp only[pF,f_,d_,or_false]at h;rcases h with rfl|rfl|rfl|rfl|rfl|rfl|rfl|rfl|rfl|rfl|rfl|rfl|rfl|rfl|rfl|rfl|rfl|rfl|rfl|rfl|rfl|rfl|rfl|rfl<;>decide
 ·have h1:nT l=false:=by
   unfold nT;rw[← Bool.not_eq_true,c_];exact h
  rw[h1];simp only[pF,f_,d_,or_false,not_or]at h;obtain⟨h0,h1,h2,h3,h4,h5,h6,h7,h8,h9,h10,h11,h12,h13,h14,h15,h16,h17,h18,h19,h20,h21,h22,h23⟩:=h;simp[kM,gI,iq,jE, *]
theorem yY (s:ByteArray)(w:World):Calls Tryz.prog 125 #[.string s] w (Cj (.bool (nT s.toList)) w):=by
 cases e0:(s.toList== [108,101,116])with
 | true=>
   have hf:=a_ (show true=nT s.toList by rw[kX,show kM.contains s.toList=true from jI e0];rfl)
   go_enter Tryz.func125,Tryz.ntmps125
   go_wp2
   go_ret
   exact⟨fV hf.out,rfl⟩
 | false =>
   cases e1:(s.toList== [105,110])with
   | true=>
     have hf:=a_ (show true=nT s.toList by rw[kX,show kM.contains s.toList=true from(eu e0).trans (jI e1)];rfl)
     go_enter Tryz.func125,Tryz.ntmps125
     go_wp2
     go_ret
     exact⟨fV hf.out,rfl⟩
   | false =>
     cases e2:(s.toList== [105,102])with
     | true=>
       have hf:=a_ (show true=nT s.toList by rw[kX,show kM.contains s.toList=true from(eu e0).trans ((eu e1).trans (jI e2))];rfl)
       go_enter Tryz.func125,Tryz.ntmps125
       go_wp2
       go_ret
       exact⟨fV hf.out,rfl⟩
     | false =>
       cases e3:(s.toList== [116,104,101,110])with
       | true=>
         have hf:=a_ (show true=nT s.toList by rw[kX,show kM.contains s.toList=true from(eu e0).trans ((eu e1).trans ((eu e2).trans (jI e3)))];rfl)
         go_enter Tryz.func125,Tryz.ntmps125
         go_wp2
         go_ret
         exact⟨fV hf.out,rfl⟩
       | false =>
         cases e4:(s.toList== [101,108,115,101])with
         | true=>
           have hf:=a_ (show true=nT s.toList by rw[kX,show kM.contains s.toList=true from(eu e0).trans ((eu e1).trans ((eu e2).trans ((eu e3).trans (jI e4))))];rfl)
           go_enter Tryz.func125,Tryz.ntmps125
           go_wp2
           go_ret
           exact⟨fV hf.out,rfl⟩
         | false=>
           cases e5:(s.toList== [102,111,114])with
           | true=>
             have hf:=a_ (show true=nT s.toList by rw[kX,show kM.contains s.toList=true from(eu e0).trans ((eu e1).trans ((eu e2).trans ((eu e3).trans ((eu e4).trans (jI e5)))))];rfl)
             go_enter Tryz.func125,Tryz.ntmps125
             go_wp2
             go_ret
             exact⟨fV hf.out,rfl⟩
           | false=>
             cases e6:(s.toList== [100,111])with
             | true=>
               have hf:=a_ (show true=nT s.toList by rw[kX,show kM.contains s.toList=true from(eu e0).trans ((eu e1).trans ((eu e2).trans ((eu e3).trans ((eu e4).trans ((eu e5).trans (jI e6))))))];rfl)
               go_enter Tryz.func125,Tryz.ntmps125
               go_wp2
               go_ret
               exact⟨fV hf.out,rfl⟩
             | false=>
               have hf:=a_ (show decide (0≤gI s.toList)=nT s.toList by rw[kX,show kM.contains s.toList=false from(eu e0).trans ((eu e1).trans ((eu e2).trans ((eu e3).trans ((eu e4).trans ((eu e5).trans ((eu e6).trans (rfl)))))))];rfl);have hP:=fun wx=>Df s wx
               generalize gI s.toList=ac at hP hf
               go_enter Tryz.func125,Tryz.ntmps125
               go_wp2_with (go_at_call 157;refine(hP _).mono ?_;rintro e w1 ⟨rfl,rfl⟩)
               go_ret
               exact⟨fV hf.out,rfl⟩
theorem wV(s:ByteArray)(hs:s.size≤9223372036854775807)(w:World):Calls Tryz.prog 99 #[.string s] w (Cj (.bool (lV s && !nT s.toList)) w):=by
 have hP:=fun wx=>GY s hs wx
 have hQ:=fun wx=>yY s wx
 cases h1:lV s with
 | true=>
   rw[h1]at hP;cases h2:nT s.toList with
   | true=>
     rw[h2]at hQ;clear h1 h2
     go_enter Tryz.func99,Tryz.ntmps99
     go_wp2_with (first|(go_at_call 124;refine(hP _).mono ?_;rintro e w1 ⟨rfl,rfl⟩)|(go_at_call 125;refine(hQ _).mono ?_;rintro e w1 ⟨rfl,rfl⟩))
     go_ret
     exact⟨rfl,rfl⟩
   | false=>
     rw[h2]at hQ;clear h1 h2
     go_enter Tryz.func99,Tryz.ntmps99
     go_wp2_with (first|(go_at_call 124;refine(hP _).mono ?_;rintro e w1 ⟨rfl,rfl⟩)|(go_at_call 125;refine(hQ _).mono ?_;rintro e w1 ⟨rfl,rfl⟩))
     go_ret
     exact⟨rfl,rfl⟩
 | false=>
   rw[h1]at hP;clear h1 hQ
   go_enter Tryz.func99,Tryz.ntmps99
   go_wp2_with (go_at_call 124;refine(hP _).mono ?_;rintro e w1 ⟨rfl,rfl⟩)
   go_ret
   exact⟨rfl,rfl⟩
def EU(l:List ByteArray)(s:ByteArray):Bool:=l.any fun x=>x.toList==s.toList
theorem CY(l:List ByteArray)(s:ByteArray)(fp:List Nat)(v:Value)(w:World)(hS:Sl w (l.map ls) fp v):Calls Tryz.prog 127 #[v,.string s] w (Cj (.bool (EU l s)) w):=by
 obtain⟨A,c,rfl,hl,hc⟩:=hS.fK;have hm:l.length≤9223372036854775807:=by unfold maxLen at hc;omega
 clear hl hc
 go_enter Tryz.func127,Tryz.ntmps127
 go_wp2_with fail
 go_loop [5] (fun iv=>∃k:Nat,k≤l.length∧iv= .int .i64 k∧EU (l.take k) s=false) (fun iv=>l.length - (intOf iv).toNat)
 case atStart=>exact⟨0,by omega,rfl,rfl⟩
 case round=>
  obtain⟨k,hk,rfl,hno⟩:=hrel;have hno':=a_ hno;clear hno;by_cases hlt:k<l.length
  ·have hd:(l.map ls)[k]? =some (ls l[k]):=by rw[List.getElem?_map,List.getElem?_eq_getElem hlt];rfl
   obtain⟨b,o,fi,ci,rfl,hbb,hbf,hri,hfi,hat⟩:=hS.elem uI hd;obtain⟨rfl,rfl⟩:=hri;have q0:w.cell? ⟨b,o+k,none⟩=some (.string l[k]):=by simpa using hat.head
   clear hat hd;cases he:((l[k]).toList==s.toList)with
   | true=>
     have hf:=a_ (show true=EU l s by
      unfold EU;rw[eq_comm,List.any_eq_true];exact⟨l[k],List.getElem_mem hlt,he⟩)
     go_wp2_with fail
     go_ret
     exact⟨fV hf.out,rfl⟩
   | false=>
     have hf:=a_ (show EU (l.take (k+1)) s=false by
      have h:=hno'.out;unfold EU at h⊢;rw[List.take_succ_eq_append_getElem hlt,List.any_append,h];simp[he])
     go_wp2_with fail
     go_round
     case rel=>exact⟨k+1,by omega,by go_num,hf.out⟩
     case measure=>(simp[intOf]<;>omega)
  ·have hf:=a_ (show false=EU l s by
    have h:=hno'.out;rw[List.take_of_length_le (by omega)]at h;exact h.symm)
   go_wp2_with fail
   go_ret
   exact⟨fV hf.out,rfl⟩
def pG :List ByteArray:=pF.map fun l=>⟨l.toArray⟩
theorem PX(s:ByteArray):EU pG s=nT s.toList:=by
 unfold EU nT pG;rw[List.any_map]
 induction pF with
 |nil=>rfl
 | cons x l ih=>
   rw[List.any_cons,b_,ih];congr 1;simp only[Function.comp,ByteArray.toList_mk];rw[Bool.eq_iff_iff,beq_iff_eq,beq_iff_eq];exact eq_comm
def Ut(l:List D)(w:World)(e:Ending)(w':World):Prop:=∃fp v,e= .returned v∧Sl w' l fp v∧Below w.heap.size w w'
theorem IY{w:World}:∀(l:List ByteArray),Rs w (l.map ls) [] (l.map Value.string)
 | []=>⟨rfl,rfl⟩
 |x::l=>⟨[],[],[.string x],l.map Value.string,rfl,rfl,⟨rfl,rfl⟩,IY l⟩
theorem yV(w:World):Calls Tryz.prog 128 #[] w (Ut (pG.map ls) w):=by
 go_enter Tryz.func128,Tryz.ntmps128
 go_wp2
 go_ret
 refine⟨_,_,rfl,Sl.Jh (Row.new _ _ _) (IY pG) (by rfl) (by simp[maxLen]),(Below.refl _ _).alloc (Nat.le_refl _) _⟩
theorem yX(s:ByteArray)(w:World):Calls Tryz.prog 102 #[.string s] w (NP (.bool (nT s.toList)) w):=by
 have hP:=fun wx (fp:List Nat) (v:Value) (hS:Sl wx (pG.map ls) fp v)=>CY pG s fp v wx hS
 rw[PX]at hP;generalize nT s.toList=b at hP
 go_enter Tryz.func102,Tryz.ntmps102
 go_wp2_with fail
 refine(yV _).mono ?_;rintro e w1 ⟨fp,v,rfl,hS,hb⟩;obtain⟨A,c,rfl,_,_⟩:=hS.fK
 go_wp2_with fail
 refine(hP _ _ _ hS).mono ?_;rintro e w2 ⟨rfl,rfl⟩
 go_wp2_with fail
 go_ret
 exact⟨rfl,hb⟩
theorem wU(s:ByteArray)(hs:s.size≤9223372036854775807)(w:World):Calls Tryz.prog 64 #[.string s] w (NP (.bool (lV s && !nT s.toList)) w):=by
 have hP:=fun wx=>EO s hs wx
 have hQ:=fun wx=>yX s wx
 unfold lV;cases h1:lu s with
 | true=>
   rw[h1]at hP;rcases ilt 8 (s.size:Int)with h3|h3
   ·have d1:decide ((s.size:Int)≤8)=false:=by simp;omega
    rw[d1];clear h1 hQ h3
    go_enter Tryz.func64,Tryz.ntmps64
    go_wp2_with (first|(go_at_call 101;refine(hP _).mono ?_;rintro e w1 ⟨rfl,rfl⟩)|(go_at_call 102;refine(hQ _).mono ?_;rintro e w1 ⟨rfl,hb⟩))
    go_ret
    exact⟨rfl,Below.refl _ _⟩
   ·have d1:decide ((s.size:Int)≤8)=true:=by simp;omega
    rw[d1];clear d1;cases h2:nT s.toList with
    | true=>
      rw[h2]at hQ;clear h1 h2
      go_enter Tryz.func64,Tryz.ntmps64
      go_wp2_with (first|(go_at_call 101;refine(hP _).mono ?_;rintro e w1 ⟨rfl,rfl⟩)|(go_at_call 102;refine(hQ _).mono ?_;rintro e w1 ⟨rfl,hb⟩))
      go_ret
      exact⟨rfl,hb⟩
    | false=>
      rw[h2]at hQ;clear h1 h2
      go_enter Tryz.func64,Tryz.ntmps64
      go_wp2_with (first|(go_at_call 101;refine(hP _).mono ?_;rintro e w1 ⟨rfl,rfl⟩)|(go_at_call 102;refine(hQ _).mono ?_;rintro e w1 ⟨rfl,hb⟩))
      go_ret
      exact⟨rfl,hb⟩
 | false=>
   rw[h1]at hP;clear h1 hQ
   go_enter Tryz.func64,Tryz.ntmps64
   go_wp2_with (first|(go_at_call 101;refine(hP _).mono ?_;rintro e w1 ⟨rfl,rfl⟩)|(go_at_call 102;refine(hQ _).mono ?_;rintro e w1 ⟨rfl,hb⟩))
   go_ret
   exact⟨rfl,Below.refl _ _⟩
end Go.Proofs.YtfengkmaphbofaaGreatDoor
