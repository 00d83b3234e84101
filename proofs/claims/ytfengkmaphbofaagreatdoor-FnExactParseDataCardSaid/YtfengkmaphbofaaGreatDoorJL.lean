/-
  Texts joined: Defs Sort TblP.
-/
import Derived.Test.YtfengkmaphbofaaGreatDoorJA
import Derived.Test.YtfengkmaphbofaaGreatDoorJH
set_option maxHeartbeats 1000000
set_option linter.unusedSimpArgs false
set_option linter.unusedVariables false
namespace Go.Proofs.YtfengkmaphbofaaGreatDoor
open Go.RowKit
open List renaming getElem?_eq_getElem→a_,drop_eq_getElem_cons→c_,drop_eq_nil_of_le→d_,take_succ_cons→e_,getElem?_map→g_
open Lib renaming hid→b_
def SV(w:World)(base:Nat)(l:List Int)(v:Value):Prop:=w.ownsRow base 3 1 v l.length (l.map (Value.int .i64))
theorem Fj{w:World}:∀{l:List Int} {fp:List Nat} {cs:List Value},Rs w (l.map li) fp cs↔fp= []∧cs=l.map (Value.int .i64)
 | [],fp,cs=>by rw[List.map_nil,Rs];rfl
 | x::l,fp,cs=>by
   rw[List.map_cons,Rs];constructor
   ·rintro⟨f1,f2,c1,c2,rfl,rfl,⟨rfl,rfl⟩,h2⟩;obtain⟨rfl,rfl⟩:=Fj.1 h2;exact⟨rfl,rfl⟩
   ·rintro⟨rfl,rfl⟩;exact⟨[],[],[.int .i64 x],l.map (Value.int .i64),rfl,rfl,⟨rfl,rfl⟩,Fj.2 ⟨rfl,rfl⟩⟩
theorem SV.sl{w:World}{base:Nat}{l:List Int}{v:Value}(h:SV w base l v):Sl w (l.map li) v.ownBlock.toList v:=by
 have h':w.ownsRow base 3 1 v (l.map li).length (l.map (Value.int .i64)):=by rw[List.length_map];exact h
 have:=Sl.of_own h' (Fj.2 ⟨rfl,rfl⟩);rwa[List.append_nil]at this
theorem SV.lit{w:World}{base g:Nat}(hg:w.heap.size=g)(hb:base≤g):SV (w.alloc (.cells #[] 3)) base [] (.slice (some ⟨g,0,none⟩) 0 0):=by
 subst hg;exact World.ownsRow_lit w #[] 0 hb (by simp) rfl
theorem yN{a b:ByteArray}(h:a.toList=b.toList):a=b:=by
 rw[ByteArray.toList_eq,ByteArray.toList_eq]at h;have:a.data=b.data:=Array.toList_inj.1 h;cases a;cases b;simp_all
def jK :List ByteArray→ByteArray→Nat→Int
 | [],_,_=> -1
 |x::r,s,k=>if x=s then(k:Int)else jK r s (k+1)
def lK :List ByteArray→ByteArray→Bool
 | [],_=>false
 |x::r,s=>decide (x=s)|| lK r s
def ES(l:List ByteArray)(s:ByteArray):Int:=jK l s 0
theorem EP(l:List ByteArray)(s:ByteArray)(fp:List Nat)(v:Value)(w:World)(hS:Sl w (l.map ls) fp v):Calls Tryz.prog 136 #[v,.string s] w (Cj (.int .i64 (ES l s)) w):=by
 obtain⟨A,c,rfl,hl,hc⟩:=hS.fK;have hm:l.length≤9223372036854775807:=by unfold maxLen at hc;omega
 clear hl hc
 go_enter Tryz.func136,Tryz.ntmps136
 go_wp2_with fail
 go_loop [9] (fun iv=>∃k:Nat,k≤l.length∧iv= .int .i64 k∧ES l s=jK (l.drop k) s k) (fun iv=>l.length - (intOf iv).toNat)
 case atStart=>exact⟨0,by omega,rfl,rfl⟩
 case round=>
  obtain⟨k,hk,rfl,he⟩:=hrel;have he':=b_ he;clear he;by_cases hlt:k<l.length
  ·have hd:(l.map ls)[k]? =some (ls l[k]):=by rw[g_,a_ hlt];rfl
   obtain⟨b,o,fi,ci,rfl,hbb,hbf,hri,hfi,hat⟩:=hS.elem uI hd;obtain⟨rfl,rfl⟩:=hri;simp only[Nat.mul_one]at hat;have q0:w.cell? ⟨b,o+k,none⟩=some (.string l[k]):=hat.head;clear hat hd;have hst:=b_ (show jK (l.drop k) s k=if l[k]=s then(k:Int)else jK (l.drop (k+1)) s (k+1) by rw[c_ hlt,jK]);cases e1:(l[k].toList==s.toList)with
   | true=>
     have hid:l[k]=s:=yN (by simpa using e1);have hf:=b_ (show(k:Int)=ES l s by rw[he'.out,hst.out,if_pos hid]);clear hid
     go_wp2_with fail
     go_ret
     exact⟨fU hf.out,rfl⟩
   | false=>
     have hid:¬l[k]=s:=fun e=>by simp[e]at e1
     have hf:=b_ (show ES l s=jK (l.drop (k+1)) s (k+1) by rw[he'.out,hst.out,if_neg hid]);clear hid
     go_wp2_with fail
     go_round
     case rel=>exact⟨k+1,by omega,by go_num,hf.out⟩
     case measure=>(simp[intOf]<;>omega)
  ·have hf:=b_ (show(-1:Int)=ES l s by rw[he'.out,d_ (by omega)];rfl)
   go_wp2_with fail
   go_ret
   exact⟨fU hf.out,rfl⟩
theorem Jl(l:List ByteArray)(s:ByteArray)(fp:List Nat)(v:Value)(w:World)(hS:Sl w (l.map ls) fp v):Calls Tryz.prog 127 #[v,.string s] w (Cj (.bool (lK l s)) w):=by
 obtain⟨A,c,rfl,hl,hc⟩:=hS.fK;have hm:l.length≤9223372036854775807:=by unfold maxLen at hc;omega
 clear hl hc
 go_enter Tryz.func127,Tryz.ntmps127
 go_wp2_with fail
 go_loop [5] (fun iv=>∃k:Nat,k≤l.length∧iv= .int .i64 k∧lK l s=lK (l.drop k) s) (fun iv=>l.length - (intOf iv).toNat)
 case atStart=>exact⟨0,by omega,rfl,rfl⟩
 case round=>
  obtain⟨k,hk,rfl,he⟩:=hrel;have he':=b_ he;clear he;by_cases hlt:k<l.length
  ·have hd:(l.map ls)[k]? =some (ls l[k]):=by rw[g_,a_ hlt];rfl
   obtain⟨b,o,fi,ci,rfl,hbb,hbf,hri,hfi,hat⟩:=hS.elem uI hd;obtain⟨rfl,rfl⟩:=hri;simp only[Nat.mul_one]at hat;have q0:w.cell? ⟨b,o+k,none⟩=some (.string l[k]):=hat.head;clear hat hd;have hst:=b_ (show lK (l.drop k) s=(decide (l[k]=s)|| lK (l.drop (k+1)) s) by rw[c_ hlt,lK]);cases e1:(l[k].toList==s.toList)with
   | true=>
     have hid:l[k]=s:=yN (by simpa using e1);have hf:=b_ (show true=lK l s by rw[he'.out,hst.out];simp[hid]);clear hid
     go_wp2_with fail
     go_ret
     exact⟨fV hf.out,rfl⟩
   | false=>
     have hid:¬l[k]=s:=fun e=>by simp[e]at e1
     have hf:=b_ (show lK l s=lK (l.drop (k+1)) s by rw[he'.out,hst.out];simp[hid]);clear hid
     go_wp2_with fail
     go_round
     case rel=>exact⟨k+1,by omega,by go_num,hf.out⟩
     case measure=>(simp[intOf]<;>omega)
  ·have hf:=b_ (show false=lK l s by rw[he'.out,d_ (by omega)];rfl)
   go_wp2_with fail
   go_ret
   exact⟨fV hf.out,rfl⟩
def jm(p:Nat→Bool):Nat→Bool
 |0=>true
 |n+1=>jm p n && p n
theorem fJ{p:Nat→Bool}{k:Nat}(h1:jm p k=true)(h2:p k=true):jm p (k+1)=true:=by rw[jm,h1,h2];rfl
theorem nZ{p:Nat→Bool}{k n:Nat}(hk:k<n)(h:p k=false):jm p n=false:=by
 induction n with
 |zero=>omega
 | succ n ih=>
   rw[jm];by_cases e:k=n
   ·subst e;rw[h,Bool.and_false]
   ·rw[ih (by omega),Bool.false_and]
theorem SN{p:Nat→Bool}{k n:Nat}(hk:k<n)(h:jm p n=true):p k=true:=by
 cases hp:p k with
 |true=>rfl
 |false=>rw[nZ hk hp]at h;cases h
def pAt{α:Type}(p:α→Bool)(l:List α)(k:Nat):Bool:=match l[k]? with|some x=>p x|none=>true
theorem jy{α:Type}(p:α→Bool){l:List α}{k:Nat}(h:k<l.length):pAt p l k=p l[k]:=by simp[pAt,h]
def jU{α:Type}(p:α→Bool)(l:List α):Bool:=jm (pAt p l) l.length
theorem gq{α:Type}{p:α→Bool}{l:List α}{k:Nat}(hk:k<l.length)(h:p l[k]=false):jU p l=false:=nZ hk (by rw[jy p hk];exact h)
theorem og{α:Type}{p:α→Bool}{l:List α}(h:jU p l=true):∀x∈l,p x=true:=fun x hx=>by
 obtain⟨k,hk,rfl⟩:=List.mem_iff_getElem.1 hx;rw[← jy p hk];exact SN hk h
def oC(n:Int):Bool:=inR n (-1000000000) 1000000000
def y9(a b:GOrigin):Bool:=decide (a.cell<b.cell)||(a.cell==b.cell && decide (a.row<b.row))
def wQ(l:List GOrigin)(k:Nat):Bool:=match l[k]? with
 |some o=> !decide (o.cell<0) && (!decide (o.row<0) && (!decide (0<k)||(match l[k - 1]? with|some a=>y9 a o|none=>true)))
 |none=>true
def JF(l:List GOrigin):Bool:=jm (wQ l) l.length
theorem DF{l:List GOrigin}{k:Nat}(hk:k<l.length)(h:l[k].cell<0):wQ l k=false:=by simp[wQ,hk,h]
theorem DC{l:List GOrigin}{k:Nat}(hk:k<l.length)(h:l[k].row<0):wQ l k=false:=by simp[wQ,hk,h]
theorem Dy{l:List GOrigin}(hk:0<l.length)(h:¬l[0].cell<0)(h2:¬l[0].row<0):wQ l 0=true:=by simp[wQ,hk];omega
theorem Dz{l:List GOrigin}{k:Nat}(hk:k<l.length)(h0:0<k)(h:¬l[k].cell<0)(h2:¬l[k].row<0):wQ l k=y9 (l[k - 1]'(by omega)) l[k]:=by
 have e:(l[k - 1]?)=some (l[k - 1]'(by omega)):=a_ _;simp[wQ,hk,h0,e,h,h2]
def Jw(l:List ByteArray):Bool:=jm (fun k=>match l[k]? with|some s=> !lK (l.take k) s|none=>true) l.length
theorem QD{l:List ByteArray}{k:Nat}(hk:k<l.length):(match l[k]? with|some s=> !lK (l.take k) s|none=>true)= !lK (l.take k) l[k]:=by simp[hk]
theorem Aw :∀(l:List ByteArray) (k m:Nat) (hk:k<l.length),lK (l.take k) l[k]=false→jK l l[k] m=((m+k:Nat):Int)
 |x::l,0,m,_,_=>by simp[jK]
 | x::l,k+1,m,hk,h=>by
   rw[e_,lK,Bool.or_eq_false_iff]at h;have h1:¬x=l[k]'(by simpa using hk):=by simpa using h.1
   rw[List.getElem_cons_succ,jK,if_neg h1];rw[Aw l k (m+1) (by simpa using hk) (by simpa using h.2)];congr 1;omega
theorem Au :∀(l:List ByteArray) (k m:Nat) (s:ByteArray),lK (l.take k) s=true→jK l s m<((m+k:Nat):Int)
 | [],k,m,s,h=>by simp[lK]at h
 |x::l,0,m,s,h=>by simp[lK]at h
 | x ::l,k+1,m,s,h=>by
   rw[jK];split
   ·omega
   ·next hne=>
    rw[e_,lK,Bool.or_eq_true,decide_eq_true_eq]at h;rcases h with h|h
    ·exact absurd h hne
    ·have:=Au l k (m+1) s h;omega
theorem KU{l:List ByteArray}{k:Nat}(hk:k<l.length):(ES l l[k] !=(k:Int))=lK (l.take k) l[k]:=by
 cases h:lK (l.take k) l[k]with
 | false=>
   have:=Aw l k 0 hk h;rw[Nat.zero_add]at this;simp[ES,this]
 | true=>
   have:=Au l k 0 _ h;rw[Nat.zero_add]at this;simp[ES];omega
def lg(s:ByteArray):Bool:=lV s && !nT s.toList
def jr(l:List ByteArray):Bool:=jU lg l && (inR (l.length:Int) 1 4 && Jw l)
def oz(c:Nat)(r:GRow):Bool:=decide (r.cells.length=c) && (JF r.src && jU oC r.cells)
def qm(x:GVal):Bool:=jr x.cols && (decide (x.rows.length≤12) && jU (oz x.cols.length) x.rows)
def kQ(x:GVal):Bool:=(x.n==0) && ((x.step==0) && ((x.text.toList==(⟨#[]⟩:ByteArray).toList) && (decide (x.list.length=0) && qm x)))
end Go.Proofs.YtfengkmaphbofaaGreatDoor
