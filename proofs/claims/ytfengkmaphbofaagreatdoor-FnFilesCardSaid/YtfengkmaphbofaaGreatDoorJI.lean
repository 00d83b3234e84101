/-
  Texts joined: Defs Sort TblP.
-/
import Derived.Test.YtfengkmaphbofaaGreatDoorJA
import Derived.Test.YtfengkmaphbofaaGreatDoorJF
set_option linter.unusedSimpArgs false
set_option linter.unusedVariables false
namespace Go.Proofs.YtfengkmaphbofaaGreatDoor
open Go.RowKit
def XG(w:World)(base:Nat)(l:List Int)(v:Value):Prop:=w.ownsRow base 3 1 v l.length (l.map (Value.int .i64))
theorem IZ{w:World}:∀{l:List Int} {fp:List Nat} {cs:List Value},Rs w (l.map li) fp cs↔fp= []∧cs=l.map (Value.int .i64)
 | [],fp,cs=>by rw[List.map_nil,Rs];rfl
 | x::l,fp,cs=>by
   rw[List.map_cons,Rs];constructor
   ·rintro⟨f1,f2,c1,c2,rfl,rfl,⟨rfl,rfl⟩,h2⟩;obtain⟨rfl,rfl⟩:=IZ.1 h2;exact⟨rfl,rfl⟩
   ·rintro⟨rfl,rfl⟩;exact⟨[],[],[.int .i64 x],l.map (Value.int .i64),rfl,rfl,⟨rfl,rfl⟩,IZ.2 ⟨rfl,rfl⟩⟩
theorem XG.sl{w:World}{base:Nat}{l:List Int}{v:Value}(h:XG w base l v):Sl w (l.map li) v.ownBlock.toList v:=by
 have h':w.ownsRow base 3 1 v (l.map li).length (l.map (Value.int .i64)):=by rw[List.length_map];exact h
 have:=Sl.of_own h' (IZ.2 ⟨rfl,rfl⟩);rwa[List.append_nil]at this
theorem XG.lit{w:World}{base g:Nat}(hg:w.heap.size=g)(hb:base≤g):XG (w.alloc (.cells #[] 3)) base [] (.slice (some ⟨g,0,none⟩) 0 0):=by
 subst hg;exact World.ownsRow_lit w #[] 0 hb (by simp) rfl
def allN(p:Nat→Bool):Nat→Bool
 |0=>true
 |n+1=>allN p n && p n
theorem oh{p:Nat→Bool}{k:Nat}(h1:allN p k=true)(h2:p k=true):allN p (k+1)=true:=by rw[allN,h1,h2];rfl
theorem EM{p:Nat→Bool}{k n:Nat}(hk:k<n)(h:p k=false):allN p n=false:=by
 induction n with
 |zero=>omega
 | succ n ih=>
   rw[allN];by_cases e:k=n
   ·subst e;rw[h,Bool.and_false]
   ·rw[ih (by omega),Bool.false_and]
theorem XE{p:Nat→Bool}{k n:Nat}(hk:k<n)(h:allN p n=true):p k=true:=by
 cases hp:p k with
 |true=>rfl
 |false=>rw[EM hk hp]at h;cases h
def pAt{α:Type}(p:α→Bool)(l:List α)(k:Nat):Bool:=match l[k]? with|some x=>p x|none=>true
theorem sH{α:Type}(p:α→Bool){l:List α}{k:Nat}(h:k<l.length):pAt p l k=p l[k]:=by simp[pAt,h]
def FN{α:Type}(p:α→Bool)(l:List α):Bool:=allN (pAt p l) l.length
theorem oq{α:Type}{p:α→Bool}{l:List α}{k:Nat}(hk:k<l.length)(h:p l[k]=false):FN p l=false:=EM hk (by rw[sH p hk];exact h)
theorem VO{α:Type}{p:α→Bool}{l:List α}(h:FN p l=true):∀x∈l,p x=true:=fun x hx=>by
 obtain⟨k,hk,rfl⟩:=List.mem_iff_getElem.1 hx;rw[← sH p hk];exact XE hk h
end Go.Proofs.YtfengkmaphbofaaGreatDoor
