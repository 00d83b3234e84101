/-
  Texts joined: Fib.
-/
import Derived.Test.YtfengkmaphbofaaGreatDoorJR
import Derived.Test.YtfengkmaphbofaaGreatDoorJF
import Derived.Test.YtfengkmaphbofaaGreatDoorJA
set_option linter.unusedSimpArgs false
set_option linter.unusedVariables false
namespace Go.Proofs.YtfengkmaphbofaaGreatDoor
open Go.RowKit
open UInt8 renaming ofNat→a_
open Nat renaming zero_le→b_,le_trans→c_
attribute [local irreducible] sw sd sn
theorem YR{H:Type}{enc:TypeId×Value→H}{P:Program}{w:World}{spare:Nat→Bool}{t:TypeId}(ht:P.underlying t=some (.int .u8))(fuel:Nat):Rdg enc P w spare lu8 t fuel:=fun cs x h=>by
 obtain⟨n,rfl,_,hw⟩:=DataW.trod_int ht h;have hw2:(decide (IntKind.u8.min≤n) && decide (n≤IntKind.u8.max))=true:=hw;rw[show IntKind.u8.min=0 from rfl,show IntKind.u8.max=255 from rfl]at hw2;simp at hw2;have hn:((a_ n.toNat).toNat:Int)=n:=by
  rw[UInt8.toNat_ofNat'];omega
 refine⟨a_ n.toNat,⟨[],rfl, ?_⟩, ?_⟩
 ·show [Value.int .u8 n]= [Value.int .u8 ((a_ n.toNat).toNat:Int)]
  rw[hn]
 ·show(Lit.int .u8 ((a_ n.toNat).toNat:Int)).wf=true;rw[hn];exact hw
theorem NK :Tryz.prog.cellsOf 5=1:=by kernel_rfl
theorem Ye{H:Type}{enc:TypeId×Value→H}{w:World}{spare:Nat→Bool}(fuel:Nat):Rdg enc Tryz.prog w spare (fun l:List UInt8=> .sl (l.map lu8)) 32 fuel:=SG Tryz.underlying32 NK (fun y=>rfl) (by omega) fuel fun n _=>YR Tryz.underlying5 n
theorem AU(x y:GNb)(hn:x.cells.length≤1048576):dK Tryz.prog 17 [x.toD,y.toD] (.c false [.raw (.bool (decide (x.cells=y.cells)))]):=vk fun w vs hr=>by
 obtain⟨v,u,rfl,h1,h2⟩:=YQ hr;obtain⟨fp,a,rfl,hS,_⟩:=xG h1;obtain⟨fq,b,rfl,hT,_⟩:=xG h2;exact wL x.cells y.cells fp fq a b w hS hT hn
def Uw :IC:=(zd_ [zj_ 2 false] (zd_ [zw_ 3 0,zf_ 4 false 3,zm_ 5 .gtr 4 1048576,zw_ 2 5] .ret))
theorem QK :bg Tryz.prog (Tryz.f11.body.getD .skip)=some Uw:=by kernel_rfl
theorem VB(l:List UInt8):dK Tryz.prog 11 [.sl (l.map lu8)] (.c false [.raw (.bool (decide ((l.length:Int) > 1048576)))]):=by
 refine gW (fn:=Tryz.f11) (t:=2) (hc:=QK) (h:= ?_);unfold Uw;refine zb_ ?_;change AWP _ _ _ (st0 6 _);refine sS tdX ?_
 repeat' (first|(refine rg_ ?_;intro K hK)|(refine hq_ ?_;clear hK K)|refine ca_ ?_ ?_|refine sz_ (Zm tdC @kW) ?_|refine nv ?_|(refine c2_ ?_ ?_<;>(intro hb hb';try(exfalso;omega)))|(exact GCell.el _)|exact bq_|fail)
 exact dS ⟨_,rfl,⟨rfl,trivial⟩⟩
theorem dK.nilSl{P:Program}{f:Nat}{ds:List D}{u:Value}(h:dK P f ds (.tup [(true,[.raw (.slice none 0 0)]),(false,[.raw u])])):dK P f ds (.tup [(true,[.sl true []]),(false,[.raw u])]):=fun w vs hr ht=>(h w vs hr ht).mono fun en w' hp=>by
 obtain⟨v,h1,⟨us,rfl,h3⟩,h4⟩:=hp;refine⟨_,h1,⟨us,rfl, ?_⟩,h4⟩
 match us,h3 with
 | [a,b],⟨⟨xs,h0,h5⟩,h6⟩=>
   subst h0
   match xs,h5 with
   | [x],⟨h7,_⟩=>
     obtain rfl:x=_:=h7;exact⟨⟨_,rfl,⟨[],Uf w',fun b hb=>by simp at hb⟩,trivial⟩,h6⟩
theorem oQ(s:ByteArray)(hs:s.size≤1048576):dK Tryz.prog 14 [ls s] (.tup [(true,[.sl true ((dX s).1.map GCell.toD)]),(false,[.raw (.bool (dX s).2)])]):=by
 by_cases hN:(dX s).1= []
 ·have h:=(yR s hs hN).nilSl;rw[hN];exact h
 ·rw[MW hN];exact(yQ s hs hN).to (GCell.Pv _)
theorem nD{s:ByteArray}(hs:s.size≤1048576):qU (fB s).1:=by
 unfold fB qU;by_cases h:(cut spB s).length<6
 ·rw[if_pos h];exact⟨b_ _,b_ _⟩
 ·rw[if_neg h];have h4:(wAt (cut spB s) 4).size≤s.size:=wZ (by omega);split
  ·exact⟨c_ (qN s) hs,c_ (c_ (sU _) h4) hs⟩
  ·exact⟨b_ _,b_ _⟩
theorem vU{s:ByteArray}(hs:s.size≤1048575):∀c∈(dX s).1,c.toD.wf∧qU c:=by
 have hz:∀x∈kT s,x.size≤1048576:=fun x hx=>by
  have h1:=List.mem_of_mem_take hx;have:=rU (sep:=nlB) (by decide) h1;omega
 have hc:∀c∈(kT s).map iH,c.toD.wf∧qU c:=fun c hc=>by
  obtain⟨x,hx,rfl⟩:=List.mem_map.1 hc;exact⟨kH (hz x hx),nD (hz x hx)⟩
 unfold dX;split
 ·split
  ·split
   ·exact hc
   ·intro c hc;simp at hc
  ·intro c hc;simp at hc
 ·intro c hc;simp at hc
end Go.Proofs.YtfengkmaphbofaaGreatDoor
