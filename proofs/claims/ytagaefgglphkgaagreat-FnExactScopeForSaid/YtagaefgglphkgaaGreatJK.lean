/-
  Texts joined: Shelf Sort Sort2 Sort3 SortLaw Free2 Uses Visit0 Visit Missing.
-/
import Derived.Shelf.Sort.Plain
import Derived.Test.YtagaefgglphkgaaGreatProg
import Derived.Test.YtagaefgglphkgaaGreatJA
import Derived.Test.YtagaefgglphkgaaGreatJI
import Derived.BigQuiet
import Derived.Sort.OwnSorted
import Derived.Sort.Walk0
import Derived.Test.YtagaefgglphkgaaGreatJE
set_option maxHeartbeats 16000000
set_option maxRecDepth 20000
set_option linter.unusedSimpArgs false
set_option linter.unusedVariables false
namespace Go.Proofs
open Go.Shelf
def Tryz.LY :Go.Shelf.Ren:=⟨fun|191=>108|189=>111|125=>110|257=>123|128=>121|129=>122|294=>130|295=>131|296=>132|297=>133|298=>134|299=>135|216=>136|300=>137|301=>138|328=>140|329=>125|330=>126|331=>141|332=>142|215=>143|343=>144|n=>n,fun|28=>92|0=>0|3=>3|46=>138|51=>149|53=>151|4=>4|183=>141|182=>140|131=>146|5=>5|9=>9|218=>153|222=>157|228=>166|229=>167|n=>n,fun|n=>n⟩
theorem Tryz.lays191 :Go.Proofs.Lays.n191 Tryz.prog Tryz.LY:={
 mixed:=by kernel_rfl
 f125:=Tryz.func110.trans (congrArg some (by kernel_rfl))
 f128:=Tryz.func121.trans (congrArg some (by kernel_rfl))
 f129:=Tryz.func122.trans (congrArg some (by kernel_rfl))
 f189:=Tryz.func111.trans (congrArg some (by kernel_rfl))
 f191:=Tryz.func108.trans (congrArg some (by kernel_rfl))
 f215:=Tryz.func143.trans (congrArg some (by kernel_rfl))
 f216:=Tryz.func136.trans (congrArg some (by kernel_rfl))
 f257:=Tryz.func123.trans (congrArg some (by kernel_rfl))
 f294:=Tryz.func130.trans (congrArg some (by kernel_rfl))
 f295:=Tryz.func131.trans (congrArg some (by kernel_rfl))
 f296:=Tryz.func132.trans (congrArg some (by kernel_rfl))
 f297:=Tryz.func133.trans (congrArg some (by kernel_rfl))
 f298:=Tryz.func134.trans (congrArg some (by kernel_rfl))
 f299:=Tryz.func135.trans (congrArg some (by kernel_rfl))
 f300:=Tryz.func137.trans (congrArg some (by kernel_rfl))
 f301:=Tryz.func138.trans (congrArg some (by kernel_rfl))
 f328:=Tryz.func140.trans (congrArg some (by kernel_rfl))
 f329:=Tryz.func125.trans (congrArg some (by kernel_rfl))
 f330:=Tryz.func126.trans (congrArg some (by kernel_rfl))
 f331:=Tryz.func141.trans (congrArg some (by kernel_rfl))
 f332:=Tryz.func142.trans (congrArg some (by kernel_rfl))
 f343:=Tryz.func144.trans (congrArg some (by kernel_rfl))
 t0:=Tryz.underlying0
 a0:=Tryz.isAgg0
 z0:=Tryz.sizeOf0
 v0:=Tryz.zeroValue0
 t3:=Tryz.underlying3
 a3:=Tryz.isAgg3
 z3:=Tryz.sizeOf3
 v3:=Tryz.zeroValue3
 t4:=Tryz.underlying4
 a4:=Tryz.isAgg4
 z4:=Tryz.sizeOf4
 v4:=Tryz.zeroValue4
 t5:=Tryz.underlying5
 a5:=Tryz.isAgg5
 z5:=Tryz.sizeOf5
 v5:=Tryz.zeroValue5
 t9:=Tryz.underlying9
 a9:=Tryz.isAgg9
 z9:=Tryz.sizeOf9
 v9:=Tryz.zeroValue9
 t28:=Tryz.underlying92
 a28:=Tryz.isAgg92
 z28:=Tryz.sizeOf92
 v28:=Tryz.zeroValue92
 t46:=Tryz.underlying138
 a46:=Tryz.isAgg138
 z46:=Tryz.sizeOf138
 v46:=Tryz.zeroValue138
 t51:=Tryz.underlying149
 a51:=Tryz.isAgg149
 z51:=Tryz.sizeOf149
 v51:=Tryz.zeroValue149
 t53:=Tryz.underlying151
 a53:=Tryz.isAgg151
 z53:=Tryz.sizeOf151
 v53:=Tryz.zeroValue151
 t131:=Tryz.underlying146
 a131:=Tryz.isAgg146
 z131:=Tryz.sizeOf146
 v131:=Tryz.zeroValue146
 t182:=Tryz.underlying140
 a182:=Tryz.isAgg140
 z182:=Tryz.sizeOf140
 v182:=Tryz.zeroValue140
 t183:=Tryz.underlying141
 a183:=Tryz.isAgg141
 z183:=Tryz.sizeOf141
 v183:=Tryz.zeroValue141
 t218:=Tryz.underlying153
 a218:=Tryz.isAgg153
 z218:=Tryz.sizeOf153
 v218:=Tryz.zeroValue153
 t222:=Tryz.underlying157
 a222:=Tryz.isAgg157
 z222:=Tryz.sizeOf157
 v222:=Tryz.zeroValue157
 t228:=Tryz.underlying166
 a228:=Tryz.isAgg166
 z228:=Tryz.sizeOf166
 v228:=Tryz.zeroValue166
 t229:=Tryz.underlying167
 a229:=Tryz.isAgg167
 z229:=Tryz.sizeOf167
 v229:=Tryz.zeroValue167}
open Go.Sort Go.RowKit in
theorem Tryz.sort_Ints(blk off cap:Nat)(zs:List Int)(w:World)(hH:Holds (Value.int .i64) w blk off zs.toArray)(hblk:blk<w.heap.size)(hsz:zs.length<4611686018427387904):
 Calls Tryz.prog 108 #[.slice (some ⟨blk,off,none⟩) zs.length cap] w fun e w'=>
  e= .returned (.tuple #[])∧∃n os,w'=grow (putRow (Value.int .i64) (Sort.ahead w n) blk off (zs.mergeSort fun x y=>decide (x≤y)).toArray) os:=Any.sort_Ints Tryz.lays191 blk off cap zs w hH hblk hsz
def Tryz.lays192_ren :Go.Shelf.Ren:=⟨fun|192=>99|190=>105|125=>110|258=>109|128=>121|129=>122|302=>112|303=>113|304=>114|305=>115|306=>116|307=>117|308=>118|309=>119|310=>120|333=>124|329=>125|330=>126|334=>127|335=>128|336=>129|344=>139|n=>n,fun|31=>39|0=>0|9=>9|3=>3|46=>138|51=>149|53=>151|4=>4|183=>141|182=>140|131=>146|5=>5|218=>153|222=>157|228=>166|229=>167|n=>n,fun|n=>n⟩
theorem Tryz.lays192 :Go.Proofs.Lays.n192 Tryz.prog Tryz.lays192_ren:={
 mixed:=by kernel_rfl
 f125:=Tryz.func110.trans (congrArg some (by kernel_rfl))
 f128:=Tryz.func121.trans (congrArg some (by kernel_rfl))
 f129:=Tryz.func122.trans (congrArg some (by kernel_rfl))
 f190:=Tryz.func105.trans (congrArg some (by kernel_rfl))
 f192:=Tryz.func99.trans (congrArg some (by kernel_rfl))
 f258:=Tryz.func109.trans (congrArg some (by kernel_rfl))
 f302:=Tryz.func112.trans (congrArg some (by kernel_rfl))
 f303:=Tryz.func113.trans (congrArg some (by kernel_rfl))
 f304:=Tryz.func114.trans (congrArg some (by kernel_rfl))
 f305:=Tryz.func115.trans (congrArg some (by kernel_rfl))
 f306:=Tryz.func116.trans (congrArg some (by kernel_rfl))
 f307:=Tryz.func117.trans (congrArg some (by kernel_rfl))
 f308:=Tryz.func118.trans (congrArg some (by kernel_rfl))
 f309:=Tryz.func119.trans (congrArg some (by kernel_rfl))
 f310:=Tryz.func120.trans (congrArg some (by kernel_rfl))
 f329:=Tryz.func125.trans (congrArg some (by kernel_rfl))
 f330:=Tryz.func126.trans (congrArg some (by kernel_rfl))
 f333:=Tryz.func124.trans (congrArg some (by kernel_rfl))
 f334:=Tryz.func127.trans (congrArg some (by kernel_rfl))
 f335:=Tryz.func128.trans (congrArg some (by kernel_rfl))
 f336:=Tryz.func129.trans (congrArg some (by kernel_rfl))
 f344:=Tryz.func139.trans (congrArg some (by kernel_rfl))
 t0:=Tryz.underlying0
 a0:=Tryz.isAgg0
 z0:=Tryz.sizeOf0
 v0:=Tryz.zeroValue0
 t3:=Tryz.underlying3
 a3:=Tryz.isAgg3
 z3:=Tryz.sizeOf3
 v3:=Tryz.zeroValue3
 t4:=Tryz.underlying4
 a4:=Tryz.isAgg4
 z4:=Tryz.sizeOf4
 v4:=Tryz.zeroValue4
 t5:=Tryz.underlying5
 a5:=Tryz.isAgg5
 z5:=Tryz.sizeOf5
 v5:=Tryz.zeroValue5
 t9:=Tryz.underlying9
 a9:=Tryz.isAgg9
 z9:=Tryz.sizeOf9
 v9:=Tryz.zeroValue9
 t31:=Tryz.underlying39
 a31:=Tryz.isAgg39
 z31:=Tryz.sizeOf39
 v31:=Tryz.zeroValue39
 t46:=Tryz.underlying138
 a46:=Tryz.isAgg138
 z46:=Tryz.sizeOf138
 v46:=Tryz.zeroValue138
 t51:=Tryz.underlying149
 a51:=Tryz.isAgg149
 z51:=Tryz.sizeOf149
 v51:=Tryz.zeroValue149
 t53:=Tryz.underlying151
 a53:=Tryz.isAgg151
 z53:=Tryz.sizeOf151
 v53:=Tryz.zeroValue151
 t131:=Tryz.underlying146
 a131:=Tryz.isAgg146
 z131:=Tryz.sizeOf146
 v131:=Tryz.zeroValue146
 t182:=Tryz.underlying140
 a182:=Tryz.isAgg140
 z182:=Tryz.sizeOf140
 v182:=Tryz.zeroValue140
 t183:=Tryz.underlying141
 a183:=Tryz.isAgg141
 z183:=Tryz.sizeOf141
 v183:=Tryz.zeroValue141
 t218:=Tryz.underlying153
 a218:=Tryz.isAgg153
 z218:=Tryz.sizeOf153
 v218:=Tryz.zeroValue153
 t222:=Tryz.underlying157
 a222:=Tryz.isAgg157
 z222:=Tryz.sizeOf157
 v222:=Tryz.zeroValue157
 t228:=Tryz.underlying166
 a228:=Tryz.isAgg166
 z228:=Tryz.sizeOf166
 v228:=Tryz.zeroValue166
 t229:=Tryz.underlying167
 a229:=Tryz.isAgg167
 z229:=Tryz.sizeOf167
 v229:=Tryz.zeroValue167}
open Go.Sort Go.RowKit in
theorem Tryz.sort_Strings(blk off cap:Nat)(ss:List (List UInt8))(w:World)(hH:Holds encStr w blk off ss.toArray)(hblk:blk<w.heap.size)(hsz:ss.length<4611686018427387904):
 Calls Tryz.prog 99 #[.slice (some ⟨blk,off,none⟩) ss.length cap] w fun e w'=>
  e= .returned (.tuple #[])∧∃n os,w'=grow (putRow encStr (Sort.ahead w n) blk off (ss.mergeSort fun x y=>decide (x≤y)).toArray) os:=Any.sort_Strings Tryz.lays192 blk off cap ss w hH hblk hsz
end Go.Proofs
namespace Go.Proofs.YtagaefgglphkgaaGreat
open Go.RowKit
section
open List renaming length_append→a_,getElem?_eq_getElem→c_,length_map→d_,append_assoc→f_,map_cons→h_,mem_cons→i_,map_append→j_,length_cons→l_,map_nil→m_,pairwise_cons→p_,nil_append→r_,length_nil→s_,getElem?_map→t_,drop_eq_getElem_cons→u_,take_succ_eq_append_getElem→v_,cons_append→y_,all_cons→A_,replicate→B_,drop_eq_nil_of_le→C_,getElem_mem→F_,take_succ_cons→G_,map_take→I_,getElem_map→J_,take_length→K_,length_take→L_,foldl_cons→M_,append_nil→N_,mem_append→O_,mem_map_of_mem→R_,mem_singleton→T_,mem_mergeSort→U_,foldl_append→W_,map_drop→a_b,mem_map→a_e,length→a_g
open Nat renaming le_refl→b_,add_assoc→k_,lt_of_lt_of_le→o_,le_trans→w_,reduceAdd→D_,reduceSub→E_,mul_one→H_,zero_add→S_,lt_succ_self→Z_,lt_irrefl→a_c
open Lib renaming hid→e_
open Below renaming refl→g_
open Or renaming inl→n_,inr→x_
open Option.some renaming inj→q_
open Value renaming string→z_,int→V_
open Instr renaming slice→P_
open IntKind renaming i64→Q_
def jG :List ByteArray→ByteArray→Nat→Int
 | [],_,_=> -1
 |x::r,s,k=>if x=s then(k:Int)else jG r s (k+1)
def rH :List ByteArray→ByteArray→Bool
 | [],_=>false
 |x::r,s=>decide (x=s)|| rH r s
def Aw(l:List ByteArray)(s:ByteArray):Int:=jG l s 0
theorem y7(l:List ByteArray)(s:ByteArray)(fp:List Nat)(v:Value)(w:World)(hS:Sl w (l.map ls) fp v):Calls Tryz.prog 98 #[v,.string s] w (YM (.int .i64 (Aw l s)) w):=by
 obtain⟨A,c,rfl,hl,hc⟩:=hS.au;have hm:l.length≤9223372036854775807:=by unfold maxLen at hc;omega
 clear hl hc
 go_enter Tryz.func98,Tryz.ntmps98
 go_wp2_with fail
 go_loop [9] (fun iv=>∃k:Nat,k≤l.length∧iv= .int .i64 k∧Aw l s=jG (l.drop k) s k) (fun iv=>l.length - (intOf iv).toNat)
 case atStart=>exact⟨0,by omega,rfl,rfl⟩
 case round=>
  obtain⟨k,hk,rfl,he⟩:=hrel;have he':=e_ he;clear he;by_cases hlt:k<l.length
  ·have hd:(l.map ls)[k]? =some (ls l[k]):=by rw[t_,c_ hlt];rfl
   obtain⟨b,o,fi,ci,rfl,hbb,hbf,hri,hfi,hat⟩:=hS.elem gZ hd;obtain⟨rfl,rfl⟩:=hri;simp only[H_]at hat;have q0:w.cell? ⟨b,o+k,none⟩=some (.string l[k]):=hat.head;clear hat hd;have hst:=e_ (show jG (l.drop k) s k=if l[k]=s then(k:Int)else jG (l.drop (k+1)) s (k+1) by rw[u_ hlt,jG]);cases e1:(l[k].toList==s.toList)with
   | true=>
     have hid:l[k]=s:=oq (by simpa using e1);have hf:=e_ (show(k:Int)=Aw l s by rw[he'.out,hst.out,if_pos hid]);clear hid
     go_wp2_with fail
     go_ret
     exact⟨gW hf.out,rfl⟩
   | false=>
     have hid:¬l[k]=s:=fun e=>by simp[e]at e1
     have hf:=e_ (show Aw l s=jG (l.drop (k+1)) s (k+1) by rw[he'.out,hst.out,if_neg hid]);clear hid
     go_wp2_with fail
     go_round
     case rel=>exact⟨k+1,by omega,by go_num,hf.out⟩
     case measure=>(simp[intOf]<;>omega)
  ·have hf:=e_ (show(-1:Int)=Aw l s by rw[he'.out,C_ (by omega)];rfl)
   go_wp2_with fail
   go_ret
   exact⟨gW hf.out,rfl⟩
theorem OO(l:List ByteArray)(s:ByteArray)(fp:List Nat)(v:Value)(w:World)(hS:Sl w (l.map ls) fp v):Calls Tryz.prog 95 #[v,.string s] w (YM (.bool (rH l s)) w):=by
 obtain⟨A,c,rfl,hl,hc⟩:=hS.au;have hm:l.length≤9223372036854775807:=by unfold maxLen at hc;omega
 clear hl hc
 go_enter Tryz.func95,Tryz.ntmps95
 go_wp2_with fail
 go_loop [5] (fun iv=>∃k:Nat,k≤l.length∧iv= .int .i64 k∧rH l s=rH (l.drop k) s) (fun iv=>l.length - (intOf iv).toNat)
 case atStart=>exact⟨0,by omega,rfl,rfl⟩
 case round=>
  obtain⟨k,hk,rfl,he⟩:=hrel;have he':=e_ he;clear he;by_cases hlt:k<l.length
  ·have hd:(l.map ls)[k]? =some (ls l[k]):=by rw[t_,c_ hlt];rfl
   obtain⟨b,o,fi,ci,rfl,hbb,hbf,hri,hfi,hat⟩:=hS.elem gZ hd;obtain⟨rfl,rfl⟩:=hri;simp only[H_]at hat;have q0:w.cell? ⟨b,o+k,none⟩=some (.string l[k]):=hat.head;clear hat hd;have hst:=e_ (show rH (l.drop k) s=(decide (l[k]=s)|| rH (l.drop (k+1)) s) by rw[u_ hlt,rH]);cases e1:(l[k].toList==s.toList)with
   | true=>
     have hid:l[k]=s:=oq (by simpa using e1);have hf:=e_ (show true=rH l s by rw[he'.out,hst.out];simp[hid]);clear hid
     go_wp2_with fail
     go_ret
     exact⟨D5 hf.out,rfl⟩
   | false=>
     have hid:¬l[k]=s:=fun e=>by simp[e]at e1
     have hf:=e_ (show rH l s=rH (l.drop (k+1)) s by rw[he'.out,hst.out];simp[hid]);clear hid
     go_wp2_with fail
     go_round
     case rel=>exact⟨k+1,by omega,by go_num,hf.out⟩
     case measure=>(simp[intOf]<;>omega)
  ·have hf:=e_ (show false=rH l s by rw[he'.out,C_ (by omega)];rfl)
   go_wp2_with fail
   go_ret
   exact⟨D5 hf.out,rfl⟩
theorem wK{w:World}{l:List ByteArray}:∀(f:List Nat) (cs:List Value),Rs w (l.map ls) f cs→f= []:=by
 induction l with
 |nil=>intro f cs h;exact h.1
 | cons x l ih=>
   intro f cs h;rw[h_,Rs]at h;obtain⟨f1,f2,c1,c2,rfl,rfl,h1,h2⟩:=h;rw[h1.1,ih f2 c2 h2];rfl
def EF(acc:List ByteArray)(x:ByteArray)(at_:Nat):List ByteArray:=if acc[at_]? =some x then acc else acc.take at_++ [x]++acc.drop at_
def ltS(a b:ByteArray):Bool:=Op.bytesLess a.toList b.toList
def wV :List ByteArray→ByteArray→Nat
 | [],_=>0
 |y::r,x=>if ltS y x then wV r x+1 else 0
theorem Yf(l:List ByteArray)(x:ByteArray):wV l x≤l.length:=by
 induction l with
 |nil=>simp[wV]
 |cons y r ih=>rw[wV];split<;>simp<;>omega
def rG(acc:List ByteArray)(x:ByteArray):List ByteArray:=EF acc x (wV acc x)
theorem Wq(acc:List ByteArray)(x:ByteArray):(rG acc x).length≤acc.length+1:=by
 unfold rG EF;have:=Yf acc x;split<;>simp<;>omega
def jI(l:List ByteArray)(k:Nat):List ByteArray:=(l.take k).foldl rG []
theorem DT(l:List ByteArray)(k:Nat):(jI l k).length≤k:=by
 induction k with
 |zero=>simp[jI]
 | succ k ih=>
   by_cases h:k<l.length
   ·unfold jI;rw[v_ h,W_];have:=Wq ((l.take k).foldl rG []) l[k];unfold jI at ih;simp only[M_,List.foldl_nil];omega
   ·unfold jI at ih⊢;rw[List.take_of_length_le (by omega)]at ih⊢;omega
theorem KW(l:List ByteArray)(k:Nat)(h:k<l.length):jI l (k+1)=rG (jI l k) l[k]:=by
 unfold jI;rw[v_ h,W_];rfl
def tY(l:List ByteArray)(w:World)(en:Ending)(w':World):Prop:=∃f v,en= .returned v∧dQ w' w.heap.size 9 1 (l.map ls) f v∧Below w.heap.size w w'
theorem tY.tos{l:List ByteArray}{w w':World}{en:Ending}(h:tY l w en w'):kS (l.map ls) w en w':=by
 obtain⟨f,v,rfl,h1,h2⟩:=h;exact h1.tos h2
theorem xK(l:List ByteArray)(fp:List Nat)(v:Value)(w:World)(hS:Sl w (l.map ls) fp v)(hn:l.length≤1048576):Calls Tryz.prog 77 #[v] w (tY (jI l l.length) w):=by
 obtain⟨A,c,rfl,hl,hc⟩:=hS.au;have hm:l.length≤9223372036854775807:=by omega
 have hn':=e_ hn;clear hl hc hn
 go_enter Tryz.func77,Tryz.ntmps77
 go_wp2_with fail
 go_loopw [3,4] (fun nv iv wr=>∃(k:Nat) (g c1:Nat),k≤l.length∧iv= .int .i64 k∧nv= .slice (some ⟨g,0,none⟩) (jI l k).length c1∧dQ wr w.heap.size 9 1 ((jI l k).map ls) [] nv∧Below w.heap.size w wr) (fun _ iv _=>l.length - (intOf iv).toNat)
 case atStart=>exact⟨0,_,_,by omega,rfl,rfl,dQ.lit rfl (b_ _),(g_ _ _).alloc (b_ _) _⟩
 case round=>
  obtain⟨k,g,c1,hk,rfl,rfl,ho,hb⟩:=hrel;by_cases hlt:k<l.length
  ·have hd:(l.map ls)[k]? =some (ls l[k]):=by rw[t_,c_ hlt];rfl
   obtain⟨b,o,fi,ci,rfl,hbb,hbf,hri,hfi,hat⟩:=hS.elem gZ hd;obtain⟨rfl,rfl⟩:=hri;simp only[H_]at hat;have hsl:=e_ (DT l k);have hsu:=e_ (KW l k hlt);generalize hacc:jI l k=acc at*;have hx:w.cell? ⟨b,o+k,none⟩=some (.string l[k]):=hat.head;generalize l[k]=x at*;clear hacc hat hd;have q0:wr.cell? ⟨b,o+k,none⟩=some (.string x):=(hb.cell (p:=⟨b,o+k,none⟩) hbb).trans hx;have hk1:(k:Int)<l.length:=by omega
   have hk0:(0:Int)≤(k:Int):=by omega
   have hal:acc.length≤1048576:=by have:=hsl.out;have:=hn'.out;omega
   have hbr:b<wr.heap.size:=o_ hbb hb.size;have hac:acc.length≤c1:=by
    obtain⟨A',c',e1,e2,_⟩:=ho.sl.au;injection e1 with _ _ e1
    omega
   go_wp2_with fail
   go_loopw [5] (fun av w2=>∃(j n:Nat),j≤acc.length∧av= .int .i64 j∧wV acc x=wV (acc.drop j) x+j∧w2=wr.drewN n) (fun av _=>acc.length - (intOf av).toNat)
   case atStart=>exact⟨0,0,by omega,rfl,by simp,rfl⟩
   case round=>
    obtain⟨j,n,hj,rfl,hpos,hw2⟩:=hrel;subst hw2;have hpos':=e_ hpos;clear hpos;have hj0:(0:Int)≤(j:Int):=by omega
    by_cases hjl:j<acc.length
    ·have hj1:(j:Int)<acc.length:=by omega
     have hda:(acc.map ls)[j]? =some (ls acc[j]):=by rw[t_,c_ hjl];rfl
     obtain⟨b2,o2,fi2,ci2,hbo,hbb2,hbf2,hri2,hfi2,hat2⟩:=ho.sl.elem gZ hda;obtain⟨rfl,rfl⟩:=hri2;injection hbo with hbo
     injection hbo with hb1 hb2 _
     subst hb1 hb2;simp only[H_,S_]at hat2;have q1:wr.cell? ⟨g,j,none⟩=some (.string acc[j]):=hat2.head;clear hat2 hda;generalize hy:acc[j]=y at*;have hy':=e_ hy;clear hy;have h1:∀W:World,(P_ 39 (.slice (some ⟨g,0,none⟩) acc.length c1) none (some (.int .i64 (j:Int))) none).run Tryz.prog W= .ok (.slice (some ⟨g,0,none⟩) j c1) W:=vI.UF j hj hac;obtain⟨A2,h2',h2s⟩:=vI.UE (A:=some ⟨g,0,none⟩) j hj hac;have h2:∀W:World,(P_ 39 (.slice (some ⟨g,0,none⟩) acc.length c1) (some (.int .i64 (j:Int))) none none).run Tryz.prog W= .ok (.slice A2 (acc.length - j) (c1 - j)) W:=h2';obtain⟨fd,hSd,_⟩:=h2s wr _ _ gZ ho.sl;rw[← a_b]at hSd;clear h2' h2s;cases e2:Op.bytesLess y.toList x.toList with
     | true=>
       have hst:=e_ (show wV acc x=wV (acc.drop (j+1)) x+(j+1) by
        have h1:=hpos'.out;rw[u_ hjl,wV,hy'.out,ltS,e2,if_pos rfl]at h1;omega)
       go_wp2_with fail
       go_quiet (fail)
       go_wp2_with fail
       go_roundw
       case rel=>exact⟨j+1,_,by omega,by go_num,hst.out,by first|rfl|rw[World.drewN_drewN]⟩
       case measure=>(simp[intOf]<;>omega)
     | false=>
       have hst:=e_ (show wV acc x=j by
        have h1:=hpos'.out;rw[u_ hjl,wV,hy'.out,ltS,e2,if_neg (by simp)]at h1;omega)
       cases e3:(y.toList==x.toList)with
       | true=>
         have heq:=e_ (show rG acc x=acc by
          have hyx:y=x:=oq (by simpa using e3);unfold rG EF;rw[hst.out,c_ hjl,hy'.out,hyx,if_pos rfl])
         go_wp2_with fail
         go_quiet (fail)
         go_wp2_with fail
         go_quiet (fail)
         go_wp2_with fail
         go_roundw
         case rel=>exact⟨k+1,g,c1,by omega,by go_num,by rw[hsu.out,heq.out],by rw[hsu.out,heq.out];exact ho.below (iK (g_ _ _) _),iK hb _⟩
         case measure=>(simp[intOf]<;>omega)
       | false=>
         have heq:=e_ (show rG acc x=acc.take j++ [x]++acc.drop j by
          have hyx:¬y=x:=fun e=>by simp[e]at e3
          unfold rG EF;rw[hst.out,c_ hjl,hy'.out,if_neg (by simpa using hyx)])
         go_wp2_with fail
         go_quiet (fail)
         go_wp2_with fail
         go_quiet (fail)
         go_wp2_with (at_builtin;refine lG rfl vI (.tmp 46) (.tmp 49) rfl wr.heap.size _ (by rfl) [] [] (by first|exact(dQ.lit rfl (b_ _)).drewN _|exact dQ.lit rfl (b_ _)) ((acc.drop j).map ls) [] _ (by rfl) (Src.of_flat (hSd.below (by first|exact iK ((g_ _ _).alloc (b_ _) _) _|exact(g_ _ _).alloc (b_ _) _)) wK) pq gZ lq qx (by simp;try omega) (by simp) ?_;intro v1 w1 ho1 hg1 hat1;have L1:Below wr.heap.size wr w1:=iy (by first|exact iK ((g_ _ _).alloc (b_ _) _) _|exact(g_ _ _).alloc (b_ _) _) hg1 (by simp) (fun g' h=>by have h:=q_ h;try dsimp only at h;omega);clear hg1 hat1)
         have hot:dQ w1 w.heap.size 9 1 ((acc.take j).map ls) [] (.slice (some ⟨g,0,none⟩) j c1):=by rw[I_];exact(ho.below L1).trunc gZ (by rw[d_];exact hj)
         have q2:w1.cell? ⟨b,o+k,none⟩=some (.string x):=(L1.cell (p:=⟨b,o+k,none⟩) hbr).trans q0;have hgl:=(ho.ge g rfl)
         have tok1:True:=trivial
         go_region_held3 (fun w'=>w'.cell? ⟨b,o+k,none⟩=some (.string x)) (go_keep)
          (first
          |(refine nM rfl vI (.tmp 59) (.tmp 60) rfl w.heap.size _ (by rfl) _ [] ho3 ((acc.drop j).map ls) [] _ (by rfl) (Src.of_flat hS4 wK) pq gZ lq qx (by simp;try omega) Z3 ?_;intro v3 w3 ho4 hg3 hat3;have q4:w3.cell? ⟨b,o+k,none⟩=some (.string x):=(hg3.cell_far _ (o_ hbr Z4) (fun e=>a_c _ (o_ hbb (ho3.ge _ e.symm).1))).trans q3)
          |(have _t:=tok1;refine nM rfl vI (.tmp 53) (.tmp 58) rfl w.heap.size _ (by rfl) _ [] (hot.below ((g_ _ _).alloc (b_ _) _).drew) ([x].map ls) [] _ (by rfl) (Src.one (Row.drew (Row.Jy rfl)) ⟨rfl,rfl⟩) pq gZ lq qx (by simp;try omega) (by have:=hb.size;have:=L1.size;simp;omega) ?_;intro v2 w2 ho3 hg2 hat2;have hS4:Sl w2 ((acc.drop j).map ls) _ v1:=R.grown (ho1.sl.below ((g_ _ _).alloc (b_ _) _).drew) hg2 (fun g' e hm=>by have e1:=q_ e;dsimp only at e1;subst e1;have:=(ho1.ge g (Option.mem_toList.1 (by simpa using hm))).1;omega);have Z4:wr.heap.size≤w2.heap.size:=w_ L1.size (w_ (by simp) hg2.size);have Z3:w.heap.size≤w2.heap.size:=w_ hb.size Z4;have L2:Below w.heap.size w w2:=iy (((hb.trans (L1.mono hb.size)).alloc (w_ hb.size L1.size) _).drew) hg2 (by have:=hb.size;have:=L1.size;simp;omega) (fun g' h=>by have h:=q_ h;dsimp only at h;omega);have q3:w2.cell? ⟨b,o+k,none⟩=some (.string x):=(L2.cell (p:=⟨b,o+k,none⟩) hbb).trans hx;clear tok1))
         rw[← j_,← j_,← heq.out,← hsu.out]at ho4;have hlen:0<(jI l (k+1)).length:=by rw[hsu.out,heq.out];simp;try omega
         obtain⟨g5,c5,hv5⟩:=ho4.Dv (by rw[d_];exact hlen);rw[d_]at hv5;subst hv5;have L3:Below w.heap.size w w3:=iy L2 hg3 Z3 (fun g' h=>(ho3.ge g' h).1);clear hg3 hg2 hat3 hat2
         go_wp2_with fail
         go_roundw
         case rel=>exact⟨k+1,g5,c5,by omega,by go_num,rfl,ho4,L3⟩
         case measure=>(simp[intOf]<;>omega)
    ·have hj2:decide (j<acc.length)=false:=by simpa using hjl
     have hjn:¬(j:Int)<acc.length:=by omega
     have hst:=e_ (show wV acc x=j by
      have h1:=hpos'.out;rw[C_ (by omega),wV]at h1;omega)
     have heq:=e_ (show rG acc x=acc.take j++ [x]++acc.drop j by
      unfold rG EF;rw[hst.out,List.getElem?_eq_none (by omega),if_neg (by simp)])
     have h1:∀W:World,(P_ 39 (.slice (some ⟨g,0,none⟩) acc.length c1) none (some (.int .i64 (j:Int))) none).run Tryz.prog W= .ok (.slice (some ⟨g,0,none⟩) j c1) W:=vI.UF j hj hac;obtain⟨A2,h2',h2s⟩:=vI.UE (A:=some ⟨g,0,none⟩) j hj hac;have h2:∀W:World,(P_ 39 (.slice (some ⟨g,0,none⟩) acc.length c1) (some (.int .i64 (j:Int))) none none).run Tryz.prog W= .ok (.slice A2 (acc.length - j) (c1 - j)) W:=h2';obtain⟨fd,hSd,_⟩:=h2s wr _ _ gZ ho.sl;rw[← a_b]at hSd;clear h2' h2s;clear hjl
     go_wp2_with fail
     go_quiet (fail)
     go_wp2_with fail
     go_quiet (fail)
     go_wp2_with (at_builtin;refine lG rfl vI (.tmp 46) (.tmp 49) rfl wr.heap.size _ (by rfl) [] [] (by first|exact(dQ.lit rfl (b_ _)).drewN _|exact dQ.lit rfl (b_ _)) ((acc.drop j).map ls) [] _ (by rfl) (Src.of_flat (hSd.below (by first|exact iK ((g_ _ _).alloc (b_ _) _) _|exact(g_ _ _).alloc (b_ _) _)) wK) pq gZ lq qx (by simp;try omega) (by simp) ?_;intro v1 w1 ho1 hg1 hat1;have L1:Below wr.heap.size wr w1:=iy (by first|exact iK ((g_ _ _).alloc (b_ _) _) _|exact(g_ _ _).alloc (b_ _) _) hg1 (by simp) (fun g' h=>by have h:=q_ h;try dsimp only at h;omega);clear hg1 hat1)
     have hot:dQ w1 w.heap.size 9 1 ((acc.take j).map ls) [] (.slice (some ⟨g,0,none⟩) j c1):=by rw[I_];exact(ho.below L1).trunc gZ (by rw[d_];exact hj)
     have q2:w1.cell? ⟨b,o+k,none⟩=some (.string x):=(L1.cell (p:=⟨b,o+k,none⟩) hbr).trans q0;have hgl:=(ho.ge g rfl)
     have tok1:True:=trivial
     go_region_held3 (fun w'=>w'.cell? ⟨b,o+k,none⟩=some (.string x)) (go_keep)
      (first
      |(refine nM rfl vI (.tmp 59) (.tmp 60) rfl w.heap.size _ (by rfl) _ [] ho3 ((acc.drop j).map ls) [] _ (by rfl) (Src.of_flat hS4 wK) pq gZ lq qx (by simp;try omega) Z3 ?_;intro v3 w3 ho4 hg3 hat3;have q4:w3.cell? ⟨b,o+k,none⟩=some (.string x):=(hg3.cell_far _ (o_ hbr Z4) (fun e=>a_c _ (o_ hbb (ho3.ge _ e.symm).1))).trans q3)
      |(have _t:=tok1;refine nM rfl vI (.tmp 53) (.tmp 58) rfl w.heap.size _ (by rfl) _ [] (hot.below ((g_ _ _).alloc (b_ _) _).drew) ([x].map ls) [] _ (by rfl) (Src.one (Row.drew (Row.Jy rfl)) ⟨rfl,rfl⟩) pq gZ lq qx (by simp;try omega) (by have:=hb.size;have:=L1.size;simp;omega) ?_;intro v2 w2 ho3 hg2 hat2;have hS4:Sl w2 ((acc.drop j).map ls) _ v1:=R.grown (ho1.sl.below ((g_ _ _).alloc (b_ _) _).drew) hg2 (fun g' e hm=>by have e1:=q_ e;dsimp only at e1;subst e1;have:=(ho1.ge g (Option.mem_toList.1 (by simpa using hm))).1;omega);have Z4:wr.heap.size≤w2.heap.size:=w_ L1.size (w_ (by simp) hg2.size);have Z3:w.heap.size≤w2.heap.size:=w_ hb.size Z4;have L2:Below w.heap.size w w2:=iy (((hb.trans (L1.mono hb.size)).alloc (w_ hb.size L1.size) _).drew) hg2 (by have:=hb.size;have:=L1.size;simp;omega) (fun g' h=>by have h:=q_ h;dsimp only at h;omega);have q3:w2.cell? ⟨b,o+k,none⟩=some (.string x):=(L2.cell (p:=⟨b,o+k,none⟩) hbb).trans hx;clear tok1))
     rw[← j_,← j_,← heq.out,← hsu.out]at ho4;have hlen:0<(jI l (k+1)).length:=by rw[hsu.out,heq.out];simp;try omega
     obtain⟨g5,c5,hv5⟩:=ho4.Dv (by rw[d_];exact hlen);rw[d_]at hv5;subst hv5;have L3:Below w.heap.size w w3:=iy L2 hg3 Z3 (fun g' h=>(ho3.ge g' h).1);clear hg3 hg2 hat3 hat2
     go_wp2_with fail
     go_roundw
     case rel=>exact⟨k+1,g5,c5,by omega,by go_num,rfl,ho4,L3⟩
     case measure=>(simp[intOf]<;>omega)
  ·have hf:=e_ (show k=l.length by omega)
   go_wp2_with fail
   go_ret
   have e:=hf.out;clear hf;subst e;exact⟨_,_,rfl,ho,hb⟩
def toB(x:List UInt8):ByteArray:=⟨x.toArray⟩
def ofB(s:ByteArray):List UInt8:=s.data.toList
theorem yM(s:ByteArray):toB (ofB s)=s:=by cases s;simp[toB,ofB]
theorem QD(x:List UInt8):ofB (toB x)=x:=by simp[toB,ofB]
def uK(l:List ByteArray):List ByteArray:=((l.map ofB).mergeSort fun x y=>decide (x≤y)).map toB
theorem SB(l:List ByteArray):(uK l).length=l.length:=by simp[uK]
theorem Dx{w:World}:∀{l:List ByteArray} {fp:List Nat} {cs:List Value},Rs w (l.map ls) fp cs↔fp= []∧cs=l.map z_
 | [],fp,cs=>by rw[m_,Rs];rfl
 | x::l,fp,cs=>by
   rw[h_,Rs];constructor
   ·rintro⟨f1,f2,c1,c2,rfl,rfl,⟨rfl,rfl⟩,h2⟩;obtain⟨rfl,rfl⟩:=Dx.1 h2;exact⟨rfl,rfl⟩
   ·rintro⟨rfl,rfl⟩;exact⟨[],[],[.string x],l.map z_,rfl,rfl,⟨rfl,rfl⟩,Dx.2 ⟨rfl,rfl⟩⟩
theorem aax(s:ByteArray):encStr (ofB s)= .string s:=by show z_ (toB (ofB s))=_;rw[yM]
theorem Ci(l:List ByteArray)(g c base:Nat)(w:World)(h:dQ w base 9 1 (l.map ls) [] (.slice (some ⟨g,0,none⟩) l.length c))(hn:l.length≤4194304):
 Calls Tryz.prog 99 #[.slice (some ⟨g,0,none⟩) l.length c] w fun e w'=>e= .returned (.tuple #[])∧dQ w' base 9 1 ((uK l).map ls) [] (.slice (some ⟨g,0,none⟩) l.length c)∧w.grownBy w' (some g):=by
 obtain⟨cs,⟨h1,h2⟩,h3,h4,h5⟩:=h;obtain⟨_,rfl⟩:=Dx.1 h3;rw[d_]at h1 h2;rcases h2 with⟨h6,_⟩|⟨g',cap,cur,h6,h7,h8,h9,h10,h11,h12⟩
 ·injection h6 with h6
  cases h6
 ·injection h6 with h61 _ h63
  injection h61 with h61
  injection h61 with h61
  subst h61 h63;have hg:g<w.heap.size:=(Array.getElem?_eq_some_iff.1 h8).1;have hH:Go.Sort.Holds encStr w g 0 (l.map ofB).toArray:=by
   intro j hj;have hj':j<l.length:=by simpa using hj
   have hc:cur[j]? =some (.string l[j]):=by
    have e:(cur.toList.take (l.length*1))[j]? =(l.map z_)[j]? :=by rw[h12]
    rw[List.getElem?_take_of_lt (by omega),Array.getElem?_toList,t_,c_ hj']at e;exact e
   refine⟨?_,by simp[World.frozen?,h8]⟩;have e2:encStr (l.map ofB).toArray[j]! = .string l[j]:=by
    rw[getElem!_pos _ j hj];simp only[List.getElem_toArray,J_];exact aax _
   rw[e2];simpa[World.cell?,h8]using hc
  have hc:=Tryz.sort_Strings g 0 c (l.map ofB) w hH hg (by rw[d_];omega);rw[d_]at hc;refine hc.mono ?_;rintro e w' ⟨rfl,n,os,rfl⟩;have hlen:((l.map ofB).mergeSort fun x y=>decide (x≤y)).length=(l.map ofB).length:=by simp
  have ho:=ownsRow_sorted (w:=w) (n:=n) (os:=os) (base:=base) (e:=9) hlen h7 h8 (by rw[d_];exact h9) h10 h11;rw[d_]at ho;refine⟨rfl,⟨_, ?_,Dx.2 ⟨rfl,rfl⟩,aV.nil,fun _ _=>by simp⟩,grownBy_sorted _⟩;rw[d_,SB];have e3:((l.map ofB).mergeSort fun x y=>decide (x≤y)).map encStr=(uK l).map z_:=by
   unfold uK;rw[List.map_map];rfl
  rw[e3]at ho;exact ho
def cu(l:List ByteArray):Nat→List ByteArray
 |0=> []
 |k+1=>cu l k++(match l[k]? with|some x=>if Aw l x=(k:Int)then [x]else []|none=> [])
theorem tq(l:List ByteArray):∀k,(cu l k).length≤k
 |0=>b_ _
 | k+1=>by
   have:=tq l k;rw[cu,a_];split
   ·split<;>simp<;>omega
   ·simp;omega
theorem GL(l:List ByteArray)(k:Nat)(h:k<l.length):cu l (k+1)=cu l k++(if Aw l l[k]=(k:Int)then [l[k]]else []):=by rw[cu,c_ h]
theorem Cj(l:List ByteArray)(fp:List Nat)(v:Value)(w:World)(hS:Sl w (l.map ls) fp v)(hn:l.length≤1048576):Calls Tryz.prog 85 #[v] w (tY (uK (cu l l.length)) w):=by
 obtain⟨A,c,rfl,hl,hc⟩:=hS.au;have hm:l.length≤9223372036854775807:=by omega
 have hn':=e_ hn;clear hl hc hn
 go_enter Tryz.func85,Tryz.ntmps85
 go_wp2_with fail
 go_loopw [3,9] (fun nv iv wr=>∃(k g c1:Nat),k≤l.length∧iv= .int .i64 k∧nv= .slice (some ⟨g,0,none⟩) (cu l k).length c1∧dQ wr w.heap.size 9 1 ((cu l k).map ls) [] nv∧Below w.heap.size w wr) (fun _ iv _=>l.length - (intOf iv).toNat)
 case atStart=>exact⟨0,_,_,by omega,rfl,rfl,dQ.lit rfl (b_ _),(g_ _ _).alloc (b_ _) _⟩
 case round=>
  obtain⟨k,g,c1,hk,rfl,rfl,ho,hb⟩:=hrel;by_cases hlt:k<l.length
  ·have hd:(l.map ls)[k]? =some (ls l[k]):=by rw[t_,c_ hlt];rfl
   obtain⟨b,o,fi,ci,rfl,hbb,hbf,hri,hfi,hat⟩:=hS.elem gZ hd;obtain⟨rfl,rfl⟩:=hri;simp only[H_]at hat;have q0:wr.cell? ⟨b,o+k,none⟩=some (.string l[k]):=(hb.cell (p:=⟨b,o+k,none⟩) hbb).trans hat.head;have hsu:=e_ (GL l k hlt);have hfl:=e_ (tq l k);have hI:=fun W h=>y7 l l[k] fp _ W (hS.below (w':=W) h)
   clear hat hd;cases e1:(Aw l l[k]==(k:Int))with
   | false=>
     have e2:=e_ (show cu l (k+1)=cu l k by rw[hsu.out,if_neg (by simpa using e1),N_])
     go_wp2_with (go_at_call 98;refine(hI _ hb).mono ?_;rintro e w' ⟨rfl,rfl⟩)
     go_roundw
     case rel=>exact⟨k+1,g,c1,by omega,by go_num,by rw[e2.out],by rw[e2.out];exact ho,hb⟩
     case measure=>(simp[intOf]<;>omega)
   | true=>
     have e2:=e_ (show cu l (k+1)=cu l k++ [l[k]] by rw[hsu.out,if_pos (by simpa using e1)])
     go_wp2_with (first
      |(go_at_call 98;refine(hI _ hb).mono ?_;rintro e w' ⟨rfl,rfl⟩)
      |(at_builtin;refine lG rfl vI (.tmp 19) (.tmp 21) rfl w.heap.size _ (by rfl) _ [] (ho.below ((g_ _ _).alloc (b_ _) _)) ([l[k]].map ls) [] _ (by rfl) (Src.one (Row.Jy rfl) ⟨rfl,rfl⟩) pq gZ lq qx (by have:=hfl.out;have:=hn'.out;simp;omega) (by have:=hb.size;simp;omega) ?_;intro v1 w1 ho1 hg1 hat1))
     rw[← j_,← e2.out]at ho1;have hlen:0<(cu l (k+1)).length:=by rw[e2.out];simp
     obtain⟨g5,c5,hv5⟩:=ho1.Dv (by rw[d_];exact hlen);rw[d_]at hv5;subst hv5;have L3:Below w.heap.size w w1:=iy (hb.alloc hb.size _) hg1 (by have:=hb.size;simp;omega) (fun g' h=>(ho.ge g' h).1)
     go_roundw
     case rel=>exact⟨k+1,g5,c5,by omega,by go_num,rfl,ho1,L3⟩
     case measure=>(simp[intOf]<;>omega)
  ·have hf:=e_ (show k=l.length by omega);have hfl:=tq l k;have hs:=Ci (cu l k) g c1 w.heap.size wr ho (by have:=hn'.out;omega);clear hfl
   go_wp2_with (go_at_call 99;refine hs.mono ?_;rintro e w2 ⟨rfl,ho2,hg2⟩)
   have L2:Below w.heap.size w w2:=iy (v:= .slice (some ⟨g,0,none⟩) 0 0) hb hg2 hb.size (fun g' h=>by have h:=q_ h;subst h;exact(ho.ge g rfl).1)
   go_ret
   have e:=hf.out;clear hf;subst e;exact⟨_,_,rfl,ho2,L2⟩
def LtB(a b:ByteArray):Prop:=ofB a<ofB b
theorem QK{a b:ByteArray}:ltS a b=true↔LtB a b:=by
 unfold ltS LtB ofB;rw[bytesLess_eq,decide_eq_true_eq,ByteArray.toList_eq,ByteArray.toList_eq]
theorem QE{a b:ByteArray}(h:ofB a=ofB b):a=b:=by rw[← yM a,← yM b,h]
theorem LtB.irrefl{a:ByteArray}:¬LtB a a:=List.lt_irrefl _
theorem LtB.trans{a b c:ByteArray}(h:LtB a b)(k:LtB b c):LtB a c:=List.lt_trans h k
theorem LtB.tri{a b:ByteArray}(h:¬LtB a b)(k:a≠b):LtB b a:=by
 unfold LtB at*;rcases Std.lt_trichotomy (ofB a) (ofB b)with h1|h1|h1
 ·exact absurd h1 h
 ·exact absurd (QE h1) k
 ·exact h1
theorem MC(x:ByteArray):rG [] x= [x]:=by simp[rG,EF,wV]
theorem Ib(y:ByteArray)(r:List ByteArray)(x:ByteArray):rG (y::r) x=if ltS y x then y::rG r x else if y=x then y::r else x::y::r:=by
 unfold rG EF;rw[wV];split
 ·rw[List.getElem?_cons_succ,G_,List.drop_succ_cons];split<;>rfl
 ·rw[List.getElem?_cons_zero,List.take_zero,List.drop_zero];by_cases h:y=x
  ·rw[if_pos (by rw[h]),if_pos h]
  ·rw[if_neg (by intro e;injection e with e;exact h e),if_neg h];rfl
theorem MF{acc:List ByteArray}{x y:ByteArray}:y∈rG acc x↔y=x∨y∈acc:=by
 induction acc with
 |nil=>rw[MC];simp
 | cons z r ih=>
   rw[Ib];split
   ·rw[i_,ih,i_];exact⟨fun h=>h.elim (fun h=>x_ (n_ h)) (fun h=>h.elim n_ (fun h=>x_ (x_ h))),fun h=>h.elim (fun h=>x_ (n_ h)) (fun h=>h.elim n_ (fun h=>x_ (x_ h)))⟩
   ·split
    ·next h=>subst h;rw[i_];exact⟨fun h=>x_ h,fun h=>h.elim n_ id⟩
    ·rw[i_]
theorem MB{acc:List ByteArray}{x:ByteArray}(h:acc.Pairwise LtB):(rG acc x).Pairwise LtB:=by
 induction acc with
 |nil=>rw[MC];simp
 | cons z r ih=>
   rw[p_]at h;rw[Ib];split
   ·next hz=>
    rw[p_];refine⟨fun y hy=> ?_,ih h.2⟩;rcases MF.1 hy with rfl|hy
    ·exact QK.1 hz
    ·exact h.1 y hy
   ·next hz=>
    split
    ·exact p_.2 h
    ·next hne=>
     have hx:LtB x z:=LtB.tri (fun e=>hz (QK.2 e)) hne;refine p_.2 ⟨fun y hy=> ?_,p_.2 h⟩;rcases i_.1 hy with rfl|hy
     ·exact hx
     ·exact hx.trans (h.1 y hy)
theorem WM{l acc:List ByteArray}{y:ByteArray}:y∈l.foldl rG acc↔y∈acc∨y∈l:=by
 induction l generalizing acc with
 |nil=>simp
 | cons x l ih=>
   rw[M_,ih,MF,i_];exact⟨fun h=>h.elim (fun h=>h.elim (fun h=>x_ (n_ h)) n_) (fun h=>x_ (x_ h)),fun h=>h.elim (fun h=>n_ (x_ h)) (fun h=>h.elim (fun h=>n_ (n_ h)) x_)⟩
theorem Nq{l acc:List ByteArray}(h:acc.Pairwise LtB):(l.foldl rG acc).Pairwise LtB:=by
 induction l generalizing acc with
 |nil=>exact h
 |cons x l ih=>rw[M_];exact ih (MB h)
theorem Hr :∀{a b:List ByteArray},a.Pairwise LtB→b.Pairwise LtB→(∀y,y∈a↔y∈b)→a=b
 | [],[],_,_,_=>rfl
 | [],y::b,_,_,h=>absurd ((h y).2 (by simp)) (by simp)
 |x::a,[],_,_,h=>absurd ((h x).1 (by simp)) (by simp)
 | x ::a,y::b,ha,hb,h=>by
   rw[p_]at ha hb;have hxy:x=y:=by
    rcases i_.1 ((h x).1 (by simp))with e|e
    ·exact e
    ·rcases i_.1 ((h y).2 (by simp))with e'|e'
     ·exact e'.symm
     ·exact absurd ((ha.1 y e').trans (hb.1 x e)) LtB.irrefl
   subst hxy;have:a=b:=Hr ha.2 hb.2 fun z=>by
    constructor
    ·intro hz;rcases i_.1 ((h z).1 (by simp[hz]))with e|e
     ·subst e;exact absurd (ha.1 z hz) LtB.irrefl
     ·exact e
    ·intro hz;rcases i_.1 ((h z).2 (by simp[hz]))with e|e
     ·subst e;exact absurd (hb.1 z hz) LtB.irrefl
     ·exact e
   rw[this]
theorem xw{s:ByteArray}:∀(l:List ByteArray) (k:Nat),s∈l→∃i,i<l.length∧jG l s k=((k+i:Nat):Int)∧l[i]? =some s
 | [],_,h=>by simp at h
 | x ::l,k,h=>by
   rw[jG];by_cases e:x=s
   ·rw[if_pos e];exact⟨0,by simp,by simp,by simp[e]⟩
   ·rw[if_neg e];rcases i_.1 h with h|h
    ·exact absurd h.symm e
    ·obtain⟨i,h1,h2,h3⟩:=xw l (k+1) h;exact⟨i+1,by simp;omega,by rw[h2];congr 1;omega,by simpa using h3⟩
theorem yx{l:List ByteArray}{y:ByteArray}:∀{k:Nat},y∈cu l k→y∈l∧∃i,i<k∧Aw l y=(i:Int)
 |0,h=>by simp[cu]at h
 | k +1,h=>by
   rw[cu,O_]at h;rcases h with h|h
   ·obtain⟨h1,i,h2,h3⟩:=yx h;exact⟨h1,i,by omega,h3⟩
   ·split at h
    ·next x hx=>
     split at h
     ·next e=>
      rw[T_]at h;subst h;exact⟨List.mem_of_getElem? hx,k,by omega,e⟩
     ·simp at h
    ·simp at h
theorem oN(l:List ByteArray):∀k,(cu l k).Nodup
 |0=>List.nodup_nil
 | k +1=>by
   rw[cu];split
   ·next x hx=>
    split
    ·next e=>
     refine List.nodup_append.2 ⟨oN l k,by simp,fun a ha b hb e2=> ?_⟩;rw[T_]at hb;subst hb e2;obtain⟨_,i,h1,h2⟩:=yx ha;rw[h2]at e;omega
    ·rw[N_];exact oN l k
   ·rw[N_];exact oN l k
theorem BN{l:List ByteArray}{y:ByteArray}{k:Nat}(h:y∈cu l k):∀n,y∈cu l (k+n)
 |0=>h
 |n+1=>by rw[← k_,cu,O_];exact n_ (BN h n)
theorem O9{l:List ByteArray}{y:ByteArray}(h:y∈l):y∈cu l l.length:=by
 obtain⟨i,h1,h2,h3⟩:=xw l 0 h;rw[S_]at h2;have h4:y∈cu l (i+1):=by
  rw[cu,h3,O_];refine x_ ?_;show y∈if Aw l y=(i:Int)then [y]else []
  rw[if_pos (show Aw l y=(i:Int) from h2)];simp
 have:=BN h4 (l.length - (i+1));rwa[show i+1+(l.length - (i+1))=l.length by omega]at this
theorem SA{l:List ByteArray}{y:ByteArray}:y∈uK l↔y∈l:=by
 unfold uK;rw[a_e];constructor
 ·rintro⟨x,hx,rfl⟩;rw[U_,a_e]at hx;obtain⟨z,hz,rfl⟩:=hx;rwa[yM]
 ·intro h;exact⟨ofB y,by rw[U_];exact R_ h,yM y⟩
theorem Jh{l:List ByteArray}(h:l.Nodup):(uK l).Pairwise LtB:=by
 unfold uK;rw[List.pairwise_map];have h1:=List.pairwise_mergeSort (le:=fun x y:List UInt8=>decide (x≤y)) (fun a b c h1 h2=>by
  rw[decide_eq_true_eq]at*;exact List.le_trans h1 h2) (fun a b=>by
  rcases List.le_total a b with h|h<;>simp[h]) (l.map ofB)
 have h2:((l.map ofB).mergeSort fun x y=>decide (x≤y)).Nodup:=by
  refine(List.mergeSort_perm _ _).nodup_iff.2 ?_;exact List.Pairwise.map _ (fun a b hab e=>hab (QE e)) h
 refine(h1.and h2).imp fun{a b} hab=> ?_
 unfold LtB;rw[QD,QD];obtain⟨h3,h4⟩:=hab;rw[decide_eq_true_eq]at h3;rcases Std.lt_trichotomy a b with h5|h5|h5
 ·exact h5
 ·exact absurd h5 h4
 ·exact absurd h5 (List.not_lt.2 h3)
theorem UH(l:List ByteArray):uK (cu l l.length)=jI l l.length:=by
 refine Hr (Jh (oN _ _)) ?_ fun y=> ?_
 ·unfold jI;exact Nq List.Pairwise.nil
 ·unfold jI;rw[SA,WM,K_];exact⟨fun h=>x_ (yx h).1,fun h=>O9 (h.elim (fun h=>by simp at h) id)⟩
def yQ(l:List ByteArray):List ByteArray:=jI l l.length
theorem Ht(l:List ByteArray):(yQ l).length≤l.length:=DT l l.length
theorem xM(l:List ByteArray)(fp:List Nat)(v:Value)(w:World)(hS:Sl w (l.map ls) fp v)(hn:l.length≤1048576):Calls Tryz.prog 85 #[v] w (tY (yQ l) w):=by
 have h:=Cj l fp v w hS hn;rwa[UH]at h
end
section
open List renaming length_append→a_,getElem?_eq_getElem→c_,length_map→d_,append_assoc→f_,map_cons→h_,mem_cons→i_,map_append→j_,length_cons→l_,map_nil→m_,pairwise_cons→p_,nil_append→r_,length_nil→s_,getElem?_map→t_,drop_eq_getElem_cons→u_,take_succ_eq_append_getElem→v_,cons_append→y_,all_cons→A_,replicate→B_,drop_eq_nil_of_le→C_,getElem_mem→F_,take_succ_cons→G_,map_take→I_,getElem_map→J_,take_length→K_,length_take→L_,foldl_cons→M_,append_nil→N_,mem_append→O_,mem_map_of_mem→R_,mem_singleton→T_,mem_mergeSort→U_,foldl_append→W_,map_drop→a_b,mem_map→a_e,length→a_g
open Nat renaming le_refl→b_,add_assoc→k_,lt_of_lt_of_le→o_,le_trans→w_,reduceAdd→D_,reduceSub→E_,mul_one→H_,zero_add→S_,lt_succ_self→Z_,lt_irrefl→a_c
open Lib renaming hid→e_
open Below renaming refl→g_
open Or renaming inl→n_,inr→x_
open Option.some renaming inj→q_
open Value renaming string→z_,int→V_
open Instr renaming slice→P_
open IntKind renaming i64→Q_
attribute [local irreducible] sw sd sn
mutual
def GExpr.free :GExpr→List ByteArray→List ByteArray
 | .mk kind n text args,b=>if(kind==3) && !rH b text then [text]else GExpr.frees args b (if kind==7 || kind==9 then b++ [text]else b)
def GExpr.frees :List GExpr→List ByteArray→List ByteArray→List ByteArray
 | [],_,_=> []
 |a::r,b0,b1=>GExpr.free a b0++GExpr.frees r b1 b1
end
def GExpr.inner(x:GExpr)(b:List ByteArray):List ByteArray:=if x.kind==7 || x.kind==9 then b++ [x.text]else b
theorem GExpr.free_eq(x:GExpr)(b:List ByteArray):x.free b=if(x.kind==3) && !rH b x.text then [x.text]else GExpr.frees x.args b (x.inner b):=by
 cases x with
 |mk kind n text args=>rw[GExpr.free];rfl
theorem lY(b0 b1:List ByteArray):GExpr.frees [] b0 b1= []:=by rw[GExpr.frees]
theorem EY(a:GExpr):∀(l:List GExpr) (b0 b1:List ByteArray),GExpr.frees (l++ [a]) b0 b1=GExpr.frees l b0 b1++a.free (if l.length=0 then b0 else b1)
 | [],b0,b1=>by rw[r_,GExpr.frees,GExpr.frees,lY];simp
 | x::l,b0,b1=>by
   rw[y_,GExpr.frees,GExpr.frees,EY a l];have h:(if l.length=0 then b1 else b1)=b1:=by split<;>rfl
   rw[h,if_neg (by simp),f_]
theorem sZ(l:List GExpr)(b0 b1:List ByteArray){i:Nat}(h:i<l.length):GExpr.frees (l.take (i+1)) b0 b1=GExpr.frees (l.take i) b0 b1++(l[i]).free (if i=0 then b0 else b1):=by
 rw[v_ h,EY,L_,Nat.min_eq_left (by omega)]
theorem GExpr.RS(x:GExpr):x.toD.wt=x.text.size+(x.args.length+D.wts (x.args.map GExpr.toD)):=by
 rw[GExpr.aj];simp[D.wt,D.wts,li,ls,mP]
mutual
theorem GExpr.iH :∀(x:GExpr) (b:List ByteArray),(x.free b).length≤1+x.toD.wt
 | .mk kind n text args,b=>by
   rw[GExpr.free,GExpr.RS];split
   ·simp
   ·have:=GExpr.rJ args b (if kind==7 || kind==9 then b++ [text]else b);simp only[GExpr.args,GExpr.text];omega
theorem GExpr.rJ :∀(l:List GExpr) (b0 b1:List ByteArray),(GExpr.frees l b0 b1).length≤l.length+D.wts (l.map GExpr.toD)
 | [],_,_=>by rw[lY];simp
 | a::r,b0,b1=>by
   rw[GExpr.frees,a_,h_,D.wts,l_];have h1:=GExpr.iH a b0;have h2:=GExpr.rJ r b1 b1;omega
end
theorem Ul(l:List D)(i:Nat):D.wts (l.take i)≤D.wts l:=by
 induction l generalizing i with
 |nil=>simp
 | cons d l ih=>
   cases i with
   |zero=>simp[D.wts]
   |succ i=>rw[G_,D.wts,D.wts];have:=ih i;omega
theorem mV(l:List GExpr)(b0 b1:List ByteArray)(i:Nat):(GExpr.frees (l.take i) b0 b1).length≤l.length+D.wts (l.map GExpr.toD):=by
 have h1:=GExpr.rJ (l.take i) b0 b1;have h2:=Ul (l.map GExpr.toD) i;rw[I_]at h1;have h3:(l.take i).length≤l.length:=by rw[L_];omega
 omega
theorem zY{x y:GExpr}(h:y∈x.args):y.toD.wt+1≤x.toD.wt:=by
 rw[GExpr.RS x];have h1:=D.l9 (R_ (f:=GExpr.toD) h);have h2:=List.length_pos_of_mem h;omega
theorem wF(x:GExpr)(b:List ByteArray):(x.inner b).length≤b.length+1:=by
 unfold GExpr.inner;split<;>simp
theorem EC(l:List ByteArray)(s:ByteArray):aB Tryz.prog 95 [.sl (l.map ls),ls s] (.c false [.raw (.bool (rH l s))]):=PS fun w vs hr=>by
 obtain⟨v,u,rfl,h1,h2⟩:=Ll hr;obtain⟨fp,hS⟩:=uQ h1;obtain rfl:=qg h2;exact OO l s fp v w hS
def QU :IC:=(zd_ [zz_ 2 (.box (.t 0)),zz_ 4 (.mov (.k (.slice none 0 0)))] (zd_ [zz_ 8 (.brow true 9 1 0 false []),zw_ 5 8] (.seq (zd_ [zt_ 9 0 2,zs_ 10 1 9,zm_ 11 .eql 10 3,zw_ 12 11,zv_ 13 12 1,zy_ 14 12 (.fad 2 (.t 2)),zy_ 15 12 (.load 1 false (.t 14)),zy_ 16 12 (.call 95 [(.t 13),(.t 15)]),zy_ 17 12 (.not (.t 16)),zh_ 18 12 17 false] (.cond (.t 18) (zd_ [zw_ 19 5,zt_ 20 2 2,zs_ 21 1 20,zz_ 22 (.brow false 9 1 1 false [(.t 21)]),zz_ 23 (.app 9 1 (.t 19) (.t 22)),zw_ 4 23] .ret) .skip)) (.seq (zd_ [zk_ 6 0] (.block 0 (.loop (.seq (zd_ [zw_ 24 6,zt_ 25 3 2,zs_ 26 1 25,zf_ 27 false 26,zl_ 28 .lss 24 27] (.cond (.t 28) .skip (.exit 0))) (.seq (.block 1 (zd_ [zw_ 31 1,zw_ 7 31] (.seq (zd_ [zt_ 32 0 2,zs_ 33 1 32,zm_ 34 .eql 33 7,zw_ 35 34,zx_ 36 35 (.fad 0 (.t 2)),zx_ 37 35 (.load 1 false (.t 36)),zx_ 38 35 (.bin .eql (.t 37) (.k (.int .i64 9))),zg_ 39 35 true 38,zw_ 40 39,zv_ 41 40 6,zy_ 42 40 (.bin .gtr (.t 41) (.k (.int .i64 0))),zh_ 43 40 42 false] (.cond (.t 43) (.reg true [zz_ 44 (.brow true 9 1 0 false []),zw_ 45 1,zz_ 46 (.app 9 1 (.t 44) (.t 45)),zt_ 47 2 2,zs_ 48 1 47,zz_ 49 (.brow false 9 1 1 false [(.t 48)]),zz_ 50 (.app 9 1 (.t 46) (.t 49)),zw_ 7 50]) .skip)) (.reg false [zw_ 51 5,zt_ 52 3 2,zs_ 53 1 52,zw_ 54 6,ze_ 55 4 53 54,zr_ 56 4 55,zw_ 57 7,zp_ 58 78 56 57,zz_ 59 (.app 9 1 (.t 51) (.t 58)),zw_ 5 59])))) (.reg false [zw_ 29 6,zm_ 30 .add 29 1,zw_ 6 30])))))) (zd_ [zw_ 60 5,zw_ 4 60] .ret)))))
theorem OX :ak Tryz.prog (Tryz.f78.body.getD .skip)=some QU:=by kernel_rfl
def zS(x:GExpr):Prop:=∀b:List ByteArray,b.length+x.toD.wt≤1048577→dU Tryz.prog 78 [x.toD,.sl (b.map ls)] ((x.free b).map ls) 9 1
theorem OQ (x:GExpr)(hI:∀y∈x.args,zS y):zS x:=by
 intro b hw;have hwl:x.args.length+D.wts (x.args.map GExpr.toD)≤1048577:=by have:=x.RS;omega
 refine jH (fn:=Tryz.f78) (t:=4) (hc:=OX) (h:= ?_);change AWP _ _ _ (st0 61 _);rw[GExpr.free_eq];unfold QU;refine zb_ ?_;refine sS trivial ?_;have hloop:(x.kind==3 && !rH b x.text)=false→True:=fun _=>trivial
 cases k3:(x.kind==3)with
 | true=>
   cases hh:rH b x.text with
   | false=>
     rw[if_pos (by simp[k3,hh])]
     repeat' (first|(refine rg_ ?_;intro K hK)|(refine hq_ ?_;clear hK K)|refine ca_ ?_ ?_|refine gq_ ?_|(refine c2_ ?_ ?_<;>(intro hb hb';try(exfalso;omega)))|(refine cg_ ?_;first|refine cT_ (EC b x.text) ?_)|refine sz_ (a3_ @GExpr.el k3 hh) ?_|refine nv ?_|exact bq_|fail)
     exact aU ⟨0,1,_,rfl,rfl,rfl,rfl,rfl,rfl,n_ rfl⟩
   | true=>
     rw[if_neg (by simp[k3,hh])]
     repeat' (first|(refine rg_ ?_;intro K hK)|(refine hq_ ?_;clear hK K)|refine ca_ ?_ ?_|refine gq_ ?_|(refine c2_ ?_ ?_<;>(intro hb hb';try(exfalso;omega)))|(refine cg_ ?_;first|refine cT_ (EC b x.text) ?_)|refine sz_ (a3_ @GExpr.el k3 hh) ?_|refine nv ?_|exact bq_|fail)
     refine dZ (X:=Nat×Nat) (fun q=> [.d,.k,.k,.d,.d,.v (.c false [.own 0 q.2]),.v (.c false [.raw (.int .i64 (q.1:Nat))])]) (fun q=> [⟨(GExpr.frees (x.args.take q.1) b (x.inner b)).map ls,9,1,q.2,true⟩]) (fun q bs=>bs) (fun q=>q.1≤x.args.length) (fun q=>x.args.length - q.1) (0,0) (by simp) ?_ ?_
     ·simp[bU,dW,bH,bK,AV.fits,AC.fits,FB,bQ,lY,GExpr.frees]
     rintro⟨i,v⟩ hi;have hi':i≤x.args.length:=hi;clear hi;simp only[FB,bQ];by_cases hlt:i<x.args.length
     ·have ht:decide ((i:Int)<(x.args.length:Int))=true:=by simp;omega
      have hw1:IntKind.i64.wrap ((i:Int)+1)=((i+1:Nat):Int):=yL (by omega);have hix:=Dt GExpr.toD x.args hlt;have hmem:x.args[i]∈x.args:=F_ hlt;have hwm:=zY hmem;have hfl:=mV x.args b (x.inner b) i;have hft:=sZ x.args b (x.inner b) hlt;have hil:=wF x b;by_cases hi0:i=0
      ·have g:decide ((i:Int) > 0)=false:=by simp;omega
       cases k7:(x.kind==7)with
       | true=>
         have hfa:=GExpr.iH x.args[i] (b);have hbl:(b).length≤b.length+1:=by simp
         have hfree:GExpr.frees (x.args.take (i+1)) b (x.inner b)=GExpr.frees (x.args.take i) b (x.inner b)++(x.args[i]).free (b):=by rw[hft];simp[GExpr.inner,hi0]
         have hI1:=hI x.args[i] hmem (b) (by omega)
         repeat' (first|(refine hq_ ?_;clear hK K)|refine ca_ ?_ ?_|refine gq_ ?_|(refine c2_ ?_ ?_<;>(intro hb hb';try(exfalso;omega)))|(refine cg_ ?_;first|(refine bP hI1 (bC _) ?_ ?_))|refine sz_ (a6_ @GExpr.el ht hw1 hix k7 g) ?_|refine nv ?_|(refine rD ?_;intro K hK)|exact bq_|fail)
         refine dB (i+1,v+1) ?_ ?_ ?_
         ·simp[bU,dW,bH,bK,AV.fits,AC.fits,FB,bQ,hfree]
         ·show i+1≤x.args.length;omega
         ·show x.args.length - (i+1)<x.args.length - i;omega
       | false=>
         cases k9:(x.kind==9)with
         | true=>
           have hfa:=GExpr.iH x.args[i] (b);have hbl:(b).length≤b.length+1:=by simp
           have hfree:GExpr.frees (x.args.take (i+1)) b (x.inner b)=GExpr.frees (x.args.take i) b (x.inner b)++(x.args[i]).free (b):=by rw[hft];simp[GExpr.inner,hi0]
           have hI1:=hI x.args[i] hmem (b) (by omega)
           repeat' (first|(refine hq_ ?_;clear hK K)|refine ca_ ?_ ?_|refine gq_ ?_|(refine c2_ ?_ ?_<;>(intro hb hb';try(exfalso;omega)))|(refine cg_ ?_;first|(refine bP hI1 (bC _) ?_ ?_))|refine sz_ (a7_ @GExpr.el ht hw1 hix k7 k9 g) ?_|refine nv ?_|(refine rD ?_;intro K hK)|exact bq_|fail)
           refine dB (i+1,v+1) ?_ ?_ ?_
           ·simp[bU,dW,bH,bK,AV.fits,AC.fits,FB,bQ,hfree]
           ·show i+1≤x.args.length;omega
           ·show x.args.length - (i+1)<x.args.length - i;omega
         | false=>
           have hfa:=GExpr.iH x.args[i] (b);have hbl:(b).length≤b.length+1:=by simp
           have hfree:GExpr.frees (x.args.take (i+1)) b (x.inner b)=GExpr.frees (x.args.take i) b (x.inner b)++(x.args[i]).free (b):=by rw[hft];simp[GExpr.inner,hi0]
           have hI1:=hI x.args[i] hmem (b) (by omega)
           repeat' (first|(refine hq_ ?_;clear hK K)|refine ca_ ?_ ?_|refine gq_ ?_|(refine c2_ ?_ ?_<;>(intro hb hb';try(exfalso;omega)))|(refine cg_ ?_;first|(refine bP hI1 (bC _) ?_ ?_))|refine sz_ (a6_ @GExpr.el ht hw1 hix k7 k9) ?_|refine nv ?_|(refine rD ?_;intro K hK)|exact bq_|fail)
           refine dB (i+1,v+1) ?_ ?_ ?_
           ·simp[bU,dW,bH,bK,AV.fits,AC.fits,FB,bQ,hfree]
           ·show i+1≤x.args.length;omega
           ·show x.args.length - (i+1)<x.args.length - i;omega
      ·have g:decide ((i:Int) > 0)=true:=by simp;omega
       cases k7:(x.kind==7)with
       | true=>
         have hfa:=GExpr.iH x.args[i] (b++ [x.text]);have hbl:(b++ [x.text]).length≤b.length+1:=by simp
         have hfree:GExpr.frees (x.args.take (i+1)) b (x.inner b)=GExpr.frees (x.args.take i) b (x.inner b)++(x.args[i]).free (b++ [x.text]):=by rw[hft];simp[GExpr.inner,hi0,k7]
         have hI1:=hI x.args[i] hmem (b++ [x.text]) (by omega);simp only[j_,h_,m_]at hI1
         repeat' (first|(refine hq_ ?_;clear hK K)|refine ca_ ?_ ?_|refine gq_ ?_|(refine c2_ ?_ ?_<;>(intro hb hb';try(exfalso;omega)))|(refine cg_ ?_;first|(refine bP hI1 (bC _) ?_ ?_))|refine sz_ (a6_ @GExpr.el ht hw1 hix k7 g) ?_|refine nv ?_|(refine rD ?_;intro K hK)|exact bq_|fail)
         refine dB (i+1,v+1) ?_ ?_ ?_
         ·simp[bU,dW,bH,bK,AV.fits,AC.fits,FB,bQ,hfree]
         ·show i+1≤x.args.length;omega
         ·show x.args.length - (i+1)<x.args.length - i;omega
       | false=>
         cases k9:(x.kind==9)with
         | true=>
           have hfa:=GExpr.iH x.args[i] (b++ [x.text]);have hbl:(b++ [x.text]).length≤b.length+1:=by simp
           have hfree:GExpr.frees (x.args.take (i+1)) b (x.inner b)=GExpr.frees (x.args.take i) b (x.inner b)++(x.args[i]).free (b++ [x.text]):=by rw[hft];simp[GExpr.inner,hi0,k7,k9]
           have hI1:=hI x.args[i] hmem (b++ [x.text]) (by omega);simp only[j_,h_,m_]at hI1
           repeat' (first|(refine hq_ ?_;clear hK K)|refine ca_ ?_ ?_|refine gq_ ?_|(refine c2_ ?_ ?_<;>(intro hb hb';try(exfalso;omega)))|(refine cg_ ?_;first|(refine bP hI1 (bC _) ?_ ?_))|refine sz_ (a7_ @GExpr.el ht hw1 hix k7 k9 g) ?_|refine nv ?_|(refine rD ?_;intro K hK)|exact bq_|fail)
           refine dB (i+1,v+1) ?_ ?_ ?_
           ·simp[bU,dW,bH,bK,AV.fits,AC.fits,FB,bQ,hfree]
           ·show i+1≤x.args.length;omega
           ·show x.args.length - (i+1)<x.args.length - i;omega
         | false=>
           have hfa:=GExpr.iH x.args[i] (b);have hbl:(b).length≤b.length+1:=by simp
           have hfree:GExpr.frees (x.args.take (i+1)) b (x.inner b)=GExpr.frees (x.args.take i) b (x.inner b)++(x.args[i]).free (b):=by rw[hft];simp[GExpr.inner,hi0,k7,k9]
           have hI1:=hI x.args[i] hmem (b) (by omega)
           repeat' (first|(refine hq_ ?_;clear hK K)|refine ca_ ?_ ?_|refine gq_ ?_|(refine c2_ ?_ ?_<;>(intro hb hb';try(exfalso;omega)))|(refine cg_ ?_;first|(refine bP hI1 (bC _) ?_ ?_))|refine sz_ (a6_ @GExpr.el ht hw1 hix k7 k9) ?_|refine nv ?_|(refine rD ?_;intro K hK)|exact bq_|fail)
           refine dB (i+1,v+1) ?_ ?_ ?_
           ·simp[bU,dW,bH,bK,AV.fits,AC.fits,FB,bQ,hfree]
           ·show i+1≤x.args.length;omega
           ·show x.args.length - (i+1)<x.args.length - i;omega
     ·have ht:decide ((i:Int)<(x.args.length:Int))=false:=by simp;omega
      repeat' (first|(refine rg_ ?_;intro K hK)|(refine hq_ ?_;clear hK K)|refine ca_ ?_ ?_|refine gq_ ?_|(refine c2_ ?_ ?_<;>(intro hb hb';try(exfalso;omega)))|refine sz_ (aaA @GExpr.el ht) ?_|refine nv ?_|exact bq_|fail)
      obtain rfl:i=x.args.length:=by omega
      exact aU ⟨0,v,_,rfl,rfl,rfl,by simp,rfl,rfl,n_ rfl⟩
 | false =>
   rw[if_neg (by simp[k3])]
   repeat' (first|(refine rg_ ?_;intro K hK)|(refine hq_ ?_;clear hK K)|refine ca_ ?_ ?_|refine gq_ ?_|(refine c2_ ?_ ?_<;>(intro hb hb';try(exfalso;omega)))|(refine cg_ ?_;first|refine cT_ (EC b x.text) ?_)|refine sz_ (aaA @GExpr.el k3) ?_|refine nv ?_|exact bq_|fail)
   refine dZ (X:=Nat×Nat) (fun q=> [.d,.k,.k,.d,.d,.v (.c false [.own 0 q.2]),.v (.c false [.raw (.int .i64 (q.1:Nat))])]) (fun q=> [⟨(GExpr.frees (x.args.take q.1) b (x.inner b)).map ls,9,1,q.2,true⟩]) (fun q bs=>bs) (fun q=>q.1≤x.args.length) (fun q=>x.args.length - q.1) (0,0) (by simp) ?_ ?_
   ·simp[bU,dW,bH,bK,AV.fits,AC.fits,FB,bQ,lY,GExpr.frees]
   rintro⟨i,v⟩ hi;have hi':i≤x.args.length:=hi;clear hi;simp only[FB,bQ];by_cases hlt:i<x.args.length
   ·have ht:decide ((i:Int)<(x.args.length:Int))=true:=by simp;omega
    have hw1:IntKind.i64.wrap ((i:Int)+1)=((i+1:Nat):Int):=yL (by omega);have hix:=Dt GExpr.toD x.args hlt;have hmem:x.args[i]∈x.args:=F_ hlt;have hwm:=zY hmem;have hfl:=mV x.args b (x.inner b) i;have hft:=sZ x.args b (x.inner b) hlt;have hil:=wF x b;by_cases hi0:i=0
    ·have g:decide ((i:Int) > 0)=false:=by simp;omega
     cases k7:(x.kind==7)with
     | true=>
       have hfa:=GExpr.iH x.args[i] (b);have hbl:(b).length≤b.length+1:=by simp
       have hfree:GExpr.frees (x.args.take (i+1)) b (x.inner b)=GExpr.frees (x.args.take i) b (x.inner b)++(x.args[i]).free (b):=by rw[hft];simp[GExpr.inner,hi0]
       have hI1:=hI x.args[i] hmem (b) (by omega)
       repeat' (first|(refine hq_ ?_;clear hK K)|refine ca_ ?_ ?_|refine gq_ ?_|(refine c2_ ?_ ?_<;>(intro hb hb';try(exfalso;omega)))|(refine cg_ ?_;first|(refine bP hI1 (bC _) ?_ ?_))|refine sz_ (a6_ @GExpr.el ht hw1 hix k7 g) ?_|refine nv ?_|(refine rD ?_;intro K hK)|exact bq_|fail)
       refine dB (i+1,v+1) ?_ ?_ ?_
       ·simp[bU,dW,bH,bK,AV.fits,AC.fits,FB,bQ,hfree]
       ·show i+1≤x.args.length;omega
       ·show x.args.length - (i+1)<x.args.length - i;omega
     | false=>
       cases k9:(x.kind==9)with
       | true=>
         have hfa:=GExpr.iH x.args[i] (b);have hbl:(b).length≤b.length+1:=by simp
         have hfree:GExpr.frees (x.args.take (i+1)) b (x.inner b)=GExpr.frees (x.args.take i) b (x.inner b)++(x.args[i]).free (b):=by rw[hft];simp[GExpr.inner,hi0]
         have hI1:=hI x.args[i] hmem (b) (by omega)
         repeat' (first|(refine hq_ ?_;clear hK K)|refine ca_ ?_ ?_|refine gq_ ?_|(refine c2_ ?_ ?_<;>(intro hb hb';try(exfalso;omega)))|(refine cg_ ?_;first|(refine bP hI1 (bC _) ?_ ?_))|refine sz_ (a7_ @GExpr.el ht hw1 hix k7 k9 g) ?_|refine nv ?_|(refine rD ?_;intro K hK)|exact bq_|fail)
         refine dB (i+1,v+1) ?_ ?_ ?_
         ·simp[bU,dW,bH,bK,AV.fits,AC.fits,FB,bQ,hfree]
         ·show i+1≤x.args.length;omega
         ·show x.args.length - (i+1)<x.args.length - i;omega
       | false=>
         have hfa:=GExpr.iH x.args[i] (b);have hbl:(b).length≤b.length+1:=by simp
         have hfree:GExpr.frees (x.args.take (i+1)) b (x.inner b)=GExpr.frees (x.args.take i) b (x.inner b)++(x.args[i]).free (b):=by rw[hft];simp[GExpr.inner,hi0]
         have hI1:=hI x.args[i] hmem (b) (by omega)
         repeat' (first|(refine hq_ ?_;clear hK K)|refine ca_ ?_ ?_|refine gq_ ?_|(refine c2_ ?_ ?_<;>(intro hb hb';try(exfalso;omega)))|(refine cg_ ?_;first|(refine bP hI1 (bC _) ?_ ?_))|refine sz_ (a6_ @GExpr.el ht hw1 hix k7 k9) ?_|refine nv ?_|(refine rD ?_;intro K hK)|exact bq_|fail)
         refine dB (i+1,v+1) ?_ ?_ ?_
         ·simp[bU,dW,bH,bK,AV.fits,AC.fits,FB,bQ,hfree]
         ·show i+1≤x.args.length;omega
         ·show x.args.length - (i+1)<x.args.length - i;omega
    ·have g:decide ((i:Int) > 0)=true:=by simp;omega
     cases k7:(x.kind==7)with
     | true=>
       have hfa:=GExpr.iH x.args[i] (b++ [x.text]);have hbl:(b++ [x.text]).length≤b.length+1:=by simp
       have hfree:GExpr.frees (x.args.take (i+1)) b (x.inner b)=GExpr.frees (x.args.take i) b (x.inner b)++(x.args[i]).free (b++ [x.text]):=by rw[hft];simp[GExpr.inner,hi0,k7]
       have hI1:=hI x.args[i] hmem (b++ [x.text]) (by omega);simp only[j_,h_,m_]at hI1
       repeat' (first|(refine hq_ ?_;clear hK K)|refine ca_ ?_ ?_|refine gq_ ?_|(refine c2_ ?_ ?_<;>(intro hb hb';try(exfalso;omega)))|(refine cg_ ?_;first|(refine bP hI1 (bC _) ?_ ?_))|refine sz_ (a6_ @GExpr.el ht hw1 hix k7 g) ?_|refine nv ?_|(refine rD ?_;intro K hK)|exact bq_|fail)
       refine dB (i+1,v+1) ?_ ?_ ?_
       ·simp[bU,dW,bH,bK,AV.fits,AC.fits,FB,bQ,hfree]
       ·show i+1≤x.args.length;omega
       ·show x.args.length - (i+1)<x.args.length - i;omega
     | false=>
       cases k9:(x.kind==9)with
       | true=>
         have hfa:=GExpr.iH x.args[i] (b++ [x.text]);have hbl:(b++ [x.text]).length≤b.length+1:=by simp
         have hfree:GExpr.frees (x.args.take (i+1)) b (x.inner b)=GExpr.frees (x.args.take i) b (x.inner b)++(x.args[i]).free (b++ [x.text]):=by rw[hft];simp[GExpr.inner,hi0,k7,k9]
         have hI1:=hI x.args[i] hmem (b++ [x.text]) (by omega);simp only[j_,h_,m_]at hI1
         repeat' (first|(refine hq_ ?_;clear hK K)|refine ca_ ?_ ?_|refine gq_ ?_|(refine c2_ ?_ ?_<;>(intro hb hb';try(exfalso;omega)))|(refine cg_ ?_;first|(refine bP hI1 (bC _) ?_ ?_))|refine sz_ (a7_ @GExpr.el ht hw1 hix k7 k9 g) ?_|refine nv ?_|(refine rD ?_;intro K hK)|exact bq_|fail)
         refine dB (i+1,v+1) ?_ ?_ ?_
         ·simp[bU,dW,bH,bK,AV.fits,AC.fits,FB,bQ,hfree]
         ·show i+1≤x.args.length;omega
         ·show x.args.length - (i+1)<x.args.length - i;omega
       | false=>
         have hfa:=GExpr.iH x.args[i] (b);have hbl:(b).length≤b.length+1:=by simp
         have hfree:GExpr.frees (x.args.take (i+1)) b (x.inner b)=GExpr.frees (x.args.take i) b (x.inner b)++(x.args[i]).free (b):=by rw[hft];simp[GExpr.inner,hi0,k7,k9]
         have hI1:=hI x.args[i] hmem (b) (by omega)
         repeat' (first|(refine hq_ ?_;clear hK K)|refine ca_ ?_ ?_|refine gq_ ?_|(refine c2_ ?_ ?_<;>(intro hb hb';try(exfalso;omega)))|(refine cg_ ?_;first|(refine bP hI1 (bC _) ?_ ?_))|refine sz_ (a6_ @GExpr.el ht hw1 hix k7 k9) ?_|refine nv ?_|(refine rD ?_;intro K hK)|exact bq_|fail)
         refine dB (i+1,v+1) ?_ ?_ ?_
         ·simp[bU,dW,bH,bK,AV.fits,AC.fits,FB,bQ,hfree]
         ·show i+1≤x.args.length;omega
         ·show x.args.length - (i+1)<x.args.length - i;omega
   ·have ht:decide ((i:Int)<(x.args.length:Int))=false:=by simp;omega
    repeat' (first|(refine rg_ ?_;intro K hK)|(refine hq_ ?_;clear hK K)|refine ca_ ?_ ?_|refine gq_ ?_|(refine c2_ ?_ ?_<;>(intro hb hb';try(exfalso;omega)))|refine sz_ (aaA @GExpr.el ht) ?_|refine nv ?_|exact bq_|fail)
    obtain rfl:i=x.args.length:=by omega
    exact aU ⟨0,v,_,rfl,rfl,rfl,by simp,rfl,rfl,n_ rfl⟩
theorem Md :∀(n:Nat) (x:GExpr),x.toD.wt<n→zS x:=by
 intro n
 induction n with
 |zero=>intro x h;omega
 | succ n ih=>
   intro x h;exact OQ x (fun y hy=>ih y (by have:=zY hy;omega))
theorem Mc(x:GExpr):zS x:=Md _ x (Z_ _)
theorem tY.own{l:List ByteArray}{w w':World}{en:Ending}(h:tY l w en w'):qI false (l.map ls) 9 1 w en w':=by
 obtain⟨f,v,rfl,⟨cs,h1,h2,h3,h4⟩,h5⟩:=h;exact⟨v,cs,f,rfl,aK.of h1,h2,fun b hb=>⟨fun e=>h4 b e.symm hb,(h3.2 b hb).1⟩,h5⟩
theorem GExpr.E5(x:GExpr)(b:List ByteArray):(x.free b).length≤max 1 x.toD.wt:=by
 rw[GExpr.free_eq];split
 ·simp;omega
 ·have:=GExpr.rJ x.args b (x.inner b);have:=x.RS;omega
theorem yO(l:List ByteArray)(hn:l.length≤1048576):dU Tryz.prog 77 [.sl (l.map ls)] ((yQ l).map ls) 9 1:=fun w vs hr _=>by
 obtain⟨v,rfl,h1⟩:=U6 hr;obtain⟨fp,hS⟩:=uQ h1;exact(xK l fp v w hS hn).mono fun _ _ h=>h.own
theorem yP(l:List ByteArray)(hn:l.length≤1048576):dU Tryz.prog 85 [.sl (l.map ls)] ((yQ l).map ls) 9 1:=fun w vs hr _=>by
 obtain⟨v,rfl,h1⟩:=U6 hr;obtain⟨fp,hS⟩:=uQ h1;exact(xM l fp v w hS hn).mono fun _ _ h=>h.own
def zf :IC:=(zd_ [zz_ 1 (.box (.t 0)),zz_ 2 (.mov (.k (.slice none 0 0)))] (zd_ [zr_ 3 4 1,zz_ 4 (.brow false 9 1 0 false []),zp_ 5 78 3 4,zq_ 6 77 5,zw_ 2 6] .ret))
theorem CG :ak Tryz.prog (Tryz.f52.body.getD .skip)=some zf:=by kernel_rfl
theorem qp(x:GExpr)(hw:x.toD.wt≤1048576):dU Tryz.prog 52 [x.toD] ((yQ (x.free [])).map ls) 9 1:=by
 refine jH (fn:=Tryz.f52) (t:=2) (hc:=CG) (h:= ?_);change AWP _ _ _ (st0 7 _);have hm:=x.E5 [];unfold zf;refine zb_ ?_;refine sS (aaA @GExpr.aF (aaA @GExpr.aA (aaA @GExpr.aH (aaA @GPart.aF (aaA @GPart.aA @GPart.aH))))) ?_
 repeat' (first|(refine hq_ ?_;clear hK K)|refine ca_ ?_ ?_|refine gq_ ?_|(refine c2_ ?_ ?_<;>(intro hb hb';try(exfalso;omega)))|(refine cg_ ?_;first|(refine bP (Mc x [] (by simp;omega)) (bC _) ?_ ?_)|(refine bP (yO (x.free []) (by omega)) (bC _) ?_ ?_))|refine sz_ (aaA @GExpr.el @GPart.el) ?_|refine nv ?_|(refine rD ?_;intro K hK)|exact bq_|fail)
 exact aU ⟨1,0,_,rfl,rfl,rfl,rfl,rfl,rfl,n_ rfl⟩
def bf(x:GPart):List ByteArray:=if x.kind==2 then yQ (x.expr.free [])else []
theorem Ac(x:GPart)(hw:x.expr.toD.wt≤1048576):(bf x).length≤1048576:=by
 unfold bf;split
 ·have:=Ht (x.expr.free []);have:=x.expr.E5 [];omega
 ·simp
def y9 :IC:=(zd_ [zz_ 1 (.box (.t 0)),zz_ 2 (.mov (.k (.slice none 0 0)))] (.seq (zd_ [zt_ 3 0 1,zs_ 4 1 3,zm_ 5 .neq 4 2] (.cond (.t 5) (zd_ [zz_ 6 (.brow true 9 1 0 false []),zw_ 2 6] .ret) .skip)) (zd_ [zt_ 7 2 1,zr_ 8 4 7,zq_ 9 52 8,zw_ 2 9] .ret)))
theorem CB :ak Tryz.prog (Tryz.f26.body.getD .skip)=some y9:=by kernel_rfl
theorem uG(x:GPart)(hw:x.expr.toD.wt≤1048576):dU Tryz.prog 26 [x.toD] ((bf x).map ls) 9 1:=by
 refine jH (fn:=Tryz.f26) (t:=2) (hc:=CB) (h:= ?_);change AWP _ _ _ (st0 10 _);unfold y9;refine zb_ ?_;refine sS (aaA @GExpr.aF (aaA @GExpr.aA (aaA @GExpr.aH (aaA @GPart.aF (aaA @GPart.aA @GPart.aH))))) ?_;cases k:(x.kind==2)with
 | true=>
   have kn:(x.kind !=2)=false:=by simp only[bne,k];rfl
   have hU:bf x=yQ (x.expr.free []):=by simp[bf,k]
   rw[hU]
   repeat' (first|(refine hq_ ?_;clear hK K)|refine ca_ ?_ ?_|refine gq_ ?_|(refine c2_ ?_ ?_<;>(intro hb hb';try(exfalso;omega)))|(refine cg_ ?_;first|(refine bP (qp x.expr hw) (bC _) ?_ ?_))|refine sz_ (a4_ @GExpr.el @GPart.el k kn) ?_|refine nv ?_|(refine rD ?_;intro K hK)|exact bq_|fail)
   exact aU ⟨0,0,_,rfl,rfl,rfl,rfl,rfl,rfl,n_ rfl⟩
 | false=>
   have kn:(x.kind !=2)=true:=by simp only[bne,k];rfl
   have hU:bf x= []:=by simp[bf,k]
   rw[hU]
   repeat' (first|(refine hq_ ?_;clear hK K)|refine ca_ ?_ ?_|refine gq_ ?_|(refine c2_ ?_ ?_<;>(intro hb hb';try(exfalso;omega)))|(refine cg_ ?_;first|(refine bP (qp x.expr hw) (bC _) ?_ ?_))|refine sz_ (a4_ @GExpr.el @GPart.el k kn) ?_|refine nv ?_|(refine rD ?_;intro K hK)|exact bq_|fail)
   exact aU ⟨0,0,_,rfl,rfl,rfl,rfl,rfl,rfl,n_ rfl⟩
theorem y8 :∀(l:List ByteArray) (s:ByteArray) (k:Nat),(decide (jG l s k<0))= !rH l s
 | [],s,k=>by simp[jG,rH]
 | x::l,s,k=>by
   rw[jG,rH];by_cases h:x=s
   ·rw[if_pos h];simp[h]
   ·rw[if_neg h,y8 l s (k+1)];simp[h]
theorem Wu(l:List ByteArray)(s:ByteArray):decide (Aw l s<0)= !rH l s:=y8 l s 0
theorem EG(l:List ByteArray)(s:ByteArray):aB Tryz.prog 98 [.sl (l.map ls),ls s] (.c false [.raw (.int .i64 (Aw l s))]):=PS fun w vs hr=>by
 obtain⟨v,u,rfl,h1,h2⟩:=Ll hr;obtain⟨fp,hS⟩:=uQ h1;obtain rfl:=qg h2;exact y7 l s fp v w hS
def QW :IC:=(.reg false [zs_ 5 1 2,zw_ 6 0,zz_ 7 (.brow false 9 1 1 false [(.t 6)]),zz_ 8 (.app 9 1 (.t 5) (.t 7)),⟨none,none,.store 1 (.t 2) (.t 8)⟩])
theorem OZ :ak Tryz.prog (Tryz.f83.body.getD .skip)=some QW:=by kernel_rfl
abbrev Ux :AV:= .c false [.raw (.tuple #[])]
abbrev mG(l:List ByteArray)(v:Nat):Own:=⟨l.map ls,9,1,v,true⟩
theorem J9(pb:List AC)(hpb:∀n m,pb.all (AC.fits n m)=true)(l:List ByteArray)(s:ByteArray)(bv:AV)(ver:Nat)(ox:List Own)(bx:List (List AC))(hl:l.length≤4000000)(hb:gu (ox.length+1) (bx.length+2) bx):
 fE Tryz.prog 83 [.c false [.raw (.string s)],bv,.bptr 1 0] (mG l ver::ox) (pb::[.own 0 ver]::bx) Ux (mG (l++ [s]) (ver+1)::ox) (pb::[.own 0 (ver+1)]::bx):=by
 refine Kr (fn:=Tryz.f83) (rs:= []) (by kernel_rfl) (by kernel_rfl) (by kernel_rfl) OZ (by simp) (by simp) ?_;unfold QW;refine zb_ ?_;change iT _ _ _ _ (stS 9 _ _ _);simp only[undef,stS,st0,stN,D.av,D.avN,dn,aY,dA,dw,gy,dD,eY,eX,GExpr.aF,GExpr.aA,GExpr.aH,GExpr.el,GPart.aF,GPart.aA,GPart.aH,GPart.el,h_,m_,B_,y_,r_,l_,s_,D_,E_]
 repeat' (first|(refine hq_ ?_;clear hK K)|refine ca_ ?_ ?_|refine gq_ ?_|(refine c2_ ?_ ?_<;>(intro hb hb';try(exfalso;omega)))|refine sz_ (a9_ @GExpr.el @GPart.el @kW @kK @mD @kJ @f_.{0} @k_ @a_.{0}) ?_|refine nv ?_|(refine rD ?_;intro K hK)|exact bq_|fail)
 refine⟨?_, ?_, ?_,rfl⟩
 ·simp[bH,gU,mG,ls]
 ·exact⟨rfl,rfl,tK bx⟩
 ·simp only[gu]at hb;simp only[A_,hpb,Bool.true_and];simp[AC.fits,hb]
def ML :IC:=(zd_ [zz_ 4 (.box (.t 1))] (.seq (zd_ [zt_ 10 0 4,zs_ 11 1 10,zm_ 12 .eql 11 3,zw_ 13 12,zv_ 14 13 2,zy_ 15 13 (.fad 2 (.t 4)),zy_ 16 13 (.load 1 false (.t 15)),zy_ 17 13 (.call 98 [(.t 14),(.t 16)]),zy_ 18 13 (.bin .lss (.t 17) (.k (.int .i64 0))),zh_ 19 13 18 false] (.cond (.t 19) (zd_ [zw_ 20 0,zi_ 21 20,zt_ 22 0 21,zs_ 23 1 22,zz_ 24 (.fnil true (.t 23))] (.cond (.t 24) (.seq (.reg true [zw_ 25 0,zi_ 26 25,zt_ 27 0 26,zs_ 28 1 27,zt_ 29 2 4,zs_ 30 1 29,zw_ 31 2,zz_ 32 (.callv (.t 28) [(.t 30),(.t 31)])]) .ret) .skip)) .skip)) (zd_ [zt_ 33 0 4,zs_ 34 1 33,zm_ 35 .eql 34 7,zw_ 36 35,zx_ 37 36 (.fad 0 (.t 4)),zx_ 38 36 (.load 1 false (.t 37)),zx_ 39 36 (.bin .eql (.t 38) (.k (.int .i64 9))),zg_ 40 36 true 39,zw_ 6 40] (.seq (zd_ [zw_ 41 6,zw_ 42 41,zv_ 43 42 0,zy_ 44 42 (.nck (.t 43)),zy_ 45 42 (.fad 1 (.t 44)),zy_ 46 42 (.load 1 false (.t 45)),zy_ 47 42 (.fnil true (.t 46)),zh_ 48 42 47 false] (.cond (.t 48) (.reg true [zw_ 49 0,zi_ 50 49,zt_ 51 1 50,zs_ 52 1 51,zt_ 53 2 4,zs_ 54 1 53,zz_ 55 (.callv (.t 52) [(.t 54)])]) .skip)) (zd_ [zt_ 56 3 4,zs_ 57 1 56,zf_ 58 false 57,zk_ 59 0] (.block 0 (.loop (zd_ [zl_ 60 .lss 59 58] (.seq (.cond (.t 60) .skip (.exit 0)) (.seq (.block 1 (zd_ [zw_ 61 59,ze_ 62 4 57 59,zr_ 63 4 62,zz_ 8 (.alloc [(.int .i64 0),(.int .i64 0),(.string ⟨#[]⟩),(.slice none 0 0)]),zw_ 7 61,⟨none,none,.store 4 (.t 8) (.t 63)⟩] (zd_ [zw_ 64 2,zw_ 9 64] (.seq (zd_ [zw_ 65 6,zw_ 66 65,zv_ 67 66 7,zy_ 68 66 (.bin .gtr (.t 67) (.k (.int .i64 0))),zh_ 69 66 68 false] (.cond (.t 69) (.reg true [zz_ 70 (.brow true 9 1 0 false []),zw_ 71 2,zz_ 72 (.app 9 1 (.t 70) (.t 71)),zt_ 73 2 4,zs_ 74 1 73,zz_ 75 (.brow false 9 1 1 false [(.t 74)]),zz_ 76 (.app 9 1 (.t 72) (.t 75)),zw_ 9 76]) .skip)) (.reg false [zw_ 77 0,zr_ 78 4 8,zw_ 79 9,zo_ 80 84 77 78 79]))))) (.reg false [zm_ 81 .add 59 1,zw_ 59 81])))))))))))
theorem MK :ak Tryz.prog (Tryz.f84.body.getD .skip)=some ML:=by kernel_rfl
def BV(ox:List Own)(b:List ByteArray)(bv:AV):Prop:=(∃nb,bv= .c false [.sl nb (b.map ls)])∨∃k i o,bv= .c false [.own (k+1) i]∧ox[k]? =some o∧o.ver=i∧o.l=b.map ls
abbrev Pm(pb:List AC)(v:Nat)(bx:List (List AC)):List (List AC):=pb::[.own 0 v]::[.cl 83 [1],.raw .nilFunc]::bx
def IX(pb:List AC)(x:GExpr):Prop:=∀(b l:List ByteArray) (bv:AV) (ver:Nat) (ox:List Own) (bx:List (List AC)),BV ox b bv→l.length+x.toD.wt≤2000000→b.length+x.toD.wt≤2000000→gu (ox.length+1) (bx.length+3) bx→
 fE Tryz.prog 84 [.bptr 2 0,x.toD.av,bv] (mG l ver::ox) (Pm pb ver bx) Ux (mG (l++x.free b) (ver+(x.free b).length)::ox) (Pm pb (ver+(x.free b).length) bx)
theorem Y7{ox:List Own}{b:List ByteArray}{nb:Bool}:BV ox b (.c false [.sl nb (b.map ls)]):=n_ ⟨_,rfl⟩
theorem ZG{ox:List Own}{b:List ByteArray}{k i:Nat}{o:Own}(h:ox[k]? =some o)(h1:o.ver=i)(h2:o.l=b.map ls):BV ox b (.c false [.own (k+1) i]):=x_ ⟨k,i,o,rfl,h,h1,h2⟩
theorem Ry{ox:List Own}{b:List ByteArray}{i:Nat}{o:Own}(h1:o.ver=i)(h2:o.l=b.map ls):BV (ox++ [o]) b (.c false [.own (ox.length+1) i]):=x_ ⟨ox.length,i,o,rfl,by simp,h1,h2⟩
theorem su :∀(l:List D) (i:Nat) (h:i<l.length),D.wts (l.take i)+(l[i]).wt≤D.wts l
 |d::l,0,h=>by simp[D.wts]
 | d::l,i+1,h=>by
   have:=su l i (by simpa using h);simp only[G_,D.wts,List.getElem_cons_succ];omega
theorem EZ(x:GExpr)(b:List ByteArray){q:Nat}(h:q<x.args.length):(GExpr.frees (x.args.take q) b (x.inner b)).length+x.args[q].toD.wt≤x.toD.wt:=by
 have h1:=GExpr.rJ (x.args.take q) b (x.inner b);have h2:=su (x.args.map GExpr.toD) q (by simpa using h);have h3:=x.RS;rw[← I_,J_]at h2;have h4:(x.args.take q).length≤x.args.length:=by rw[L_];omega
 omega
theorem fM{n m:Nat}{bx cx:List (List AC)}(h:gu n m bx)(h2:gu n m cx):gu n m (bx++cx):=by
 simp only[gu,List.all_append,Bool.and_eq_true]at h h2⊢;exact⟨h,h2⟩
theorem Yt{pb:List AC}(hpb:∀n m,pb.all (AC.fits n m)=true){n m m' v:Nat}{bx cx:List (List AC)}(h:gu n m' bx)(hn:0<n)(hm:m'≤m)(hm0:1<m')(hc:gu n m cx):gu n m (Pm pb v (bx++cx)):=
 fM (bx:= [_,_,_]) (by simp only[gu,A_,hpb];simp[AC.fits];exact⟨hn,o_ hm0 hm⟩) (fM (h.mono (b_ _) hm) hc)
theorem Us(pb:List AC)(hpb:∀n m,pb.all (AC.fits n m)=true)(x:GExpr)(hI:∀y∈x.args,IX pb y):IX pb x:=by
 intro b l bv ver ox bx hbv hwl hwb hfit;have hwe:=x.RS;refine Kr (fn:=Tryz.f84) (rs:= []) (by kernel_rfl) (by kernel_rfl) (by kernel_rfl) MK (by simp) (by simp) ?_;unfold ML;refine zb_ ?_;change iT _ _ _ _ (stS 82 _ _ _);have hneg:=Wu b x.text;have hfree0:=x.free_eq b;rcases hbv with⟨nb,rfl⟩|⟨k,i,o,rfl,hk,hki,hkl⟩
 ·simp only[undef,stS,st0,stN,D.av,D.avN,dn,aY,dA,dw,gy,dD,eY,eX,GExpr.aF,GExpr.aA,GExpr.aH,GExpr.el,GPart.aF,GPart.aA,GPart.aH,GPart.el,h_,m_,B_,y_,r_,l_,s_,D_,E_]
  repeat' (first|(refine hq_ ?_;clear hK K)|refine ca_ ?_ ?_|refine gq_ ?_|(refine c2_ ?_ ?_<;>(intro hb hb';try(exfalso;omega)))|(refine cg_ ?_;first|refine cT_ (EG b x.text) ?_)|((with_reducible refine NK ?_);first|(refine callV ?_ (J9 pb hpb l x.text _ ver ox _ ?_ ?_) ?_))|((with_reducible refine Fq ?_);first|(refine Fz ?_ (J9 pb hpb l x.text _ ver ox _ ?_ ?_) ?_))|refine sz_ (aaz @GExpr.el @GPart.el @kW @kK @mD @kJ @f_.{0} @k_ @a_.{0} hneg) ?_|refine nv ?_|(refine rD ?_;intro K hK)|exact bq_|fail)
  ·with_reducible refine Kt ?_
   refine fM (bx:= [_]) (by simp[gu,AC.fits]) (fM (hfit.mono (by omega) (by simp)) (by simp[gu,AC.fits]))
  ·have hfr:x.free b= [x.text]:=by rw[hfree0];simp[*]
   rw[hfr];refine aU ⟨⟨⟨rfl,rfl,rfl,rfl,rfl⟩,gU _⟩,⟨rfl,rfl,rfl,wP _ _⟩, ?_,rfl⟩;refine fM (bx:= [_,_,_]) (by simp only[gu,A_,hpb];simp[AC.fits]) (hfit.mono (by simp) (by simp))
  all_goals
   (have hfr:x.free b=GExpr.frees x.args b (x.inner b):=by rw[hfree0];simp[*]
    rw[hfr];refine yE (X:=Nat) (fun q=> [.k,.d,.k,.d,.k,.d,.k,.d,.d,.d,.d,.d,.d,.d,.d,.d,.d,.d,.d,.d,.d,.d,.d,.d,.d,.d,.d,.d,.d,.d,.d,.d,.d,.d,.d,.d,.d,.d,.d,.d,.d,.d,.d,.d,.d,.d,.d,.d,.d,.d,.d,.d,.d,.d,.d,.d,.d,.k,.k,.v (.c false [.raw (.int .i64 (q:Nat))])]) (fun q=>mG (l++GExpr.frees (x.args.take q) b (x.inner b)) (ver+(GExpr.frees (x.args.take q) b (x.inner b)).length)::ox)
     (fun q bs=>Pm pb (ver+(GExpr.frees (x.args.take q) b (x.inner b)).length) (bx++ [[AC.raw (V_ Q_ x.kind),AC.raw (V_ Q_ x.n),AC.raw (z_ x.text),AC.sl false (List.map GExpr.toD x.args)]])) (fun q=>q≤x.args.length) (fun q=>x.args.length - q) 0 (Nat.zero_le _) (by intro q;simp) ?_ ?_
    ·refine⟨?_, ?_, ?_, ?_⟩
     ·simp[dW,AV.fits,AC.fits,FB,bQ]
     ·simp[FB,bH,gU,lY,mG]
     ·simp[FB,bK,tK,lY]
     ·exact Yt hpb (m':=bx.length+3) hfit (by simp[FB]) (by simp[FB]) (by simp) (by simp[gu,AC.fits,FB])
    intro q hq;have hq':q≤x.args.length:=hq;clear hq;simp only[FB,bQ];by_cases hlt:q<x.args.length
    ·have hmem:=F_ hlt;have hV:=hI x.args[q] hmem;have hwm:=zY hmem;have hft:=sZ x.args b (x.inner b) hlt;have hfl:=mV x.args b (x.inner b) q;have hil:=wF x b;have hroom:=EZ x b hlt;simp only[IX,D.av,GExpr.aH,GExpr.aF]at hV
     repeat' (first|(refine hq_ ?_;clear hK K)|refine ca_ ?_ ?_|refine gq_ ?_|(refine c2_ ?_ ?_<;>(intro hb hb';try(exfalso;omega)))|(refine cg_ ?_;first|(refine callS (hV b _ _ _ _ _ Y7 ?_ ?_ ?_) ?_)|(refine callS (hV (b++ [x.text]) _ _ _ _ _ (Ry rfl (by simp[ls])) ?_ ?_ ?_) ?_))|refine sz_ (a9_ @GExpr.el @GPart.el @kW @kK @mD @kJ @f_.{0} @k_ @a_.{0}) ?_|refine nv ?_|(refine rD ?_;intro K hK)|exact bq_|fail)
     all_goals first
      |(simp only[a_,l_,s_];omega)
      | (with_reducible refine Kt ?_
         first
          |exact fM (hfit.mono (by simp) (by simp)) (by simp[gu,AC.fits])
          |exact fM (hfit.mono (by simp;omega) (by simp;omega)) (by simp[gu,AC.fits]))
      | (first
          |(have hfree:GExpr.frees (x.args.take (q+1)) b (x.inner b)=GExpr.frees (x.args.take q) b (x.inner b)++(x.args[q]).free b:=by
              rw[hft];by_cases h0:q=0<;>first|(exfalso;omega)|(simp[h0,GExpr.inner, *];done))
          |(have hfree:GExpr.frees (x.args.take (q+1)) b (x.inner b)=GExpr.frees (x.args.take q) b (x.inner b)++(x.args[q]).free (b++ [x.text]):=by
              rw[hft];by_cases h0:q=0<;>first|(exfalso;omega)|(simp[h0,GExpr.inner, *];done))
         have hfl2:=congrArg a_g hfree;rw[a_]at hfl2;refine dB (q+1) ⟨?_, ?_, ?_, ?_⟩ (show q+1≤x.args.length by omega) (show x.args.length - (q+1)<x.args.length - q by omega)
         ·simp[dW,AV.fits,AC.fits,FB,bQ]
         ·refine⟨⟨?_,rfl,rfl, ?_,rfl⟩, ?_⟩
          ·first|(rw[hfree];done)|(rw[hfree];simp[mG])
          ·first|(simp only[mG];omega)|(simp only[mG,hfl2];omega)|(simp[mG,hfl2];omega)
          ·first|exact gU _|exact HY _ _
         ·refine⟨rfl, ?_,rfl,wQ _ ⟨rfl,trivial⟩⟩;simp only[List.cons.injEq,AC.own.injEq,and_true,true_and];omega
         ·exact Yt hpb (m':=bx.length+3) hfit (by simp[FB]) (by simp[FB]) (by simp) (by simp[gu,AC.fits,FB]))
    ·obtain rfl:q=x.args.length:=by omega
     repeat' (first|(refine hq_ ?_;clear hK K)|refine ca_ ?_ ?_|refine gq_ ?_|(refine c2_ ?_ ?_<;>(intro hb hb';try(exfalso;omega)))|refine sz_ (a9_ @GExpr.el @GPart.el @kW @kK @mD @kJ @f_.{0} @k_ @a_.{0}) ?_|refine nv ?_|(refine rD ?_;intro K hK)|exact bq_|fail)
     simp only[K_];exact Iy ⟨⟨⟨rfl,rfl,rfl,rfl,rfl⟩,gU _⟩,⟨rfl,rfl,rfl,wP _ _⟩,fM (bx:= [_,_,_]) (by simp only[gu,A_,hpb];simp[AC.fits]) (hfit.mono (by simp) (by simp)),rfl⟩)
 ·obtain rfl:=hki;have hkn:k<ox.length:=(List.getElem?_eq_some_iff.1 hk).1;have hka:∀ys:List Own,(ox++ys)[k]? =some o:=fun ys=>by rw[List.getElem?_append_left hkn];exact hk
  simp only[undef,stS,st0,stN,D.av,D.avN,dn,aY,dA,dw,gy,dD,eY,eX,GExpr.aF,GExpr.aA,GExpr.aH,GExpr.el,GPart.aF,GPart.aA,GPart.aH,GPart.el,h_,m_,B_,y_,r_,l_,s_,D_,E_]
  repeat' (first|(refine hq_ ?_;clear hK K)|refine ca_ ?_ ?_|refine gq_ ?_|(refine c2_ ?_ ?_<;>(intro hb hb';try(exfalso;omega)))|(refine cg_ ?_;first|refine ZF (hc:=EG b x.text) (ha:=by(simp[aQ,lF,iP,kV,AC.toD,aO,aC,aI,aN,Value.oneCell',iY,dR,jc,iZ,dn,aY,dA,dw,uy,uz,GExpr.aF,hk,hka,hkl];first|done|rfl)) (h:= ?_))|((with_reducible refine NK ?_);first|(refine callV ?_ (J9 pb hpb l x.text _ ver ox _ ?_ ?_) ?_))|((with_reducible refine Fq ?_);first|(refine Fz ?_ (J9 pb hpb l x.text _ ver ox _ ?_ ?_) ?_))|refine sz_ (a5_ @GExpr.el @GPart.el @kW @kK (a9_ @mD @kJ @f_.{0} @k_ @a_.{0} hneg hk hka hkl)) ?_|refine nv ?_|(refine rD ?_;intro K hK)|exact bq_|fail)
  ·with_reducible refine Kt ?_
   refine fM (bx:= [_]) (by simp[gu,AC.fits]) (fM (hfit.mono (by omega) (by simp)) (by simp[gu,AC.fits]))
  ·have hfr:x.free b= [x.text]:=by rw[hfree0];simp[*]
   rw[hfr];refine aU ⟨⟨⟨rfl,rfl,rfl,rfl,rfl⟩,gU _⟩,⟨rfl,rfl,rfl,wP _ _⟩, ?_,rfl⟩;refine fM (bx:= [_,_,_]) (by simp only[gu,A_,hpb];simp[AC.fits]) (hfit.mono (by simp) (by simp))
  all_goals
   (have hfr:x.free b=GExpr.frees x.args b (x.inner b):=by rw[hfree0];simp[*]
    rw[hfr];refine yE (X:=Nat) (fun q=> [.k,.d,.k,.d,.k,.d,.k,.d,.d,.d,.d,.d,.d,.d,.d,.d,.d,.d,.d,.d,.d,.d,.d,.d,.d,.d,.d,.d,.d,.d,.d,.d,.d,.d,.d,.d,.d,.d,.d,.d,.d,.d,.d,.d,.d,.d,.d,.d,.d,.d,.d,.d,.d,.d,.d,.d,.d,.k,.k,.v (.c false [.raw (.int .i64 (q:Nat))])]) (fun q=>mG (l++GExpr.frees (x.args.take q) b (x.inner b)) (ver+(GExpr.frees (x.args.take q) b (x.inner b)).length)::ox)
     (fun q bs=>Pm pb (ver+(GExpr.frees (x.args.take q) b (x.inner b)).length) (bx++ [[AC.raw (V_ Q_ x.kind),AC.raw (V_ Q_ x.n),AC.raw (z_ x.text),AC.sl false (List.map GExpr.toD x.args)]])) (fun q=>q≤x.args.length) (fun q=>x.args.length - q) 0 (Nat.zero_le _) (by intro q;simp) ?_ ?_
    ·refine⟨?_, ?_, ?_, ?_⟩
     ·simp[dW,AV.fits,AC.fits,FB,bQ,hkn]
     ·simp[FB,bH,gU,lY,mG]
     ·simp[FB,bK,tK,lY]
     ·exact Yt hpb (m':=bx.length+3) hfit (by simp[FB]) (by simp[FB]) (by simp) (by simp[gu,AC.fits,FB])
    intro q hq;have hq':q≤x.args.length:=hq;clear hq;simp only[FB,bQ];by_cases hlt:q<x.args.length
    ·have hmem:=F_ hlt;have hV:=hI x.args[q] hmem;have hwm:=zY hmem;have hft:=sZ x.args b (x.inner b) hlt;have hfl:=mV x.args b (x.inner b) q;have hil:=wF x b;have hroom:=EZ x b hlt;simp only[IX,D.av,GExpr.aH,GExpr.aF]at hV
     repeat' (first|(refine hq_ ?_;clear hK K)|refine ca_ ?_ ?_|refine gq_ ?_|(refine c2_ ?_ ?_<;>(intro hb hb';try(exfalso;omega)))|(refine cg_ ?_;first|(refine callS (hV b _ _ _ _ _ (ZG hk rfl hkl) ?_ ?_ ?_) ?_)|(refine callS (hV (b++ [x.text]) _ _ _ _ _ (Ry rfl (by simp[ls])) ?_ ?_ ?_) ?_))|refine sz_ (a4_ @GExpr.el @GPart.el @kW (a9_ @kK @mD @kJ @f_.{0} @k_ @a_.{0} hk hka hkl)) ?_|refine nv ?_|(refine rD ?_;intro K hK)|exact bq_|fail)
     all_goals first
      |(simp only[a_,l_,s_];omega)
      | (with_reducible refine Kt ?_
         first
          |exact fM (hfit.mono (by simp) (by simp)) (by simp[gu,AC.fits])
          |exact fM (hfit.mono (by simp;omega) (by simp;omega)) (by simp[gu,AC.fits]))
      | (first
          |(have hfree:GExpr.frees (x.args.take (q+1)) b (x.inner b)=GExpr.frees (x.args.take q) b (x.inner b)++(x.args[q]).free b:=by
              rw[hft];by_cases h0:q=0<;>first|(exfalso;omega)|(simp[h0,GExpr.inner, *];done))
          |(have hfree:GExpr.frees (x.args.take (q+1)) b (x.inner b)=GExpr.frees (x.args.take q) b (x.inner b)++(x.args[q]).free (b++ [x.text]):=by
              rw[hft];by_cases h0:q=0<;>first|(exfalso;omega)|(simp[h0,GExpr.inner, *];done))
         have hfl2:=congrArg a_g hfree;rw[a_]at hfl2;refine dB (q+1) ⟨?_, ?_, ?_, ?_⟩ (show q+1≤x.args.length by omega) (show x.args.length - (q+1)<x.args.length - q by omega)
         ·simp[dW,AV.fits,AC.fits,FB,bQ,hkn]
         ·refine⟨⟨?_,rfl,rfl, ?_,rfl⟩, ?_⟩
          ·first|(rw[hfree];done)|(rw[hfree];simp[mG])
          ·first|(simp only[mG];omega)|(simp only[mG,hfl2];omega)|(simp[mG,hfl2];omega)
          ·first|exact gU _|exact HY _ _
         ·refine⟨rfl, ?_,rfl,wQ _ ⟨rfl,trivial⟩⟩;simp only[List.cons.injEq,AC.own.injEq,and_true,true_and];omega
         ·exact Yt hpb (m':=bx.length+3) hfit (by simp[FB]) (by simp[FB]) (by simp) (by simp[gu,AC.fits,FB]))
    ·obtain rfl:q=x.args.length:=by omega
     repeat' (first|(refine hq_ ?_;clear hK K)|refine ca_ ?_ ?_|refine gq_ ?_|(refine c2_ ?_ ?_<;>(intro hb hb';try(exfalso;omega)))|refine sz_ (a4_ @GExpr.el @GPart.el @kW (a9_ @kK @mD @kJ @f_.{0} @k_ @a_.{0} hk hka hkl)) ?_|refine nv ?_|(refine rD ?_;intro K hK)|exact bq_|fail)
     simp only[K_];exact Iy ⟨⟨⟨rfl,rfl,rfl,rfl,rfl⟩,gU _⟩,⟨rfl,rfl,rfl,wP _ _⟩,fM (bx:= [_,_,_]) (by simp only[gu,A_,hpb];simp[AC.fits]) (hfit.mono (by simp) (by simp)),rfl⟩)
theorem GPart.expr_wt(x:GPart):x.expr.toD.wt≤x.toD.wt:=by
 simp only[GPart.aj,D.wt,D.wts];omega
theorem RU(pb:List AC)(hpb:∀n m,pb.all (AC.fits n m)=true):∀(n:Nat) (x:GExpr),x.toD.wt<n→IX pb x:=by
 intro n
 induction n with
 |zero=>intro x h;omega
 | succ n ih=>
   intro x h;exact Us pb hpb x (fun y hy=>ih y (by have:=zY hy;omega))
theorem XT(pb:List AC)(hpb:∀n m,pb.all (AC.fits n m)=true)(x:GExpr):IX pb x:=RU pb hpb _ x (Z_ _)
theorem XU(pb:List AC)(hpb:∀n m,pb.all (AC.fits n m)=true)(x:GExpr)(hw:x.toD.wt≤1048576):
 fE Tryz.prog 84 [.bptr 2 0,.c true (x.toD.acs false),.c false [.raw (.slice none 0 0)]] [mG [] 0] (Pm pb 0 []) Ux [mG (x.free []) (x.free []).length] (Pm pb (x.free []).length []):=by
 have h:=XT pb hpb x [] [] (.c false [.sl true []]) 0 [] [] Y7 (by simp;omega) (by simp;omega) (by simp[gu]);simp only[r_,S_,D.av,GExpr.aH]at h;refine NS h fun E w vs hv=> ?_
 match vs,hv with
 | [v1,v2,v3],hv=>exact⟨hv.1,hv.2.1,Zu hv.2.2.1,trivial⟩
def MS :IC:=(zd_ [zz_ 1 (.box (.t 0)),zz_ 2 (.mov (.k (.slice none 0 0)))] (zd_ [zz_ 5 (.brow true 9 1 0 false []),zz_ 3 (.alloc [(.slice none 0 0)]),⟨none,none,.store 1 (.t 3) (.t 5)⟩] (zd_ [zz_ 6 (.mkf 83 [(.t 3)]),zz_ 7 (.bld [.nilFunc,.nilFunc] [(0,1,(.t 6))]),zz_ 8 (.box (.t 7)),zw_ 4 8] (zd_ [zw_ 9 4,zr_ 10 4 1,zz_ 11 (.call 84 [(.t 9),(.t 10),(.k (.slice none 0 0))])] (zd_ [zs_ 12 1 3,zq_ 13 85 12,zw_ 2 13] .ret)))))
theorem MR :ak Tryz.prog (Tryz.f59.body.getD .skip)=some MS:=by kernel_rfl
theorem zl(x:GExpr)(hw:x.toD.wt≤1048576):dU Tryz.prog 59 [x.toD] ((yQ (x.free [])).map ls) 9 1:=by
 refine jH (fn:=Tryz.f59) (t:=2) (hc:=MR) (h:= ?_);change AWP _ _ _ (st0 14 _);have hm:=x.E5 [];have hv:=XU (x.toD.acs false) (fun n m=>by simp[GExpr.aF,AC.fits]) x hw;unfold MS;refine zb_ ?_;simp only[GExpr.aF]at hv;simp only[undef,stS,st0,stN,D.av,D.avN,dn,aY,dA,dw,gy,dD,eY,eX,GExpr.aF,GExpr.aA,GExpr.aH,GExpr.el,GPart.aF,GPart.aA,GPart.aH,GPart.el,h_,m_,B_,y_,r_,l_,s_,D_,E_]
 repeat' (first|(refine hq_ ?_;clear hK K)|refine ca_ ?_ ?_|refine gq_ ?_|(refine c2_ ?_ ?_<;>(intro hb hb';try(exfalso;omega)))|(refine cg_ ?_;first|(refine callS hv ?_)|(refine bP (yP (x.free []) (by omega)) (bC _) ?_ ?_))|refine sz_ (a9_ @GExpr.el @GPart.el @kW @kK @mD @kJ @f_.{0} @k_ @a_.{0}) ?_|refine nv ?_|(refine rD ?_;intro K hK)|exact bq_|fail)
 exact aU ⟨1,0,_,rfl,rfl,rfl,rfl,rfl,rfl,n_ rfl⟩
def MO :IC:=(zd_ [zz_ 1 (.box (.t 0)),zz_ 2 (.mov (.k (.slice none 0 0)))] (.seq (zd_ [zt_ 3 0 1,zs_ 4 1 3,zm_ 5 .neq 4 2] (.cond (.t 5) (zd_ [zz_ 2 (.mov (.k (.slice none 0 0)))] .ret) .skip)) (zd_ [zt_ 6 2 1,zr_ 7 4 6,zq_ 8 59 7,zw_ 2 8] .ret)))
theorem MN :ak Tryz.prog (Tryz.f30.body.getD .skip)=some MO:=by kernel_rfl
theorem uH(x:GPart)(hw:x.expr.toD.wt≤1048576):dU Tryz.prog 30 [x.toD] ((bf x).map ls) 9 1:=by
 refine tJ (fn:=Tryz.f30) (t:=2) (hc:=MN) (h:= ?_);change AWP _ _ _ (st0 9 _);have hf:=zl x.expr hw;unfold MO;refine zb_ ?_;simp only[undef,stS,st0,stN,D.av,D.avN,dn,aY,dA,dw,gy,dD,eY,eX,GExpr.aF,GExpr.aA,GExpr.aH,GExpr.el,GPart.aF,GPart.aA,GPart.aH,GPart.el,h_,m_,B_,y_,r_,l_,s_,D_,E_]
 repeat' (first|(refine hq_ ?_;clear hK K)|refine ca_ ?_ ?_|refine gq_ ?_|(refine c2_ ?_ ?_<;>(intro hb hb';try(exfalso;omega)))|(refine cg_ ?_;first|(refine bP hf (bC _) ?_ ?_))|refine sz_ (a9_ @GExpr.el @GPart.el @kW @kK @mD @kJ @f_.{0} @k_ @a_.{0}) ?_|refine nv ?_|(refine rD ?_;intro K hK)|exact bq_|fail)
 ·have hu:bf x= []:=by simp[bf, *]
  rw[hu];exact WT rfl
 ·have hu:bf x=yQ (x.expr.free []):=by simp[bf, *]
  rw[hu];exact Fe rfl rfl rfl rfl rfl rfl (n_ rfl)
end
section
open List renaming length_append→a_,getElem?_eq_getElem→c_,length_map→d_,append_assoc→f_,map_cons→h_,mem_cons→i_,map_append→j_,length_cons→l_,map_nil→m_,pairwise_cons→p_,nil_append→r_,length_nil→s_,getElem?_map→t_,drop_eq_getElem_cons→u_,take_succ_eq_append_getElem→v_,cons_append→y_,all_cons→A_,replicate→B_,drop_eq_nil_of_le→C_,getElem_mem→F_,take_succ_cons→G_,map_take→I_,getElem_map→J_,take_length→K_,length_take→L_,foldl_cons→M_,append_nil→N_,mem_append→O_,mem_map_of_mem→R_,mem_singleton→T_,mem_mergeSort→U_,foldl_append→W_,map_drop→a_b,mem_map→a_e,length→a_g
open Nat renaming le_refl→b_,add_assoc→k_,lt_of_lt_of_le→o_,le_trans→w_,reduceAdd→D_,reduceSub→E_,mul_one→H_,zero_add→S_,lt_succ_self→Z_,lt_irrefl→a_c
open Lib renaming hid→e_
open Below renaming refl→g_
open Or renaming inl→n_,inr→x_
open Option.some renaming inj→q_
open Value renaming string→z_,int→V_
open Instr renaming slice→P_
open IntKind renaming i64→Q_
theorem Uu(x:GPart):(bf x).length≤1+x.toD.wt:=by
 unfold bf;split
 ·have:=Ht (x.expr.free []);have:=x.expr.iH [];have:=x.expr_wt;omega
 ·simp
theorem sJ{l:List GPart}(hw:l.length+D.wts (l.map GPart.toD)≤1048576){k:Nat}(h:k<l.length):(l[k]).expr.toD.wt≤1048576:=by
 have h4:=su (l.map GPart.toD) k (by simpa using h);rw[J_]at h4;have:=(l[k]).expr_wt;omega
theorem uO(l:List GPart)(s:ByteArray)(hn:l.length≤1048576):aB Tryz.prog 53 [.sl (l.map GPart.toD),ls s] (.c false [.raw (.int .i64 (oC (bg l s l.length)))]):=vV fun w vs hr=>by
 obtain⟨v,u,rfl,h1,h2⟩:=Ll hr;obtain⟨fp,hS⟩:=uQ h1;obtain rfl:=qg h2;exact sG l s fp v w hS hn
theorem uP(l:List GPart)(s:ByteArray)(hn:l.length≤1048576):aB Tryz.prog 60 [.sl (l.map GPart.toD),ls s] (.c false [.raw (.int .i64 (oC (bg l s l.length)))]):=vV fun w vs hr=>by
 obtain⟨v,u,rfl,h1,h2⟩:=Ll hr;obtain⟨fp,hS⟩:=uQ h1;obtain rfl:=qg h2;exact yU l s fp v w hS hn
end
end Go.Proofs.YtagaefgglphkgaaGreat
