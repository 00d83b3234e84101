/-
  Texts joined: At Tab Ir Ir2 Eqs Ir3 Ir4 Ir5 Ir6 Ir7.
-/
import Derived.Test.YtagaefgglphkgaaJA
import Derived.Lib.AppendStr
import Derived.Laws.Tables
import Derived.Great.BuildSlice
import Derived.Laws.CopyRow
import Derived.Laws.Cells
import Derived.DeepKeys
set_option linter.unusedSimpArgs false
set_option linter.unusedVariables false
namespace Go.Proofs.Ytagaefgglphkgaa
open Go.RowKit
open List renaming getElem?_eq_some_iff→a_,append_assoc→b_,getElem?_append_left→c_,getElem?_append_right→k_,length_take→l_,mem_append→m_,getElem?_eq_getElem→n_,length_append→p_,getElem?_set_self→s_,eq_nil_of_length_eq_zero→t_,length_cons→u_,mem_of_getElem? →v_,map_cons→w_,take_left→y_,size_toArray→z_,length_drop→B_,singleton_append→C_,mem_iff_getElem? →D_,flatMap_append→F_,nodup_append→K_,drop_eq_getElem_cons→M_,pairwise_iff_getElem→N_,mem_flatMap→R_,drop_drop→Z_,drop_zero→a_a,getElem?_eq_none→a_b,getElem?_set_ne→a_c,getElem?_append→a_d,getElem?_take→a_e,getElem?_drop→a_f,getElem?_set→a_l,getElem?_map→a_m,flatMap_map→a_p,nodup_cons→a_q,drop_left'→a_s,range→a_v,map_append→a_w,mem_cons→a_z,take_add→a_A,mem_map→a_D,map_nil→a_E
open Or renaming inl→d_,inr→g_
open Value renaming ownBlock→e_,cells→q_,slice→a_n,oneCell'→a_x
open Op renaming equalIn→f_,bytesLess→T_,equal→V_,eqFields→a_o
open Nat renaming le_trans→h_,le_refl→r_,mul_le_mul_right→E_,lt_of_lt_of_le→H_,add_zero→O_,le_of_eq→Q_,zero_le→X_,add_mul→Y_,zero_add→a_g,lt_or_ge→a_i,min_eq_left→a_r,add_assoc→a_B
open Option.some renaming injEq→i_,inj→a_u
open Builtin renaming append_→j_,lenOf→I_,firstCells→a_h
open BitVec renaming ofInt→o_
open Bool renaming false_eq_true→x_,and_eq_true→U_
open Option renaming map_eq_some_iff→A_,map_some→W_,toList→a_y
open Instr renaming sureAddr→G_,loadAt→a_j,field→a_H,fill→a_I
open Result renaming andThen_ok→J_
open Below renaming refl→L_,heap_alloc→P_
open Sem renaming run_bind→S_
def aS(w:World)(base:Nat)(e:TypeId)(s:Nat)(v:Value)(n:Nat)(xs:List Value):Prop:=
 xs.length=n*s∧((v= .slice none 0 0∧n=0)∨∃g z cap cur,v= .slice (some ⟨g,z,none⟩) n cap∧base≤g∧w.heap[g]? =some (.cells cur e (0,0))∧n≤cap∧cap≤maxLen∧z+cap*s≤cur.size∧(cur.toList.drop z).take (n*s)=xs)
def ug :Value→Option (Nat×Nat)
 | .slice (some a) _ _=>some (a.block,a.off)
 |_=>none
theorem ng(b o n:Nat):(⟨b,o,none⟩:Addr).add n=⟨b,o+n,none⟩:=by
 unfold Addr.add;split
 ·next h=>subst h;rfl
 ·rfl
section
variable{w w':World}{base:Nat}{e:TypeId}{s:Nat}{v:Value}{n:Nat}{xs:List Value}
theorem aS.of(h:w.ownsRow base e s v n xs):aS w base e s v n xs:=by
 refine⟨h.1, ?_⟩;rcases h.2 with h2|⟨g,cap,cur,hv,hb,hh,hn,hm,hs,ht⟩
 ·exact d_ h2
 ·exact g_ ⟨g,0,cap,cur,hv,hb,hh,hn,hm,by omega,by simpa using ht⟩
theorem aS.nil :aS w base e s (.slice none 0 0) 0 []:=⟨by simp,d_ ⟨rfl,rfl⟩⟩
theorem aS.lt(h:aS w base e s v n xs):∀k,v.ownBlock=some k→base≤k∧k<w.heap.size:=by
 intro k hk;rcases h.2 with⟨rfl,_⟩|⟨g,z,cap,cur,rfl,hb,hg,_⟩
 ·simp[e_]at hk
 ·simp[e_]at hk;subst hk;exact⟨hb,(Array.getElem?_eq_some_iff.1 hg).1⟩
theorem aS.same(h:aS w base e s v n xs)(hs:∀g,v.ownBlock=some g→w'.heap[g]? =w.heap[g]?):aS w' base e s v n xs:=by
 refine⟨h.1, ?_⟩;rcases h.2 with h2|⟨g,z,cap,cur,rfl,hb,hg,r⟩
 ·exact d_ h2
 ·exact g_ ⟨g,z,cap,cur,rfl,hb,by rw[hs g rfl];exact hg,r⟩
theorem jM(h:aS w base e s v n xs)(hb:Below w.heap.size w w'):aS w' base e s v n xs:=h.same fun g hg=>hb.block g (h.lt g hg).2
theorem kN{base':Nat}(h:aS w base e s v n xs)(hb:base'≤base):aS w base' e s v n xs:=by
 refine⟨h.1, ?_⟩;rcases h.2 with h2|⟨g,z,cap,cur,rfl,hb',r⟩
 ·exact d_ h2
 ·exact g_ ⟨g,z,cap,cur,rfl,h_ hb hb',r⟩
theorem jE(h:aS w base e s v n xs):∃A c,v= .slice A n c:=by
 rcases h.2 with⟨rfl,rfl⟩|⟨g,z,cap,cur,rfl,_⟩
 ·exact⟨none,0,rfl⟩
 ·exact⟨_,_,rfl⟩
theorem aS.at_(h:aS w base e s v n xs){g z:Nat}(hg:ug v=some (g,z)):At w g z xs∧g<w.heap.size:=by
 rcases h.2 with⟨rfl,rfl⟩|⟨g',z',cap,cur,rfl,hb,hh,hn,hm,hsz,ht⟩
 ·simp[ug]at hg
 ·simp[ug]at hg;obtain⟨rfl,rfl⟩:=hg;refine⟨fun j u hj=> ?_,(Array.getElem?_eq_some_iff.1 hh).1⟩;subst ht;simp only[World.cell?,hh];rw[a_e]at hj;split at hj
  ·rw[a_f]at hj;simpa using hj
  ·cases hj
theorem Sl.kU{l:List D}{fp:List Nat}{cs:List Value}(h:aS w base e s v l.length cs)(hr:Rs w l fp cs):Sl w l (v.ownBlock.toList++fp) v:=by
 unfold Sl;rw[R];rcases h.2 with⟨rfl,h3⟩|⟨g,z,cap,cur,rfl,hg,hh,hn,hm,hsz,ht⟩
 ·have hl:l= []:=t_ h3;subst hl;exact⟨none,0,by simp,by simp,by simp,d_ ⟨rfl,by simpa[e_]using hr.1⟩⟩
 ·obtain⟨h1,h2⟩:=h.at_ (g:=g) (z:=z) rfl
  exact⟨some ⟨g,z,none⟩,cap,rfl,hn,hm,g_ ⟨g,z,fp,cs,rfl,by simp[e_],h2,hr,h1⟩⟩
theorem aX.kU{fp:List Nat}{cs:List Value}(h:aS w base e s v n cs)(hf:aX w base fp)(hn:∀g,v.ownBlock=some g→g∉fp):aX w base (v.ownBlock.toList++fp):=by
 rcases h.2 with⟨rfl,h3⟩|⟨g,z,cap,cur,rfl,hg,hh,_⟩
 ·simpa[e_]using hf
 ·refine⟨by simp only[e_,a_y,C_,a_q];exact⟨hn g rfl,hf.1⟩,fun b hb=> ?_⟩;simp only[e_,a_y,C_,a_z]at hb;rcases hb with rfl|hb
  ·refine⟨hg,fun o=> ?_⟩;simp only[World.frozen?,hh];simp
  ·exact hf.2 b hb
theorem aS.sub{A:Option Addr}{cap a b:Nat}(h:aS w base e s (.slice A n cap) n xs)(hab:a≤b)(hb:b≤n):aS w base e s (sliced A a b cap s) (b - a) ((xs.take (b*s)).drop (a*s)):=by
 have hlen:=h.1;have h1:a*s≤b*s:=E_ _ hab;have h2:b*s≤n*s:=E_ _ hb;refine⟨by rw[B_,l_,hlen,Nat.sub_mul];omega, ?_⟩;rcases h.2 with⟨hv,rfl⟩|⟨g,z,cap',cur,hv,hbase,hh,hn,hm,hsz,ht⟩
 ·injection hv with e1 e2 e3
  subst e1 e3;have:a=0:=by omega
  have:b=0:=by omega
  subst a b;exact d_ ⟨by simp[sliced],rfl⟩
 ·injection hv with e1 e2 e3
  subst e1 e3;by_cases hc:cap=a
  ·have:b=a:=by omega
   subst this;refine g_ ⟨g,z,0,cur, ?_,hbase,hh,by omega,X_ _,by have:=X_ (cap*s);omega, ?_⟩
   ·unfold sliced;rw[if_pos hc];congr 1;omega
   ·rw[show(xs.take (b*s)).drop (b*s)= [] from List.drop_eq_nil_of_le (by rw[l_];omega)];simp
  ·refine g_ ⟨g,z+a*s,cap - a,cur, ?_,hbase,hh,by omega,by omega, ?_, ?_⟩
   ·unfold sliced;rw[if_neg hc,W_,ng]
   ·have:(cap - a)*s+a*s=cap*s:=by rw[← Y_];congr 1;omega
    omega
   ·subst ht;rw[List.take_take,a_r h2,List.drop_take,Z_,Nat.sub_mul]
theorem D8{A:Option Addr}{a b cap s:Nat}:(sliced A a b cap s).ownBlock=(a_n A 0 0).ownBlock:=by
 unfold sliced;cases A with
 |none=>split<;>rfl
 | some x=>
   split
   ·rfl
   ·simp only[W_,e_,Addr.add];split<;>rfl
end
section
variable{P:Program}(w:World)
theorem wR(t ty e:TypeId)(i:TypeInfo)(ht:P.underlying t=some (.slice e))(hi:P.info? e=some i)
 (g z sLen sCap:Nat) (cur:Array Value) (hg:w.heap[g]? =some (.cells cur e (0,0)))
 (a:Addr) (m c:Nat) (news:List Value) (hl:news.length=m*i.size) (hnews:∀j u,news[j]? =some u→w.cell? (a.add j)=some u) (h1:∀u∈news,u.oneCell'=true)
 (hroom:sLen+m≤sCap) (hfit:z+sLen*i.size+news.length≤cur.size):
 (j_ #[t,t] ty #[.slice (some ⟨g,z,none⟩) sLen sCap,.slice (some a) m c]).run P w=
  .ok (.slice (some ⟨g,z,none⟩) (sLen+m) sCap) (w.setRow g (cur.toList.take (z+sLen*i.size)++news++cur.toList.drop (z+sLen*i.size+news.length)).toArray):=by
 have hf:=run_firstCells_some (P:=P) w i.size m a m c news hl hnews;have hst:=run_storeCells_at P g (z+sLen*i.size) e news 0 cur w hg (by simpa using hfit) h1;simp only[O_]at hst;simp[j_,run_underlying ht,sizeOf,typeInfo,hi,I_,hroom,hf,ng,hst]
theorem sG(base:Nat)(t ty e:TypeId)(i:TypeInfo)(z:Value)(size bytes:Nat)(ht:P.underlying t=some (.slice e))(hi:P.info? e=some i)(hz:i.zero=some z)
 (hsize:i.size=size) (hby:i.bytes=bytes) (hzs:z.cells.size=size) (hsz:0<size)
 (v:Value) (n:Nat) (xs:List Value) (hown:aS w base e size v n xs)
 (a:Addr) (m c:Nat) (news:List Value) (hl:news.length=m*size) (hnews:∀j u,news[j]? =some u→w.cell? (a.add j)=some u) (h1:∀u∈news,u.oneCell'=true)
 (h63:n+m≤maxLen) (hbytes:(n+m)*bytes≤140737488355328) (hbase:base≤w.heap.size):
 ∃v' w',(j_ #[t,t] ty #[v,.slice (some a) m c]).run P w= .ok v' w'∧aS w' base e size v' (n+m) (xs++news)∧w.grownBy w' v.ownBlock∧(v'.ownBlock=v.ownBlock∨v'.ownBlock=some w.heap.size):=by
 subst hsize;subst hby
 have hsmall:n+m≤9223372036854775807:=by simp only[maxLen]at h63;omega
 have hlen:(xs++news).length=(n+m)*i.size:=by rw[p_,hown.1,hl,Y_]
 rcases hown.2 with⟨rfl,rfl⟩|⟨g,zz,cap,cur,rfl,hbg,hg,hnc,hcm,hcs,htake⟩
 ·have hx:xs= []:=t_ (by simpa using hown.1);subst hx;obtain⟨v',w',hr,h2,h3,_,h5⟩:=run_append_own_at (P:=P) w base t ty e i z i.size i.bytes ht hi hz rfl rfl hzs hsz (.slice none 0 0) 0 [] (World.ownsRow_nil w base e i.size) a m c news hl hnews h1 h63 hbytes hbase;exact⟨v',w',hr,aS.of h2,h3,h5⟩
 ·by_cases hroom:n+m≤cap
  ·have hmul:n*i.size+m*i.size≤cap*i.size:=by rw[← Y_];exact E_ _ hroom
   have hr:=wR (P:=P) w t ty e i ht hi g zz n cap cur hg a m c news hl hnews h1 hroom (by omega);refine⟨_,_,hr,⟨hlen,.inr ⟨g,zz,cap,_,rfl,hbg,setRow_heap w g cur _ e _ hg,hroom,hcm, ?_, ?_⟩⟩,⟨rfl,rfl,rfl,by simp,fun k _ hk=>setRow_other w g k _ (fun e=>hk (by simp[e_,e]))⟩,d_ rfl⟩
   ·simp only[z_,p_,l_,B_,Array.length_toList];omega
   ·have e1:cur.toList.take (zz+n*i.size)=cur.toList.take zz++xs:=by rw[a_A,htake]
    have hzl:(cur.toList.take zz).length=zz:=by rw[l_,Array.length_toList];omega
    rw[e1,b_,b_,a_s hzl,← b_,← hlen];exact y_
  ·have holds:∀j u,xs[j]? =some u→w.cell? ((⟨g,zz,none⟩:Addr).add j)=some u:=fun j u hj=>by
    rw[ng];exact(hown.at_ (g:=g) (z:=zz) rfl).1 j u hj
   have hr:=run_append_grow (P:=P) w t ty e i z ht hi hz ⟨g,zz,none⟩ n cap xs hown.1 holds a m c news hl hnews (by omega) (by omega) (growslice_fits (by omega) hbytes);have hge:=grownCap_ge w (n+m) cap e;have hcm':grownCap w (n+m) cap e≤maxLen:=grownCap_le_maxLen w (n+m) cap e h63;refine⟨_,_,hr,⟨hlen,.inr ⟨w.heap.size,0,_,_,rfl,hbase,heap_alloc_new w.drew _,hge,hcm', ?_, ?_⟩⟩,⟨rfl,rfl,rfl,by simp,fun k hk _=>(P_ w.drew _ k hk).trans rfl⟩,g_ rfl⟩
   ·simp only[Array.size_append,z_,size_zeroCells,hzs,hown.1,hl,← Y_];rw[a_g];refine Q_ ?_;congr 1;omega
   ·simp only[Array.toList_append,b_,a_a];rw[← b_,← hlen];exact y_
theorem sW(base:Nat)(t ty e:TypeId)(i:TypeInfo)(size:Nat)(ht:P.underlying t=some (.slice e))(hi:P.info? e=some i)(v:Value)(n:Nat)(xs:List Value)(hown:aS w base e size v n xs)(c:Nat):
 (j_ #[t,t] ty #[v,.slice none 0 c]).run P w= .ok v w:=by
 rcases hown.2 with⟨rfl,rfl⟩|⟨g,zz,cap,cur,rfl,hbg,hg,hnc,hcm,hcs,htake⟩
 ·simp[j_,run_underlying ht,sizeOf,typeInfo,hi,I_,a_h]
 ·simp[j_,run_underlying ht,sizeOf,typeInfo,hi,I_,a_h,hnc,storeCells]
end
section
variable{P:Program}(w:World)
open Go.Lib in
theorem oO(t u ty e:TypeId)(i:TypeInfo)(ht:P.underlying t=some (.slice e))(hu:P.underlying u=some .string)(hi:P.info? e=some i)(hs1:i.size=1)
 (g z sLen sCap:Nat) (cur:Array Value) (hg:w.heap[g]? =some (.cells cur e (0,0))) (s:ByteArray) (hroom:sLen+s.size≤sCap) (hfit:z+sLen+s.size≤cur.size):
 (j_ #[t,u] ty #[.slice (some ⟨g,z,none⟩) sLen sCap,.string s]).run P w=
  .ok (.slice (some ⟨g,z,none⟩) (sLen+s.size) sCap) (w.setRow g (cur.toList.take (z+sLen)++strCells s++cur.toList.drop (z+sLen+s.size)).toArray):=by
 have hf:=run_firstCells_string (P:=P) w 1 s;have hst:=run_storeCells_at P g (z+sLen) e (strCells s) 0 cur w hg (by simpa[strCells_length]using hfit) (strCells_oneCell s);simp only[O_,strCells_length]at hst;simp[j_,run_underlying ht,run_underlying hu,sizeOf,typeInfo,hi,hs1,I_,hroom,hf,ng,hst]
open Go.Lib in
theorem qK(base:Nat)(t u ty e:TypeId)(i:TypeInfo)(z:Value)(ht:P.underlying t=some (.slice e))(hu:P.underlying u=some .string)(hi:P.info? e=some i)(hz:i.zero=some z)
 (hzi:z= .int .u8 0) (hsize:i.size=1) (hby:i.bytes=1) (v:Value) (n:Nat) (xs:List Value) (hown:aS w base e 1 v n xs) (s:ByteArray)
 (h63:n+s.size≤maxLen) (hbytes:n+s.size≤140737488355328) (hbase:base≤w.heap.size):
 ∃v' w',(j_ #[t,u] ty #[v,.string s]).run P w= .ok v' w'∧aS w' base e 1 v' (n+s.size) (xs++strCells s)∧w.grownBy w' v.ownBlock∧(v'.ownBlock=v.ownBlock∨v'.ownBlock=some w.heap.size):=by
 have hsmall:n+s.size≤9223372036854775807:=by simp only[maxLen]at h63;omega
 have hxl:xs.length=n:=by have:=hown.1;omega
 have hlen:(xs++strCells s).length=(n+s.size)*1:=by rw[p_,hxl,strCells_length];omega
 subst hzi;rcases hown.2 with⟨rfl,rfl⟩|⟨g,zz,cap,cur,rfl,hbg,hg,hnc,hcm,hcs,htake⟩
 ·have hx:xs= []:=t_ (by omega);subst hx;by_cases h0:s.size=0
  ·obtain⟨v',w',hr,h2,h3,h4⟩:=run_append_own_string (P:=P) w base t u ty e i ht hu hi hz hsize hby (.slice none 0 0) 0 [] (World.ownsRow_nil w base e 1) s h63 hbytes hbase;obtain rfl:=h4.2 ⟨rfl,h0⟩;exact⟨_,w',hr,aS.of h2,h3,d_ rfl⟩
  ·have hr:=run_append_nil_string (P:=P) (ty:=ty) w t u e i (.int .u8 0) ht hu hi hz s (by omega) (by omega) (by rw[hby];omega);have hge:=grownCap_ge w s.size 0 e;have hcm':grownCap w s.size 0 e≤maxLen:=grownCap_le_maxLen w s.size 0 e (by omega);refine⟨_,_,hr,⟨hlen,.inr ⟨w.heap.size,0,_,_,by rw[a_g],hbase,heap_alloc_new w.drew _,by omega,hcm', ?_, ?_⟩⟩,⟨rfl,rfl,rfl,by simp,fun k hk _=>(P_ w.drew _ k hk).trans rfl⟩,g_ rfl⟩
   ·have hsd:s.data.size=s.size:=rfl;simp only[Array.size_append,Array.size_map,size_zeroCells,hsd,q_];simp;omega
   ·simp only[Array.toList_append,Array.toList_map,List.nil_append,a_a,a_g,Nat.mul_one];rw[← strCells_length];exact y_
 ·by_cases hroom:n+s.size≤cap
  ·have hr:=oO (P:=P) w t u ty e i ht hu hi hsize g zz n cap cur hg s hroom (by omega);refine⟨_,_,hr,⟨hlen,.inr ⟨g,zz,cap,_,rfl,hbg,setRow_heap w g cur _ e _ hg,hroom,hcm, ?_, ?_⟩⟩,⟨rfl,rfl,rfl,by simp,fun k _ hk=>setRow_other w g k _ (fun e=>hk (by simp[e_,e]))⟩,d_ rfl⟩
   ·simp only[z_,p_,l_,B_,Array.length_toList,strCells_length];omega
   ·have e1:cur.toList.take (zz+n)=cur.toList.take zz++xs:=by
     rw[a_A];rw[Nat.mul_one]at htake;rw[htake]
    have hzl:(cur.toList.take zz).length=zz:=by rw[l_,Array.length_toList];omega
    rw[e1,b_,b_,a_s hzl,← b_,← hlen];exact y_
  ·have holds:∀j u,xs[j]? =some u→w.cell? ((⟨g,zz,none⟩:Addr).add j)=some u:=fun j u hj=>by
    rw[ng];exact(hown.at_ (g:=g) (z:=zz) rfl).1 j u hj
   have hr:=run_append_grow_string (P:=P) w t u ty e i (.int .u8 0) ht hu hi hz ⟨g,zz,none⟩ n cap xs (by rw[hxl,hsize];omega) holds s (by omega) (by omega) (by rw[hby];exact growslice_fits (by omega) (by omega));have hge:=grownCap_ge w (n+s.size) cap e;have hcm':grownCap w (n+s.size) cap e≤maxLen:=grownCap_le_maxLen w (n+s.size) cap e h63;refine⟨_,_,hr,⟨hlen,.inr ⟨w.heap.size,0,_,_,rfl,hbase,heap_alloc_new w.drew _,hge,hcm', ?_, ?_⟩⟩,⟨rfl,rfl,rfl,by simp,fun k hk _=>(P_ w.drew _ k hk).trans rfl⟩,g_ rfl⟩
   ·simp only[Array.size_append,z_,size_zeroCells,hxl,strCells_length,q_];simp;omega
   ·simp only[Array.toList_append,b_,a_a];rw[← b_,← hlen];exact y_
end
theorem Sl.sub{w:World}{l:List D}{fp:List Nat}{A:Option Addr}{n cap s x y:Nat}(h:Sl w l fp (.slice A n cap))(hs:∀d∈l,d.sz=s)(hxy:x≤y)(hy:y≤l.length):
 ∃f,Sl w ((l.take y).drop x) f (sliced A x y cap s)∧∀b∈f,b∈fp:=by
 obtain⟨A',c',e1,h1,h2⟩:=h.form;injection e1 with e1 e2 e3
 subst e1 e2 e3;by_cases he:x=y
 ·subst he;refine⟨[], ?_,fun b hb=>by simp at hb⟩;unfold Sl;have:(l.take x).drop x= []:=by simp
  rw[this,R];exact⟨if cap=x then A else A.map (·.add (x*s)),cap - x,by simp[sliced],by simp,by omega,d_ ⟨rfl,rfl⟩⟩
 ·obtain⟨f1,h3,h4⟩:=Sl.take h hy;have hpos:0<l.length:=by omega
  have h':=h;unfold Sl at h';rw[R]at h';obtain⟨A',c',g1,g2,g3,g4⟩:=h';simp only[List.cons.injEq,and_true,Value.slice.injEq]at g1;obtain⟨rfl,_,rfl⟩:=g1;rcases g4 with⟨rfl,_⟩|⟨b,o,fp',cs',rfl,rfl,_⟩
  ·simp at hpos
  ·obtain⟨f2,h5,h6⟩:=Sl.drop h3 (s:=s) (fun d hd=>hs d (List.mem_of_mem_take hd)) (k:=x) (by rw[l_];omega);refine⟨f2, ?_,fun z hz=>h4 z (h6 z hz)⟩;have:sliced (some ⟨b,o,none⟩) x y cap s= .slice (some ⟨b,o+x*s,none⟩) (y - x) (cap - x):=by
    unfold sliced;rw[if_neg (by omega),W_,ng]
   rw[this];exact h5
def nM(w:World):Prop:=True
theorem N7{w w':World}(h:nM w)(hb:Below w.heap.size w w'):nM w':=trivial
inductive AC where
 |any
 |raw (v:Value)
 |sl (n:Bool) (l:List D)
 |own (k i:Nat)
 |osub (k i a b:Nat)
 |cl (f:Nat) (caps:List Nat)
inductive AV where
 |any
 |c (g:Bool) (xs:List AC)
 |ptr (xs:List AC)
 |bptr (k off:Nat)
 |eptr (k i j off:Nat)
 |tup (ys:List (Bool×List AC))
structure Nw where
 n:Bool
 lin:Bool
instance:Coe Bool Nw:=⟨fun b=>⟨b,false⟩⟩
structure Own where
 l:List D
 e:TypeId
 s:Nat
 ver:Nat
 nw:Nw
structure St where
 fr:List AV
 owns:List Own
 boxes:List (List AC)
structure Env where
 B:Nat
 om:List (Value×List Nat)
 bm:List (Nat×TypeId)
 X:List Nat
def Env.nw(E:Env)(b:Nat):Prop:=E.B≤b∨b∈E.X
def Env.M(E:Env):List Nat:=E.bm.map (·.1)++E.om.flatMap (fun p=>p.1.ownBlock.toList)
def AC.ok(E:Env)(os:List Own)(w:World):AC→Value→Prop
 | .any,_=>True
 | .raw u,v=>v=u
 | .sl n l,v=>∃fp,Sl w l fp v∧∀b∈fp,b∉E.M∧(n=true→E.nw b)
 | .own k i,v=>(∃A n c,v=a_n A n c)∧∃o p,os[k]? =some o∧E.om[k]? =some p∧i≤o.ver∧(o.ver=i→v=p.1)
 | .osub k i a b,v=>(∃A n c,v=a_n A n c)∧∃o p,os[k]? =some o∧E.om[k]? =some p∧i≤o.ver∧(o.ver=i→∃A n c,p.1= .slice A n c∧a≤b∧b≤n∧v=sliced A a b c o.s)
 | .cl f caps,v=>∃ps:List (Nat×TypeId),caps.map (fun k=>E.bm[k]?)=ps.map some∧v= .func (.func f) #[] (ps.map fun p=> .pointer (some ⟨p.1,0,none⟩)).toArray
def Oks(E:Env)(os:List Own)(w:World):List AC→List Value→Prop
 | [],[]=>True
 |x::xs,v::vs=>x.ok E os w v∧Oks E os w xs vs
 |_,_=>False
def Gok(E:Env)(os:List Own)(w:World)(g:Bool)(xs:List AC)(v:Value):Prop:=
 if g then∃vs,v= .agg vs.toArray∧Oks E os w xs vs else Oks E os w xs [v]
def oK(E:Env)(os:List Own)(w:World):List (Bool×List AC)→List Value→Prop
 | [],[]=>True
 |x::xs,v::vs=>Gok E os w x.1 x.2 v∧oK E os w xs vs
 |_,_=>False
def AV.ok(E:Env)(os:List Own)(w:World):AV→Value→Prop
 | .any,_=>True
 | .c g xs,v=>Gok E os w g xs v
 | .ptr xs,v=>∃b o vs,v= .pointer (some ⟨b,o,none⟩)∧b<w.heap.size∧b∉E.M∧At w b o vs∧Oks E os w xs vs
 | .bptr k off,v=>∃p,E.bm[k]? =some p∧v= .pointer (some ⟨p.1,off,none⟩)
 | .eptr k i j off,v=>∃o p,os[k]? =some o∧E.om[k]? =some p∧i≤o.ver∧(o.ver=i→∃b z,v= .pointer (some ⟨b,z+(j*o.s+off),none⟩)∧ug p.1=some (b,z))
 | .tup ys,v=>∃vs,v= .tuple vs.toArray∧oK E os w ys vs
theorem Oks.len{E:Env}{os:List Own}{w:World}:∀{xs:List AC} {vs:List Value},Oks E os w xs vs→xs.length=vs.length
 | [],[],_=>rfl
 |x::xs,v::vs,h=>by rw[u_,u_,Oks.len h.2]
 | [],_::_,h=>h.elim
 |_::_,[],h=>h.elim
theorem Oks.take{E:Env}{os:List Own}{w:World}:∀{xs:List AC} {vs:List Value},Oks E os w xs vs→∀n,Oks E os w (xs.take n) (vs.take n)
 | [],[],_,n=>by simp[Oks]
 |x::xs,v::vs,h,0=>by simp[Oks]
 |x::xs,v::vs,h,n+1=>⟨h.1,Oks.take h.2 n⟩
 | [],_::_,h,_=>h.elim
 |_::_,[],h,_=>h.elim
theorem Oks.drop{E:Env}{os:List Own}{w:World}:∀{xs:List AC} {vs:List Value},Oks E os w xs vs→∀n,Oks E os w (xs.drop n) (vs.drop n)
 | [],[],_,n=>by simp[Oks]
 |x::xs,v::vs,h,0=>h
 |x::xs,v::vs,h,n+1=>by simpa using Oks.drop h.2 n
 | [],_::_,h,_=>h.elim
 |_::_,[],h,_=>h.elim
theorem Oks.append{E:Env}{os:List Own}{w:World}{ys:List AC}{us:List Value}(h2:Oks E os w ys us):∀{xs:List AC} {vs:List Value},Oks E os w xs vs→Oks E os w (xs++ys) (vs++us)
 | [],[],_=>h2
 |x::xs,v::vs,h=>⟨h.1,Oks.append h2 h.2⟩
 | [],_::_,h=>h.elim
 |_::_,[],h=>h.elim
theorem Oks.get{E:Env}{os:List Own}{w:World}:∀{xs:List AC} {vs:List Value},Oks E os w xs vs→∀{j:Nat} {x:AC},xs[j]? =some x→∃v,vs[j]? =some v∧x.ok E os w v
 | [],[],_,j,x,hx=>by simp at hx
 | y::xs,v::vs,h,0,x,hx=>by
   simp at hx;subst hx;exact⟨v,rfl,h.1⟩
 | y::xs,v::vs,h,j+1,x,hx=>by
   simp at hx;obtain⟨u,h1,h2⟩:=Oks.get h.2 hx;exact⟨u,by simpa using h1,h2⟩
 | [],_::_,h,_,_,_=>h.elim
 |_::_,[],h,_,_,_=>h.elim
structure Sim (E:Env) (os:List Own) (w:World) (E':Env) (os':List Own) (w':World):Prop where
 base:E'.nw=E.nw
 size:w.heap.size≤w'.heap.size
 blk:∀b,b<w.heap.size→b∉E.M→w'.heap[b]? =w.heap[b]?
 old:∀b,b<w.heap.size→b∈E'.M→b∈E.M
 own:∀(k:Nat) (o:Own) (p:Value×List Nat),os[k]? =some o→E.om[k]? =some p→∃(o':Own) (p':Value×List Nat),os'[k]? =some o'∧E'.om[k]? =some p'∧o.ver≤o'.ver∧
  (o.ver=o'.ver→p'.1=p.1∧o.s=o'.s)
 box:∀(k:Nat) (p:Nat×TypeId),E.bm[k]? =some p→E'.bm[k]? =some p
section
variable{E E':Env}{os os':List Own}{w w':World}
theorem AC.ok.sim(h:Sim E os w E' os' w'){x:AC}{v:Value}(hx:x.ok E os w v):x.ok E' os' w' v:=by
 cases x with
 |any=>trivial
 |raw u=>exact hx
 | sl n l=>
   obtain⟨fp,h1,h2⟩:=hx;exact⟨fp,R.same h1 (fun b hb=>h.blk b (R.lt h1 b hb) (h2 b hb).1) h.size,fun b hb=>⟨fun hm=>(h2 b hb).1 (h.old b (R.lt h1 b hb) hm),fun e=>by rw[h.base];exact(h2 b hb).2 e⟩⟩
 | own k i=>
   obtain⟨hv,o,p,h1,h2,h3,h4⟩:=hx;obtain⟨o',p',h5,h6,h7,h8⟩:=h.own k o p h1 h2;refine⟨hv,o',p',h5,h6,h_ h3 h7,fun e=> ?_⟩;have:o.ver=o'.ver:=by omega
   rw[(h8 this).1];exact h4 (by omega)
 | osub k i a b=>
   obtain⟨hv,o,p,h1,h2,h3,h4⟩:=hx;obtain⟨o',p',h5,h6,h7,h8⟩:=h.own k o p h1 h2;refine⟨hv,o',p',h5,h6,h_ h3 h7,fun e=> ?_⟩;have e':o.ver=o'.ver:=by omega
   obtain⟨A,n,c,q1,q2,q3,q4⟩:=h4 (by omega);obtain⟨h13,h14⟩:=h8 e';exact⟨A,n,c,by rw[h13];exact q1,q2,q3,by rw[← h14];exact q4⟩
 | cl f caps=>
   obtain⟨ps,h1,h2⟩:=hx;refine⟨ps, ?_,h2⟩;clear h2
   induction caps generalizing ps with
   |nil=>exact h1
   | cons k caps ih=>
     cases ps with
     |nil=>simp at h1
     | cons p ps=>
       simp only[w_,List.cons.injEq]at h1⊢;exact⟨h.box k p h1.1,ih ps h1.2⟩
theorem Oks.sim(h:Sim E os w E' os' w'):∀{xs:List AC} {vs:List Value},Oks E os w xs vs→Oks E' os' w' xs vs
 | [],[],_=>trivial
 |x::xs,v::vs,hx=>⟨hx.1.sim h,Oks.sim h hx.2⟩
 | [],_::_,h=>h.elim
 |_::_,[],h=>h.elim
theorem Gok.sim(h:Sim E os w E' os' w'){g:Bool}{xs:List AC}{v:Value}(hx:Gok E os w g xs v):Gok E' os' w' g xs v:=by
 unfold Gok at*;split at hx
 ·obtain⟨vs,h1,h2⟩:=hx;rw[if_pos ‹_›];exact⟨vs,h1,h2.sim h⟩
 ·rw[if_neg ‹_›];exact hx.sim h
theorem oK.sim(h:Sim E os w E' os' w'):∀{xs:List (Bool×List AC)} {vs:List Value},oK E os w xs vs→oK E' os' w' xs vs
 | [],[],_=>trivial
 |x::xs,v::vs,hx=>⟨hx.1.sim h,oK.sim h hx.2⟩
 | [],_::_,h=>h.elim
 |_::_,[],h=>h.elim
theorem At.blk{b o:Nat}{vs:List Value}(h:At w b o vs)(hb:w'.heap[b]? =w.heap[b]?):At w' b o vs:=fun j u hj=>(World.cell?_of_block (a:=⟨b,o+j,none⟩) hb).trans (h j u hj)
theorem AV.ok.sim(h:Sim E os w E' os' w'){x:AV}{v:Value}(hx:x.ok E os w v):x.ok E' os' w' v:=by
 cases x with
 |any=>trivial
 |c g xs=>exact Gok.sim h hx
 | ptr xs=>
   obtain⟨b,o,vs,h1,h2,h3,h4,h5⟩:=hx;exact⟨b,o,vs,h1,H_ h2 h.size,fun hm=>h3 (h.old b h2 hm),h4.blk (h.blk b h2 h3),h5.sim h⟩
 | bptr k off=>
   obtain⟨p,h1,h2⟩:=hx;exact⟨p,h.box k p h1,h2⟩
 | eptr k i j off=>
   obtain⟨o,p,h1,h2,h3,h4⟩:=hx;obtain⟨o',p',h5,h6,h7,h8⟩:=h.own k o p h1 h2;refine⟨o',p',h5,h6,h_ h3 h7,fun e=> ?_⟩;have e':o.ver=o'.ver:=by omega
   obtain⟨b,z,h9,h10⟩:=h4 (by omega);obtain⟨h13,h14⟩:=h8 e';exact⟨b,z,by rw[← h14];exact h9,by rw[h13];exact h10⟩
 | tup ys=>
   obtain⟨vs,h1,h2⟩:=hx;exact⟨vs,h1,h2.sim h⟩
end
structure Org where
 E:Env
 os:List Own
 w:World
theorem Sim.refl(E:Env)(os:List Own)(w:World):Sim E os w E os w where
 base:=rfl
 size:=r_ _
 blk:=fun _ _ _=>rfl
 old:=fun _ _ h=>h
 own:=fun k o p h1 h2=>⟨o,p,h1,h2,r_ _,fun _=>⟨rfl,rfl⟩⟩
 box:=fun _ _ h=>h
theorem Sim.trans{E E' E'':Env}{os os' os'':List Own}{w w' w'':World}(h:Sim E os w E' os' w')(k:Sim E' os' w' E'' os'' w''):Sim E os w E'' os'' w'' where
 base:=k.base.trans h.base
 size:=h_ h.size k.size
 blk:=fun b hb hm=>(k.blk b (H_ hb h.size) (fun hm'=>hm (h.old b hb hm'))).trans (h.blk b hb hm)
 old:=fun b hb hm=>h.old b hb (k.old b (H_ hb h.size) hm)
 own:=fun j o p h1 h2=>by
  obtain⟨o',p',g1,g2,g3,g4⟩:=h.own j o p h1 h2;obtain⟨o'',p'',q1,q2,q3,q4⟩:=k.own j o' p' g1 g2;refine⟨o'',p'',q1,q2,h_ g3 q3,fun e=> ?_⟩;obtain⟨a1,a2⟩:=g4 (by omega);obtain⟨b1,b2⟩:=q4 (by omega);exact⟨b1.trans a1,a2.trans b2⟩
 box:=fun j p hp=>k.box j p (h.box j p hp)
def El(s:Nat)(l:List D):Prop:=∀d∈l,d.one∧d.sz=s
theorem El.append{s:Nat}{a b:List D}(h:El s a)(k:El s b):El s (a++b):=fun d hd=>(m_.1 hd).elim (h d) (k d)
structure BelowT (B:Nat) (w0 w:World):Prop where
 out:Below B w0 w
 tab:∀w',Below B w w'→nM w'
theorem BelowT.trans{B:Nat}{a b c:World}(h:BelowT B a b)(k:Below B b c):BelowT B a c:=⟨h.out.trans k,fun w' h'=>h.tab w' (k.trans h')⟩
theorem BelowT.grown{B:Nat}{a w w':World}{row:Option Nat}(h:BelowT B a w)(hg:w.grownBy w' row)(hB:B≤w.heap.size)(hr:∀k,row=some k→B≤k):BelowT B a w':=h.trans ((L_ _ _).grown hg hB hr)
theorem BelowT.now{B:Nat}{a w:World}(h:BelowT B a w):nM w:=h.tab w (L_ _ _)
theorem BelowT.start{w:World}(h:nM w):BelowT w.heap.size w w:=⟨L_ _ _,fun _ hb=>N7 h hb⟩
def Lin(om:List (Value×List Nat))(os:List Own):Prop:=
 (∀(k:Nat) (o:Own) (p:Value×List Nat),os[k]? =some o→om[k]? =some p→o.nw.lin=true→p.2.Nodup)∧
  ∀(j k:Nat) (o o':Own) (p p':Value×List Nat),j≠k→os[j]? =some o→os[k]? =some o'→om[j]? =some p→om[k]? =some p'→o.nw.lin=true→o'.nw.lin=true→∀b∈p.2,b∉p'.2
theorem Lin.nil :Lin [] []:=⟨fun k o p h=>by simp at h,fun j k o o' p p' _ h=>by simp at h⟩
def BM(om:List (Value×List Nat))(os:List Own)(k:Nat)(f:List Nat):Prop:=
 f.Nodup∧∀(j:Nat) (o:Own) (p:Value×List Nat),j≠k→os[j]? =some o→om[j]? =some p→o.nw.lin=true→∀b∈f,b∉p.2
theorem Lin.set{om:List (Value×List Nat)}{os:List Own}(h:Lin om os){k:Nat}{o1:Own}{q:Value×List Nat}(h5:o1.nw.lin=true→BM om os k q.2):Lin (om.set k q) (os.set k o1):=by
 have hg:∀(j:Nat) (o:Own) (p:Value×List Nat),(os.set k o1)[j]? =some o→(om.set k q)[j]? =some p→(j=k∧o=o1∧p=q)∨(j≠k∧os[j]? =some o∧om[j]? =some p):=by
  intro j o p h1 h2;by_cases e:k=j
  ·subst e;have l1:=(a_.1 h1).1;have l2:=(a_.1 h2).1;rw[s_ (by simpa using l1)]at h1;rw[s_ (by simpa using l2)]at h2;exact d_ ⟨rfl,(a_u h1).symm,(a_u h2).symm⟩
  ·rw[a_c e]at h1 h2;exact g_ ⟨fun e'=>e e'.symm,h1,h2⟩
 refine⟨fun j o p h1 h2 h3=> ?_,fun i j o o' p p' hij h1 h2 h3 h4 h6 h7 b hb=> ?_⟩
 ·rcases hg j o p h1 h2 with⟨_,rfl,rfl⟩|⟨_,g1,g2⟩
  ·exact(h5 h3).1
  ·exact h.1 j o p g1 g2 h3
 ·rcases hg i o p h1 h3 with⟨rfl,rfl,rfl⟩|⟨e1,g1,g2⟩
  ·rcases hg j o' p' h2 h4 with⟨rfl,_,_⟩|⟨e2,g3,g4⟩
   ·exact absurd rfl hij
   ·exact(h5 h6).2 j o' p' e2 g3 g4 h7 b hb
  ·rcases hg j o' p' h2 h4 with⟨rfl,rfl,rfl⟩|⟨e2,g3,g4⟩
   ·exact fun hm=>(h5 h7).2 i o p e1 g1 g2 h6 b hm hb
   ·exact h.2 i j o o' p p' hij g1 g3 g2 g4 h6 h7 b hb
theorem Lin.app{om om':List (Value×List Nat)}{os os':List Own}(h:Lin om os)(h':Lin om' os')(hl:om.length=os.length)
 (hd:∀(j k:Nat) (o o':Own) (p p':Value×List Nat),os[j]? =some o→os'[k]? =some o'→om[j]? =some p→om'[k]? =some p'→o.nw.lin=true→o'.nw.lin=true→∀b∈p.2,b∉p'.2):Lin (om++om') (os++os'):=by
 have hg:∀(j:Nat) (o:Own) (p:Value×List Nat),(os++os')[j]? =some o→(om++om')[j]? =some p→(j<os.length∧os[j]? =some o∧om[j]? =some p)∨(os.length≤j∧os'[j - os.length]? =some o∧om'[j - os.length]? =some p):=by
  intro j o p h1 h2;rcases a_i j os.length with hlt|hge
  ·rw[c_ hlt]at h1;rw[c_ (by omega)]at h2;exact d_ ⟨hlt,h1,h2⟩
  ·rw[k_ hge]at h1;rw[k_ (by omega),hl]at h2;exact g_ ⟨hge,h1,h2⟩
 refine⟨fun j o p h1 h2 h3=> ?_,fun i j o o' p p' hij h1 h2 h3 h4 h6 h7 b hb=> ?_⟩
 ·rcases hg j o p h1 h2 with⟨_,g1,g2⟩|⟨_,g1,g2⟩
  ·exact h.1 j o p g1 g2 h3
  ·exact h'.1 _ o p g1 g2 h3
 ·rcases hg i o p h1 h3 with⟨a1,g1,g2⟩|⟨a1,g1,g2⟩<;>rcases hg j o' p' h2 h4 with⟨a2,g3,g4⟩|⟨a2,g3,g4⟩
  ·exact h.2 i j o o' p p' hij g1 g3 g2 g4 h6 h7 b hb
  ·exact hd _ _ o o' p p' g1 g3 g2 g4 h6 h7 b hb
  ·exact fun hm=>hd _ _ o' o p' p g3 g1 g4 g2 h7 h6 b hm hb
  ·exact h'.2 _ _ o o' p p' (fun e=>hij (by omega)) g1 g3 g2 g4 h6 h7 b hb
theorem Lin.one{q:Value×List Nat}{o1:Own}(h:o1.nw.lin=true→q.2.Nodup):Lin [q] [o1]:=by
 refine⟨fun k o p h1 h2 h3=> ?_,fun i j o o' p p' hij h1 h2=> ?_⟩
 ·cases k with
  |zero=>simp at h1 h2;subst h1 h2;exact h h3
  |succ k=>simp at h1
 ·cases i with
  | zero=>cases j with
    |zero=>exact absurd rfl hij
    |succ j=>simp at h2
  |succ i=>simp at h1
theorem Lin.map{om om':List (Value×List Nat)}{os os':List Own}(h:Lin om os)(φ:Nat→Nat)(hi:∀j k,j≠k→j<os'.length→k<os'.length→φ j≠φ k)
 (hg:∀(k:Nat) (o':Own) (p:Value×List Nat),os'[k]? =some o'→om'[k]? =some p→o'.nw.lin=true→p.2= []∨∃o,os[φ k]? =some o∧om[φ k]? =some p∧o.nw.lin=true):Lin om' os':=by
 refine⟨fun k o p h1 h2 h3=> ?_,fun j k o o' p p' hjk h1 h2 h3 h4 h5 h6 b hb hb'=> ?_⟩
 ·rcases hg k o p h1 h2 h3 with e|⟨o1,g1,g2,g3⟩
  ·rw[e];exact List.nodup_nil
  ·exact h.1 _ o1 p g1 g2 g3
 ·rcases hg j o p h1 h3 h5 with e|⟨o1,g1,g2,g3⟩
  ·rw[e]at hb;simp at hb
  ·rcases hg k o' p' h2 h4 h6 with e|⟨o2,g4,g5,g6⟩
   ·rw[e]at hb';simp at hb'
   ·exact h.2 _ _ o1 o2 p p' (hi j k hjk (a_.1 h1).1 (a_.1 h2).1) g1 g4 g2 g5 g3 g6 b hb hb'
def CB(w:World)(f:List Nat):Prop:=∀b∈f,∀z:Nat,w.frozen? ⟨b,z,none⟩=false
def Unf(om:List (Value×List Nat))(os:List Own)(w:World):Prop:=∀(k:Nat) (o:Own) (p:Value×List Nat),os[k]? =some o→om[k]? =some p→o.nw.lin=true→CB w p.2
theorem Unf.nil{w:World}:Unf [] [] w:=fun k o p h=>by simp at h
theorem Unf.one{q:Value×List Nat}{o1:Own}{w:World}(h:o1.nw.lin=true→CB w q.2):Unf [q] [o1] w:=fun k o p h1 h2 h3=>by
 cases k with
 |zero=>simp at h1 h2;subst h1 h2;exact h h3
 |succ k=>simp at h1
theorem Unf.set{om:List (Value×List Nat)}{os:List Own}{w:World}(h:Unf om os w){k:Nat}{o1:Own}{q:Value×List Nat}(h5:o1.nw.lin=true→CB w q.2):Unf (om.set k q) (os.set k o1) w:=fun j o p h1 h2 h3=>by
 by_cases e:k=j
 ·subst e;have l1:=(a_.1 h1).1;have l2:=(a_.1 h2).1;rw[s_ (by simpa using l1)]at h1;rw[s_ (by simpa using l2)]at h2;injection h1 with h1
  injection h2 with h2
  subst h1 h2;exact h5 h3
 ·rw[a_c e]at h1 h2;exact h j o p h1 h2 h3
theorem Unf.app{om om':List (Value×List Nat)}{os os':List Own}{w:World}(h:Unf om os w)(h':Unf om' os' w)(hl:om.length=os.length):Unf (om++om') (os++os') w:=fun j o p h1 h2 h3=>by
 rcases a_i j os.length with hlt|hge
 ·rw[c_ hlt]at h1;rw[c_ (by omega)]at h2;exact h j o p h1 h2 h3
 ·rw[k_ hge]at h1;rw[k_ (by omega),hl]at h2;exact h' _ o p h1 h2 h3
theorem Unf.map{om om':List (Value×List Nat)}{os os':List Own}{w:World}(h:Unf om os w)(φ:Nat→Nat)
 (hg:∀(k:Nat) (o':Own) (p:Value×List Nat),os'[k]? =some o'→om'[k]? =some p→o'.nw.lin=true→p.2= []∨∃o,os[φ k]? =some o∧om[φ k]? =some p∧o.nw.lin=true):Unf om' os' w:=fun k o p h1 h2 h3=>by
 rcases hg k o p h1 h2 h3 with e|⟨o1,g1,g2,g3⟩
 ·rw[e];intro b hb;simp at hb
 ·exact h _ o1 p g1 g2 g3
structure Rel (B:Nat) (Xs:List Nat) (G:Org) (w0:World) (st:St) (E:Env) (a:Act) (w:World):Prop where
 eb:B≤E.B
 ex:E.X=Xs
 sim:Sim G.E G.os G.w E st.owns w
 defers:a.defers= []
 size:a.tmps.size=st.fr.length
 fr:∀(t:Nat) (x:AV),st.fr[t]? =some x→x.ok E st.owns w (a.tmps.getD t undef)
 olen:E.om.length=st.owns.length
 own:∀(k:Nat) (o:Own) (p:Value×List Nat),st.owns[k]? =some o→E.om[k]? =some p→∃cs,aS w E.B o.e o.s p.1 o.l.length cs∧Rs w o.l p.2 cs∧El o.s o.l∧∀b∈p.2,b∉E.M∧(o.nw.n=true→E.nw b)
 blen:E.bm.length=st.boxes.length
 box:∀(k:Nat) (xs:List AC) (p:Nat×TypeId),st.boxes[k]? =some xs→E.bm[k]? =some p→B≤p.1∧∃vs,Row w p.1 p.2 vs∧Oks E st.owns w xs vs
 nodup:E.M.Nodup
 lin:Lin E.om st.owns
 unf:Unf E.om st.owns w
 below:BelowT B w0 w
 base:E.B≤w.heap.size
def St.put(st:St)(d:Option Nat)(x:AV):St:=match d with|some t=>{st with fr:=st.fr.set t x}|none=>st
theorem OY(a:Act)(d:Option Nat)(v:Value):(a.put d v).tmps=match d with|some t=>a.tmps.setIfInBounds t v|none=>a.tmps:=by cases d<;>rfl
theorem jD(a:Act)(d:Option Nat)(v:Value):(a.put d v).defers=a.defers:=by cases d<;>rfl
theorem lS(a:Act)(d:Option Nat)(v:Value):(a.put d v).tmps.size=a.tmps.size:=by cases d<;>simp[Act.put]
theorem kL(st:St)(d:Option Nat)(x:AV):(st.put d x).fr.length=st.fr.length:=by cases d<;>simp[St.put]
theorem aA(st:St)(d:Option Nat)(x:AV):(st.put d x).owns=st.owns:=by cases d<;>rfl
theorem aU(st:St)(d:Option Nat)(x:AV):(st.put d x).boxes=st.boxes:=by cases d<;>rfl
theorem qP{E:Env}{os:List Own}{w:World}{st:St}{a:Act}{d:Option Nat}{x:AV}{v:Value}(hs:a.tmps.size=st.fr.length)
 (h:∀(t:Nat) (y:AV),st.fr[t]? =some y→y.ok E os w (a.tmps.getD t undef)) (hx:x.ok E os w v):
 ∀(t:Nat) (y:AV),(st.put d x).fr[t]? =some y→y.ok E os w ((a.put d v).tmps.getD t undef):=by
 intro t y hy;cases d with
 |none=>exact h t y hy
 | some d=>
   simp only[St.put]at hy;rw[a_l]at hy;rw[OY];simp only[Array.getD_eq_getD_getElem?];by_cases e:d=t
   ·subst e;by_cases hlt:d<st.fr.length
    ·rw[if_pos rfl,if_pos hlt]at hy;injection hy with hy
     subst hy;rw[Array.getElem?_setIfInBounds_self_of_lt (by omega)];exact hx
    ·rw[if_pos rfl,if_neg hlt]at hy;cases hy
   ·rw[if_neg e]at hy;rw[Array.getElem?_setIfInBounds_ne e];have:=h t y hy;rwa[Array.getD_eq_getD_getElem?]at this
section
variable{B:Nat}{Xs:List Nat}{G:Org}{w0:World}{st:St}{E:Env}{a:Act}{w w':World}
theorem Rel.qx(h:Rel B Xs G w0 st E a w){b:Nat}(hb:E.B≤b):E.nw b:=d_ hb
theorem Rel.DK(h:Rel B Xs G w0 st E a w):B≤w.heap.size:=h_ h.eb h.base
theorem BL(h:Rel B Xs G w0 st E a w){k:Nat}{p:Nat×TypeId}(hp:E.bm[k]? =some p):B≤p.1∧p.1<w.heap.size:=by
 have hk:k<st.boxes.length:=by rw[← h.blen];exact(a_.1 hp).1
 obtain⟨h1,vs,h2,_⟩:=h.box k _ p (n_ hk) hp;exact⟨h1,h2.lt⟩
theorem BK(h:Rel B Xs G w0 st E a w){k:Nat}{p:Value×List Nat}(hp:E.om[k]? =some p){b:Nat}(hb:p.1.ownBlock=some b):B≤b∧b<w.heap.size:=by
 have hk:k<st.owns.length:=by rw[← h.olen];exact(a_.1 hp).1
 obtain⟨cs,h1,_⟩:=h.own k _ p (n_ hk) hp;exact⟨h_ h.eb (aS.lt h1 b hb).1,(aS.lt h1 b hb).2⟩
theorem gV{b:Nat}:b∈E.M↔(∃(k:Nat) (p:Nat×TypeId),E.bm[k]? =some p∧p.1=b)∨∃(k:Nat) (p:Value×List Nat),E.om[k]? =some p∧p.1.ownBlock=some b:=by
 unfold Env.M;rw[m_,a_D,R_];constructor
 ·rintro(⟨p,h1,h2⟩|⟨p,h1,h2⟩)
  ·obtain⟨k,hk⟩:=D_.1 h1;exact d_ ⟨k,p,hk,h2⟩
  ·obtain⟨k,hk⟩:=D_.1 h1;exact g_ ⟨k,p,hk,by simpa using h2⟩
 ·rintro(⟨k,p,h1,h2⟩|⟨k,p,h1,h2⟩)
  ·exact d_ ⟨p,v_ h1,h2⟩
  ·exact g_ ⟨p,v_ h1,by simpa using h2⟩
theorem uh(h:Rel B Xs G w0 st E a w){b:Nat}(hb:b∈E.M):B≤b∧b<w.heap.size:=by
 rcases gV.1 hb with⟨k,p,h1,rfl⟩|⟨k,p,h1,h2⟩
 ·exact BL h h1
 ·exact BK h h1 h2
theorem Sim.of_below(h:Rel B Xs G w0 st E a w)(hb:Below w.heap.size w w'):Sim E st.owns w E st.owns w' where
 base:=rfl
 size:=hb.size
 blk:=fun b hlt _=>hb.block b hlt
 old:=fun _ _ h=>h
 own:=fun k o p h1 h2=>⟨o,p,h1,h2,r_ _,fun _=>⟨rfl,rfl⟩⟩
 box:=fun _ _ h=>h
theorem Rel.pz(h:Rel B Xs G w0 st E a w){E':Env}{os':List Own}(hS:Sim E st.owns w E' os' w'):Unf E.om st.owns w':=fun k o p h1 h2 h3 b hb z=>by
 obtain⟨cs,_,h6,_,h8⟩:=h.own k o p h1 h2;rw[World.frozen?_of_block (w:=w) (hS.blk b (Rs.lt h6 b hb) (h8 b hb).1)];exact h.unf k o p h1 h2 h3 b hb z
theorem Rel.lK(h:Rel B Xs G w0 st E a w)(hb:Below w.heap.size w w'){d:Option Nat}{x:AV}{v:Value}(hx:x.ok E st.owns w' v):Rel B Xs G w0 (st.put d x) E (a.put d v) w' where
 eb:=h.eb
 ex:=h.ex
 sim:=by rw[aA];exact h.sim.trans (Sim.of_below h hb)
 defers:=by rw[jD];exact h.defers
 size:=by rw[lS,kL];exact h.size
 fr:=by rw[aA];exact qP h.size (fun t y hy=>(h.fr t y hy).sim (Sim.of_below h hb)) hx
 olen:=by rw[aA];exact h.olen
 own:=by
  rw[aA];intro k o p h1 h2;obtain⟨cs,h3,h4,h5⟩:=h.own k o p h1 h2;exact⟨cs,jM h3 hb,h4.below hb,h5⟩
 blen:=by rw[aU];exact h.blen
 box:=by
  rw[aU,aA];intro k xs p h1 h2;obtain⟨h3,vs,h4,h5⟩:=h.box k xs p h1 h2;exact⟨h3,vs,h4.below hb,h5.sim (Sim.of_below h hb)⟩
 nodup:=h.nodup
 lin:=by rw[aA];exact h.lin
 unf:=by rw[aA];exact h.pz (Sim.of_below h hb)
 below:=h.below.trans (hb.mono h.DK)
 base:=h_ h.base hb.size
end
def jH :Nat→Nat
 |1=>2199023255552
 |_=>4194304
def byN :Nat→Nat
 |1=>64
 |_=>1024
theorem QI :jH 1=2199023255552:=rfl
theorem QG(n:Nat):jH (n+2)=4194304:=rfl
theorem Sv(s:Nat):jH s*byN s≤140737488355328:=by
 unfold jH byN;split<;>decide
theorem Sr(s:Nat):jH s≤2199023255552:=by
 unfold jH;split<;>decide
inductive Opd where
 |t (n:Nat)
 |k (v:Value)
def opd :Operand→Opd
 | .tmp t=> .t t
 | .const v=> .k v
 | .global g=> .k (.pointer (some ⟨g,0,none⟩))
 | .func f=> .k (.func (.func f) #[] #[])
def kav(v:Value):AV:=match v with| .agg cs=> .c true (cs.toList.map .raw)|v=> .c false [.raw v]
def St.ev(st:St):Opd→AV
 | .t n=>st.fr.getD n .any
 | .k v=>kav v
inductive I where
 |mov (x:Opd)
 |pick (c x y:Opd)
 |bin (op:BinOp) (x y:Opd)
 |beq (ne:Bool) (x y:Opd)
 |not (x:Opd)
 |load (n:Nat) (g:Bool) (x:Opd)
 |fad (off:Nat) (x:Opd)
 |iad (s:Nat) (x i:Opd)
 |nck (x:Opd)
 |alloc (zs:List Value)
 |box (x:Opd)
 |store (n:Nat) (x y:Opd)
 |brow (own:Bool) (e s n:Nat) (g:Bool) (xs:List Opd)
 |bld (zs:List Value) (ps:List (Nat×Nat×Opd))
 |fld (off n:Nat) (g:Bool) (x:Opd)
 |sidx (x i:Opd)
 |ssl (x:Opd) (lo hi:Option Opd)
 |lsl (s:Nat) (x:Opd) (lo hi:Option Opd)
 |ext (j:Nat) (x:Opd)
 |call (f:Nat) (xs:List Opd)
 |app (e s:Nat) (x y:Opd)
 |len (str:Bool) (x:Opd)
 |mkf (f:Nat) (xs:List Opd)
 |fnil (ne:Bool) (x:Opd)
 |snil (ne:Bool) (x:Opd)
 |mk (e:Nat) (z:Value) (n:Opd)
 |callv (x:Opd) (xs:List Opd)
 |cvi (k:IntKind) (x:Opd)
 |cvs (x:Opd)
 |apps (e:Nat) (x y:Opd)
 |beqS (ne:Bool) (ks:List Value) (x y:Opd)
def lu8(b:UInt8):D:= .leaf (.int .u8 (b.toNat:Int))
def lJ :List D→Option (List UInt8)
 | []=>some []
 | .leaf (.int .u8 n)::l=>(match lJ l with|some r=>some (UInt8.ofNat n.toNat::r)|none=>none)
 |_=>none
def DX(s:ByteArray):List D:=s.data.toList.map lu8
theorem Og(s:ByteArray):(DX s).length=s.size:=by simp[DX]
mutual
def D.flat :D→List D
 | .leaf v=> [.leaf v]
 | .sl l=> [.sl l]
 | .agg l=>D.iM l
def D.iM :List D→List D
 | []=> []
 |d::l=>d.flat++D.iM l
end
def D.isAgg :D→Bool| .agg _=>true|_=>false
mutual
theorem jS{w:World}:∀{d:D} {fp:List Nat} {cs:List Value},R w d fp cs↔Rs w d.flat fp cs
 | .leaf v,fp,cs=>by rw[D.flat];exact⟨Rs.one,Rs.Aa⟩
 | .sl l,fp,cs=>by rw[D.flat];exact⟨Rs.one,Rs.Aa⟩
 | .agg l,fp,cs=>by rw[D.flat,dK];exact EZ
theorem EZ{w:World}:∀{l:List D} {fp:List Nat} {cs:List Value},Rs w l fp cs↔Rs w (D.iM l) fp cs
 | [],fp,cs=>by rw[D.iM]
 | d::l,fp,cs=>by
   rw[D.iM];constructor
   ·intro h;rw[Rs]at h;obtain⟨f1,f2,c1,c2,rfl,rfl,h1,h2⟩:=h;exact Rs.append (EZ.1 h2) (jS.1 h1)
   ·intro h;obtain⟨f1,f2,c1,c2,rfl,rfl,h1,h2⟩:=Rs.split h;rw[Rs];exact⟨f1,f2,c1,c2,rfl,rfl,jS.2 h1,EZ.2 h2⟩
end
def D.ac(n:Bool):D→AC| .leaf v=> .raw v| .sl l=> .sl n l| .agg _=> .any
def D.acs(n:Bool)(d:D):List AC:=d.flat.map (D.ac n)
theorem PK{E:Env}{os:List Own}{w:World}{n:Bool}:∀{l:List D} {fp:List Nat} {cs:List Value},(∀d∈l,d.isAgg=false)→Rs w l fp cs→(∀b∈fp,b∉E.M∧(n=true→E.nw b))→Oks E os w (l.map (D.ac n)) cs
 | [],fp,cs,_,h,_=>by rw[h.2];trivial
 | d ::l,fp,cs,hn,h,hf=>by
   rw[Rs]at h;obtain⟨f1,f2,c1,c2,rfl,rfl,h1,h2⟩:=h;have ih:=PK (E:=E) (os:=os) (n:=n) (fun x hx=>hn x (by simp[hx])) h2 (fun b hb=>hf b (by simp[hb]));cases d with
   | leaf v=>
     obtain⟨rfl,rfl⟩:=h1;exact⟨rfl,ih⟩
   | sl l'=>
     have h1':=h1;rw[R]at h1;obtain⟨A,cap,rfl,_⟩:=h1;exact⟨⟨f1,h1',fun b hb=>hf b (by simp[hb])⟩,ih⟩
   |agg l'=>exact absurd (hn (.agg l') (by simp)) (by simp[D.isAgg])
mutual
theorem iV :∀(d:D),∀x∈d.flat,x.isAgg=false
 | .leaf v,x,h=>by rw[D.flat]at h;simp at h;subst h;rfl
 | .sl l,x,h=>by rw[D.flat]at h;simp at h;subst h;rfl
 | .agg l,x,h=>by rw[D.flat]at h;exact yE l x h
theorem yE :∀(l:List D),∀x∈D.iM l,x.isAgg=false
 | [],x,h=>by rw[D.iM]at h;simp at h
 | d::l,x,h=>by
   rw[D.iM]at h;rcases m_.1 h with h|h
   ·exact iV d x h
   ·exact yE l x h
end
theorem nY{E:Env}{os:List Own}{w:World}{n:Bool}{d:D}{fp:List Nat}{cs:List Value}(h:R w d fp cs)(hf:∀b∈fp,b∉E.M∧(n=true→E.nw b)):Oks E os w (d.acs n) cs:=
 PK (iV d) (jS.1 h) hf
def yO :Value→Bool
 | .slice none 0 0=>true
 |_=>false
theorem aG(k:IntKind)(n:Int):yO (.int k n)=false:=rfl
theorem ay(s:ByteArray):yO (.string s)=false:=rfl
theorem aB(b:Bool):yO (.bool b)=false:=rfl
theorem aF :yO (.slice none 0 0)=true:=rfl
theorem aN :yO .nilFunc=false:=rfl
theorem aH(xs:Array Value):yO (.tuple xs)=false:=rfl
theorem wW{v:Value}(h:yO v=true):v= .slice none 0 0:=by
 unfold yO at h;split at h
 ·rfl
 ·cases h
def AC.toD :AC→Option D
 | .raw v=>if yO v then some (.sl [])else if v.oneCell' then some (.leaf v)else none
 | .sl _ l=>some (.sl l)
 |_=>none
def AC.nw :AC→Bool
 | .raw _=>true
 | .sl n _=>n
 |_=>false
def iI :List AC→Option (List D)
 | []=>some []
 |x::xs=>match x.toD,iI xs with|some d,some ds=>some (d::ds)|_,_=>none
def AV.toD :AV→Option D
 | .c false [x]=>x.toD
 | .c true xs=>(iI xs).map .agg
 |_=>none
def AV.nw :AV→Bool
 | .c _ xs=>xs.all AC.nw
 |_=>false
def gy :List AV→Option (List D)
 | []=>some []
 |x::xs=>match x.toD,gy xs with|some d,some ds=>some (d::ds)|_,_=>none
theorem toD_ok{E:Env}{os:List Own}{w:World}{x:AC}{d:D}{v:Value}(h:x.toD=some d)(hx:x.ok E os w v):d.one∧d.sz=1∧∃fp,R w d fp [v]∧∀b∈fp,b∉E.M∧(x.nw=true→E.nw b):=by
 cases x with
 |any=>simp[AC.toD]at h
 | raw u=>
   simp only[AC.toD]at h;split at h
   ·next hz=>
    injection h with h
    subst h;obtain rfl:=hx;obtain rfl:=wW hz;exact⟨trivial,rfl,[],Sl.kU (l:= []) (fp:= []) (base:=0) (e:=0) (s:=0) (v:= .slice none 0 0) aS.nil ⟨rfl,rfl⟩,fun b hb=>by simp at hb⟩
   ·split at h
    ·next ho=>
     injection h with h
     subst h;obtain rfl:=hx;exact⟨ho,rfl,[],⟨rfl,rfl⟩,fun b hb=>by simp at hb⟩
    ·cases h
 | sl n l=>
   simp only[AC.toD]at h;injection h with h
   subst h;obtain⟨fp,h1,h2⟩:=hx;exact⟨trivial,rfl,fp,h1,fun b hb=>⟨(h2 b hb).1,fun e=>(h2 b hb).2 e⟩⟩
 |own k i=>simp[AC.toD]at h
 |osub k i a b=>simp[AC.toD]at h
 |cl f caps=>simp[AC.toD]at h
theorem LK{E:Env}{os:List Own}{w:World}:∀{xs:List AC} {ds:List D} {vs:List Value},iI xs=some ds→Oks E os w xs vs→
 D.ones ds∧D.szs ds=xs.length∧∃fp,Rs w ds fp vs∧∀b∈fp,b∉E.M∧(xs.all AC.nw=true→E.nw b)
 | [],ds,[],h,_=>by
   injection h with h
   subst h;exact⟨trivial,rfl,[],⟨rfl,rfl⟩,fun b hb=>by simp at hb⟩
 | x::xs,ds,v::vs,h,hx=>by
   rw[iI]at h;split at h
   ·next d ds' h1 h2=>
    injection h with h
    subst h;obtain⟨o1,s1,f1,r1,m1⟩:=toD_ok h1 hx.1;obtain⟨o2,s2,f2,r2,m2⟩:=LK h2 hx.2;refine⟨⟨o1,o2⟩,by rw[D.szs,s1,s2,u_];omega,f1++f2,⟨f1,f2,[v],vs,rfl,rfl,r1,r2⟩,fun b hb=> ?_⟩;rcases m_.1 hb with h|h
    ·exact⟨(m1 b h).1,fun e=>(m1 b h).2 (by simp at e;exact e.1)⟩
    ·exact⟨(m2 b h).1,fun e=>(m2 b h).2 (by simp at e⊢;exact e.2)⟩
   ·cases h
 | [],_,_::_,_,h=>h.elim
 |_::_,_,[],_,h=>h.elim
theorem AV.toD_ok{E:Env}{os:List Own}{w:World}{x:AV}{d:D}{v:Value}(h:x.toD=some d)(hx:x.ok E os w v):d.one∧d.sz=v.cells.size∧∃fp,R w d fp v.cells.toList∧∀b∈fp,b∉E.M∧(x.nw=true→E.nw b):=by
 unfold AV.toD at h;split at h
 ·next y=>
  have hx':y.ok E os w v:=hx.1;obtain⟨h1,h2,fp,h3,h4⟩:=Go.Proofs.Ytagaefgglphkgaa.toD_ok h hx';have hv:v.cells= #[v]:=by
   cases y with
   | raw u=>
     simp only[AC.toD]at h;split at h
     ·next hz=>
      obtain rfl:=hx';obtain rfl:=wW hz;rfl
     ·split at h
      ·obtain rfl:=hx';cases v<;>simp_all [q_,a_x]
      ·cases h
   | sl n l=>
     obtain⟨fp',h5,_⟩:=hx';obtain⟨A,c,rfl,_⟩:=Sl.form h5;rfl
   |any=>simp[AC.toD]at h
   |own k i=>simp[AC.toD]at h
   |osub k i a b=>simp[AC.toD]at h
   |cl f caps=>simp[AC.toD]at h
  rw[hv];exact⟨h1,by rw[h2];rfl,fp,h3,fun b hb=>⟨(h4 b hb).1,fun e=>(h4 b hb).2 (by simpa[AV.nw]using e)⟩⟩
 ·next xs=>
  obtain⟨vs,rfl,hxs⟩:=hx;obtain⟨ds,h1,h2⟩:=A_.1 h;subst h2;obtain⟨o1,s1,fp,r1,m1⟩:=LK h1 hxs;refine⟨o1,by rw[D.sz,s1,hxs.len];simp[q_],fp,by rw[dK];simpa[q_]using r1,fun b hb=>⟨(m1 b hb).1,fun e=>(m1 b hb).2 (by simpa[AV.nw]using e)⟩⟩
 ·cases h
def kE(H:Nat):Env:=⟨H,(a_v H).map fun b=>(.slice (some ⟨b,0,none⟩) 0 0,[]),[],[]⟩
theorem lU{H b:Nat}:b∉(kE H).M↔H≤b:=by
 simp[kE,Env.M,e_,a_p]
def Rd(w:World)(d:D)(v:Value):Prop:=if d.isAgg then∃fp cs,v= .agg cs.toArray∧R w d fp cs else∃fp,R w d fp [v]
def Rds(w:World):List D→List Value→Prop
 | [],[]=>True
 |d::ds,v::vs=>Rd w d v∧Rds w ds vs
 |_,_=>False
def wI(r:AV)(w:World)(e:Ending)(w':World):Prop:=∃v,e= .returned v∧r.ok (kE w.heap.size) [] w' v∧Below w.heap.size w w'
def aJ(P:Program)(f:Nat)(ds:List D)(r:AV):Prop:=∀w vs,Rds w ds vs→nM w→Calls P f vs.toArray w (wI r w)
def Ui(g:Bool)(v:Value):Value:=if g then .agg #[v]else v
def wz(g:Bool)(l:List D)(e s:Nat)(w:World)(en:Ending)(w':World):Prop:=
 ∃v cs f,en= .returned (Ui g v)∧aS w' w.heap.size e s v l.length cs∧Rs w' l f cs∧(∀b∈f,some b≠v.ownBlock∧w.heap.size≤b)∧Below w.heap.size w w'
def ni(P:Program)(f:Nat)(ds:List D)(g:Bool)(l:List D)(e s:Nat):Prop:=∀w vs,Rds w ds vs→nM w→Calls P f vs.toArray w (wz g l e s w)
abbrev mD(P:Program)(f:Nat)(ds:List D)(l:List D)(e s:Nat):Prop:=ni P f ds false l e s
def oL(B:Nat)(w:World)(om:List (Value×List Nat))(os:List Own):Prop:=
 om.length=os.length∧(∀(k:Nat) (o:Own) (p:Value×List Nat),os[k]? =some o→om[k]? =some p→∃cs,aS w B o.e o.s p.1 o.l.length cs∧Rs w o.l p.2 cs∧El o.s o.l∧∀b∈p.2,B≤b∧b∉om.flatMap fun q=>q.1.ownBlock.toList)∧
  (om.flatMap fun q=>q.1.ownBlock.toList).Nodup∧Lin om os∧Unf om os w
def Fb(r:AV)(os:List Own)(w:World)(en:Ending)(w':World):Prop:=
 ∃v om,en= .returned v∧oL w.heap.size w' om os∧r.ok ⟨w.heap.size,om,[],[]⟩ os w' v∧Below w.heap.size w w'
def dH(P:Program)(f:Nat)(ds:List D)(r:AV)(os:List Own):Prop:=∀w vs,Rds w ds vs→nM w→Calls P f vs.toArray w (Fb r os w)
def AC.shift(n:Nat):AC→AC
 | .own k i=> .own (n+k) i
 |x=>x
def AV.shift(n:Nat):AV→AV
 | .c g xs=> .c g (xs.map (AC.shift n))
 | .tup ys=> .tup (ys.map fun y=>(y.1,y.2.map (AC.shift n)))
 |x=>x
def AC.out :AC→Bool
 | .sl n _=>n
 | .osub .. =>false
 |_=>true
def AV.out :AV→Bool
 | .any=>true
 | .c _ xs=>xs.all AC.out
 | .tup ys=>ys.all fun y=>y.2.all AC.out
 |_=>false
def kD(H:Nat)(F:List Nat):Env:=⟨H,((a_v H).filter (fun b=> !F.contains b)).map fun b=>(.slice (some ⟨b,0,none⟩) 0 0,[]),[],F⟩
theorem zZ{H b:Nat}{F:List Nat}:b∉(kD H F).M↔H≤b∨b∈F:=by
 simp[kD,Env.M,e_,a_p];constructor
 ·intro h;rcases a_i b H with hlt|hge
  ·exact g_ (h hlt)
  ·exact d_ hge
 ·rintro(h|h) hlt
  ·omega
  ·exact h
def RdF(w:World)(F:List Nat)(d:D)(v:Value):Prop:=if d.isAgg then∃fp cs,v= .agg cs.toArray∧R w d fp cs∧∀b∈fp,b∈F else∃fp,R w d fp [v]∧∀b∈fp,b∈F
def xW(w:World)(F:List Nat):List D→List Value→Prop
 | [],[]=>True
 |d::ds,v::vs=>RdF w F d v∧xW w F ds vs
 |_,_=>False
def NT(r:AV)(F:List Nat)(w:World)(e:Ending)(w':World):Prop:=∃v,e= .returned v∧r.ok (kD w.heap.size F) [] w' v∧Below w.heap.size w w'
def mg(P:Program)(f:Nat)(ds:List D)(r:AV):Prop:=∀w F vs,(∀b∈F,b<w.heap.size)→xW w F ds vs→nM w→Calls P f vs.toArray w (NT r F w)
def jg(os:List Own):AC→Option D
 | .own k i=>match os[k]? with|some o=>if o.ver=i then some (.sl o.l)else none|none=>none
 | .osub k i a b=>match os[k]? with|some o=>if o.ver=i then some (.sl ((o.l.take b).drop a))else none|none=>none
 |x=>x.toD
def fU(os:List Own):List AC→Option (List D)
 | []=>some []
 |x::xs=>match jg os x,fU os xs with|some d,some ds=>some (d::ds)|_,_=>none
def iW(os:List Own)(x:AV)(d:D):Prop:=match x with| .c g xs=>fU os xs=some d.flat∧g=d.isAgg|_=>False
def aO(os:List Own):List AV→List D→Prop
 | [],[]=>True
 |x::xs,d::ds=>iW os x d∧aO os xs ds
 |_,_=>False
def flF(P:Program)(g:TypeId→Option (List Value)):List Field→Nat→Option (List Value)
 | [],_=>some []
 | f::fs,o=>if f.name≠ "_" ∧f.offset=o then(match g f.type with
   |some a=>if P.cellsOf f.type=a.length then(match flF P g fs (o+a.length)with|some b=>some (a++b)|none=>none)else none
   |none=>none)else none
def fl(P:Program):Nat→TypeId→Option (List Value)
 |0,_=>none
 | d+1,t=>match P.underlying t with
   |some .bool=>some [.bool false]
   |some (.int k)=>some [.int k 0]
   |some .string=>some [.string ⟨#[]⟩]
   |some (.struct fs)=>if P.stoodInHeld t then none else flF P (fl P d) fs.toList 0
   |_=>none
def eqC :Value→Value→Value→Option Bool
 | .int k _,.int k1 a,.int k2 b=>if k1=k∧k2=k then some (a==b)else none
 | .string _,.string a,.string b=>some (a.toList==b.toList)
 | .bool _,.bool a,.bool b=>some (a==b)
 |_,_,_=>none
def eqV :List Value→List Value→List Value→Option Bool
 | [],[],[]=>some true
 |k::ks,u::us,v::vs=>(match eqC k u v,eqV ks us vs with|some a,some b=>some (a && b)|_,_=>none)
 |_,_,_=>none
theorem qR{k:Value}{ks us vs:List Value}{b:Bool}(h:eqV (k::ks) us vs=some b):∃u us' v vs' b1 b2,us=u::us'∧vs=v::vs'∧eqC k u v=some b1∧eqV ks us' vs'=some b2∧b=(b1 && b2):=by
 cases us with
 |nil=>simp[eqV]at h
 | cons u us=>
   cases vs with
   |nil=>simp[eqV]at h
   | cons v vs=>
     rw[eqV]at h;cases h1:eqC k u v with
     |none=>simp[h1]at h
     | some b1=>
       cases h2:eqV ks us vs with
       |none=>simp[h1,h2]at h
       | some b2=>
         simp only[h1,h2,i_]at h;exact⟨u,us,v,vs,b1,b2,rfl,rfl,h1,h2,h.symm⟩
theorem vI{us vs:List Value}{b:Bool}(h:eqV [] us vs=some b):us= []∧vs= []∧b=true:=by
 cases us<;>cases vs<;>simp_all [eqV]
theorem RU :∀{ks us vs:List Value} {b:Bool},eqV ks us vs=some b→us.length=ks.length∧vs.length=ks.length:=by
 intro ks
 induction ks with
 |nil=>intro us vs b h;obtain⟨rfl,rfl,_⟩:=vI h;simp
 | cons k ks ih=>
   intro us vs b h;obtain⟨u,us',v,vs',b1,b2,rfl,rfl,_,h2,_⟩:=qR h;simp[ih h2]
theorem RV :∀{a ks us vs:List Value} {b:Bool},eqV (a++ks) us vs=some b→∃b1 b2,eqV a (us.take a.length) (vs.take a.length)=some b1∧eqV ks (us.drop a.length) (vs.drop a.length)=some b2∧b=(b1 && b2):=by
 intro a
 induction a with
 |nil=>intro ks us vs b h;exact⟨true,b,by simp[eqV],by simpa using h,by simp⟩
 | cons k a ih=>
   intro ks us vs b h;rw[List.cons_append]at h;obtain⟨u,us',v,vs',b1,b2,rfl,rfl,h1,h2,rfl⟩:=qR h;obtain⟨c1,c2,g1,g2,rfl⟩:=ih h2;exact⟨b1 && c1,c2,by simp[eqV,h1,g1],by simpa using g2,by rw[Bool.and_assoc]⟩
def mkV(P:Program)(t:TypeId)(us:List Value):Value:=match P.underlying t with|some (.struct _)=> .agg us.toArray|_=>us.headD .nilFunc
section
variable{P:Program}{w:World}
theorem KG{d:Nat}{t:TypeId}{a us:List Value}{o:Nat}(h:fl P d t=some a)(hc:P.cellsOf t=a.length)(ho:o+a.length≤us.length):
 (Go.part t us.toArray o).run P w= .ok (mkV P t ((us.drop o).take a.length)) w:=by
 cases d with
 |zero=>simp[fl]at h
 | succ d=>
   cases hu:P.underlying t with
   |none=>simp[fl,hu]at h
   | some kd=>
     have pl:kd= .bool∨(∃k,kd= .int k)∨kd= .string→(Go.part t us.toArray o).run P w= .ok (mkV P t ((us.drop o).take a.length)) w:=by
      intro hk;have hl:a.length=1:=by
       rcases hk with rfl|⟨k,rfl⟩|rfl<;>(simp only[fl,hu,i_]at h;subst h;rfl)
      have hlt:o<us.length:=by omega
      have he:us[o]? =some us[o]:=n_ hlt;have hd:(us.drop o).take a.length= [us[o]]:=by
       rw[hl,M_ hlt,List.take_succ_cons,List.take_zero]
      rw[run_part_plain w (by rcases hk with rfl|⟨k,rfl⟩|rfl<;>simp[Program.plainKey,hu]) (v:=us[o]) (by simp[he]),hd];rcases hk with rfl|⟨k,rfl⟩|rfl<;>simp[mkV,hu]
     cases kd with
     |bool=>exact pl (d_ rfl)
     |int k=>exact pl (g_ (d_ ⟨k,rfl⟩))
     |string=>exact pl (g_ (g_ rfl))
     | struct fs=>
       obtain⟨i,hi⟩:=info_of_underlying hu;have:us.toArray.extract o (o+P.cellsOf t)=((us.drop o).take a.length).toArray:=by
        rw[hc];apply Array.toList_inj.1;rw[Array.toList_extract];simp[List.extract]
       simp[Go.part,isAgg,run_underlying hu,run_sizeOf w hi,mkV,hu,← hc]
     |_=>simp[fl,hu]at h
theorem Hu{d dd:Nat}(IH:∀t ks,fl P d t=some ks→∀us vs b,eqV ks us vs=some b→(f_ dd t (mkV P t us) (mkV P t vs)).run P w= .ok b w):
 ∀(fs:List Field) (ks us vs:List Value) (o:Nat) (b:Bool),flF P (fl P d) fs o=some ks→eqV ks (us.drop o) (vs.drop o)=some b→(o≤us.length∧o≤vs.length)→(a_o dd us.toArray vs.toArray fs).run P w= .ok b w:=by
 intro fs
 induction fs with
 | nil=>
   intro ks us vs o b h he _;simp only[flF,i_]at h;subst h;obtain⟨h1,h2,rfl⟩:=vI he;simp[a_o]
 | cons f fs ih=>
   intro ks us vs o b h he hle;simp only[flF]at h;split at h
   ·next hn=>
    split at h
    ·next a ha=>
     split at h
     ·next hc=>
      split at h
      ·next b' hb=>
       injection h with h
       subst h;have hlen:=RU he;simp only[B_,p_]at hlen;obtain⟨b1,b2,h1,h2,rfl⟩:=RV he;have p1:=KG (P:=P) (w:=w) (o:=o) (us:=us) ha hc (by omega);have p2:=KG (P:=P) (w:=w) (o:=o) (us:=vs) ha hc (by omega);have p3:=IH _ _ ha _ _ _ h1;rw[Z_,Z_]at h2;have p4:=ih _ us vs _ b2 hb h2 (by omega);simp only[a_o,hn.1,hn.2,ne_eq,not_false_eq_true,if_true,S_,p1,p2,p3,J_];cases b1
       ·simp
       ·simpa using p4
      ·cases h
     ·cases h
    ·cases h
   ·cases h
theorem Qh :∀(d:Nat) (t:TypeId) (ks:List Value),fl P d t=some ks→∀dd,d≤dd→∀us vs b,eqV ks us vs=some b→(f_ dd t (mkV P t us) (mkV P t vs)).run P w= .ok b w:=by
 intro d
 induction d with
 |zero=>intro t ks h;simp[fl]at h
 | succ d ih=>
   intro t ks h dd hdd us vs b he;obtain⟨e,rfl⟩:∃e,dd=e+1:=⟨dd - 1,by omega⟩
   cases hu:P.underlying t with
   |none=>simp[fl,hu]at h
   | some kd=>
     cases kd with
     | bool=>
       simp only[fl,hu,i_]at h;subst h;obtain⟨u,us',v,vs',b1,b2,rfl,rfl,h1,h2,rfl⟩:=qR he;obtain⟨rfl,rfl,rfl⟩:=vI h2;unfold eqC at h1;split at h1<;>simp_all [mkV,f_,run_underlying hu]
     | int k=>
       simp only[fl,hu,i_]at h;subst h;obtain⟨u,us',v,vs',b1,b2,rfl,rfl,h1,h2,rfl⟩:=qR he;obtain⟨rfl,rfl,rfl⟩:=vI h2;unfold eqC at h1;split at h1<;>(try split at h1)<;>simp_all [mkV,f_,run_underlying hu]
     | string=>
       simp only[fl,hu,i_]at h;subst h;obtain⟨u,us',v,vs',b1,b2,rfl,rfl,h1,h2,rfl⟩:=qR he;obtain⟨rfl,rfl,rfl⟩:=vI h2;unfold eqC at h1;split at h1<;>(try(simp_all;done))
       next a b _=>
        have hab:(a.toList==b.toList)=(a==b):=(beq_toListBytes a b).symm;rw[hab]at h1;injection h1 with h1
        subst h1;simp[mkV,hu,f_,run_underlying hu]
     | struct fs=>
       simp only[fl,hu]at h;split at h
       ·cases h
       ·next hst=>
        have hm:∀z:List Value,mkV P t z= .agg z.toArray:=fun z=>by simp[mkV,hu]
        have hfs:P.fieldsOf t=fs:=by simp[Program.fieldsOf,hu]
        rw[hm,hm,run_equalIn_struct w e t _ _ (by rw[hfs];exact hu) (by simpa using hst),hfs];exact Hu (fun t' ks' h' us' vs' b' hb'=>ih t' ks' h' e (by omega) us' vs' b' hb') fs.toList ks us vs 0 b h (by simpa using he) ⟨X_ _,X_ _⟩
     |_=>simp[fl,hu]at h
end
def UE(k:IntKind)(a b:Int):Int:=k.wrap (o_ k.bits a &&& o_ k.bits b).toNat
def bOr(k:IntKind)(a b:Int):Int:=k.wrap (o_ k.bits a ||| o_ k.bits b).toNat
def UC(k:IntKind)(a b:Int):Int:=k.wrap (o_ k.bits a ^^^ o_ k.bits b).toNat
def UD(k:IntKind)(a b:Int):Int:=k.wrap (o_ k.bits a &&& ~~~o_ k.bits b).toNat
def Ul(k:IntKind)(a b:Int):Int:=k.wrap (a*2 ^ (min b.toNat k.bits))
def Uk(k:IntKind)(a b:Int):Int:=a.fdiv (2 ^ (min b.toNat k.bits))
def iE(op:BinOp):Value→Value→Option Value
 | .int k a,.int k' b=>match op with
   | .shl=>if b<0 then none else some (.int k (Ul k a b))
   | .shr=>if b<0 then none else some (.int k (Uk k a b))
   | .add=>if k=k' then some (.int k (k.wrap (a+b)))else none
   | .sub=>if k=k' then some (.int k (k.wrap (a - b)))else none
   | .mul=>if k=k' then some (.int k (k.wrap (a*b)))else none
   | .quo=>if k=k' then(if b=0 then none else some (.int k (k.wrap (a.tdiv b))))else none
   | .rem=>if k=k' then(if b=0 then none else some (.int k (a.tmod b)))else none
   | .and=>if k=k' then some (.int k (UE k a b))else none
   | .or=>if k=k' then some (.int k (bOr k a b))else none
   | .xor=>if k=k' then some (.int k (UC k a b))else none
   | .andNot=>if k=k' then some (.int k (UD k a b))else none
   | .eql=>if k=k' then some (.bool (a==b))else none
   | .neq=>if k=k' then some (.bool (a !=b))else none
   | .lss=>if k=k' then some (.bool (decide (a<b)))else none
   | .leq=>if k=k' then some (.bool (decide (a≤b)))else none
   | .gtr=>if k=k' then some (.bool (decide (a > b)))else none
   | .geq=>if k=k' then some (.bool (decide (a≥b)))else none
 | .string a,.string b=>match op with
   | .add=>if((a.size+b.size:Nat):Int) > IntKind.i64.max then none else some (.string (a++b))
   | .eql=>some (.bool (a.toList==b.toList))
   | .neq=>some (.bool !(a.toList==b.toList))
   | .lss=>some (.bool (T_ a.toList b.toList))
   | .leq=>some (.bool (T_ a.toList b.toList || a.toList==b.toList))
   | .gtr=>some (.bool !(T_ a.toList b.toList || a.toList==b.toList))
   | .geq=>some (.bool !(T_ a.toList b.toList))
   |_=>none
 |_,_=>none
theorem NY{P:Program}{w:World}{op:BinOp}{t:TypeId}{x y:Operand}{u v z:Value}(h:iE op u v=some z):
 (do eqGuard op t x y u v;binOp op t u v:Sem Value).run P w= .ok z w:=by
 unfold iE at h;split at h
 ·next k a k' b=>
  cases op<;>simp only[reduceCtorEq]at h<;>(try(split at h<;>simp only[reduceCtorEq]at h))<;>(try(split at h<;>simp only[reduceCtorEq]at h))<;>(try injection h with h)<;>(try subst h)<;>
   simp_all [eqGuard,binOp,Op.intArith,Op.intDiv,Op.intCmp,Op.intBits,Op.shift,UE,bOr,UC,UD,Ul,Uk]<;>(intro hneg;omega)
 ·next a b=>
  cases op<;>simp only[reduceCtorEq]at h<;>(try(split at h<;>simp only[reduceCtorEq]at h))<;>(try injection h with h)<;>(try subst h)<;>
   simp_all [eqGuard,binOp,Op.stringOp]
 ·cases h
def bI :AV→Option Int| .c false [.raw (.int _ z)]=>some z|_=>none
def bV(os:List Own):AV→Option (List D×Bool)
 | .c false [.sl n l]=>some (l,n)
 | .c false [.own k i]=>match os[k]? with|some o=>if o.ver=i then some (o.l,o.nw.n)else none|none=>none
 | .c false [.osub k i a b]=>match os[k]? with|some o=>if o.ver=i then some ((o.l.take b).drop a,o.nw.n)else none|none=>none
 | .c false [.raw (.slice none 0 0)]=>some ([],true)
 |_=>none
def jr(lo:Option Int)(hi:Option Int)(n:Nat):Option (Nat×Nat):=
 let l:=lo.getD 0
 let h:=hi.getD n
 if 0≤l∧l≤h∧h≤n then some (l.toNat,h.toNat)else none
def AC.one :AC→Bool
 | .raw u=>u.oneCell'
 | .any=>false
 |_=>true
def bW(ρ:Opd→AV):List (Nat×Nat×Opd)→List AC→Option (List AC)
 | [],cs=>some cs
 | (off,n,x)::ps,cs=>match ρ x with
   | .c g xs=>if xs.length=n∧off+n≤cs.length∧xs.all AC.one=true then bW ρ ps (cs.take off++xs++cs.drop (off+n))else none
   |_=>none
def AV.res :AV→Prop
 | .c _ _=>True
 | .tup _=>True
 | .any=>True
 |_=>False
def AC.old :AC→Bool
 | .sl n _=> !n
 |_=>true
def AV.old :AV→Bool
 | .any=>true
 | .c _ xs=>xs.all AC.old
 | .tup ys=>ys.all fun y=>y.2.all AC.old
 |_=>false
def bn :List AV→Option (List Nat)
 | []=>some []
 | .bptr k 0::xs=>(bn xs).map (k::·)
 |_=>none
def uF :List AC→Option (List Value)
 | []=>some []
 | .raw v::xs=>(match uF xs with|some vs=>some (v::vs)|none=>none)
 |_=>none
inductive Res (P:Program) (ρ:Opd→AV) (os:List Own) (bs:List (List AC)):I→AV→List Own→List (List AC)→Prop
 |mov {x}:Res P ρ os bs (.mov x) (ρ x) os bs
 |pick {c x y b}:ρ c= .c false [.raw (.bool b)]→Res P ρ os bs (.pick c x y) (if b then ρ x else ρ y) os bs
 |bin {op x y u v z}:ρ x= .c false [.raw u]→ρ y= .c false [.raw v]→iE op u v=some z→Res P ρ os bs (.bin op x y) (.c false [.raw z]) os bs
 |beq {ne x y u v}:ρ x= .c false [.raw (.bool u)]→ρ y= .c false [.raw (.bool v)]→Res P ρ os bs (.beq ne x y) (.c false [.raw (.bool (if ne then !(u==v)else u==v))]) os bs
 |not {x u}:ρ x= .c false [.raw (.bool u)]→Res P ρ os bs (.not x) (.c false [.raw (.bool !u)]) os bs
 |loadP {n g x xs}:ρ x= .ptr xs→n≤xs.length→Res P ρ os bs (.load n g x) (.c g (xs.take n)) os bs
 |loadB {n g x xs k off}:ρ x= .bptr k off→bs[k]? =some xs→off+n≤xs.length→Res P ρ os bs (.load n g x) (.c g ((xs.drop off).take n)) os bs
 |loadE {n g x k i j off o d}:ρ x= .eptr k i j off→os[k]? =some o→o.ver=i→o.l[j]? =some d→off+n≤(d.acs o.nw.n).length→Res P ρ os bs (.load n g x) (.c g (((d.acs o.nw.n).drop off).take n)) os bs
 |fadP {off x xs}:ρ x= .ptr xs→off≤xs.length→Res P ρ os bs (.fad off x) (.ptr (xs.drop off)) os bs
 |fadB {off x k z}:ρ x= .bptr k z→Res P ρ os bs (.fad off x) (.bptr k (z+off)) os bs
 |fadE {off x k i j z o}:ρ x= .eptr k i j z→os[k]? =some o→o.ver=i→Res P ρ os bs (.fad off x) (.eptr k i j (z+off)) os bs
 |iadS {s x i n l z d}:ρ x= .c false [.sl n l]→bI (ρ i)=some z→0≤z→l[z.toNat]? =some d→El s l→Res P ρ os bs (.iad s x i) (.ptr (d.acs n)) os bs
 |iadO {s x i k j o z}:ρ x= .c false [.own k j]→bI (ρ i)=some z→0≤z→os[k]? =some o→o.ver=j→z.toNat<o.l.length→o.s=s→Res P ρ os bs (.iad s x i) (.eptr k j z.toNat 0) os bs
 |nckP {x xs}:ρ x= .ptr xs→Res P ρ os bs (.nck x) (.ptr xs) os bs
 |nckB {x k z}:ρ x= .bptr k z→Res P ρ os bs (.nck x) (.bptr k z) os bs
 |alloc {zs}:Res P ρ os bs (.alloc zs) (.bptr bs.length 0) os (bs++ [zs.map .raw])
 |box {x g xs}:ρ x= .c g xs→xs.all AC.one=true→Res P ρ os bs (.box x) (.bptr bs.length 0) os (bs++ [xs])
 |store {n x y k off g ys xs}:ρ x= .bptr k off→ρ y= .c g ys→ys.length=n→ys.all AC.one=true→bs[k]? =some xs→off+n≤xs.length→
  Res P ρ os bs (.store n x y) .any os (bs.set k (xs.take off++ys++xs.drop (off+n)))
 |brow {e s n g xs ds}:gy (xs.map ρ)=some ds→(∀d∈ds,d.sz=s)→ds.length=n→Res P ρ os bs (.brow false e s n g xs) (.c false [.sl ((xs.map ρ).all AV.nw) ds]) os bs
 |beqS {ne ks x y xs ys us vs b}:ρ x= .c true xs→ρ y= .c true ys→uF xs=some us→uF ys=some vs→eqV ks us vs=some b→Res P ρ os bs (.beqS ne ks x y) (.c false [.raw (.bool (if ne then !b else b))]) os bs
 |cvi {k x k' z}:ρ x= .c false [.raw (.int k' z)]→Res P ρ os bs (.cvi k x) (.c false [.raw (.int k (k.wrap z))]) os bs
 |cvsS {x n l b}:ρ x= .c false [.sl n l]→lJ l=some b→Res P ρ os bs (.cvs x) (.c false [.raw (.string ⟨b.toArray⟩)]) os bs
 |cvsO {x k i o b}:ρ x= .c false [.own k i]→os[k]? =some o→o.ver=i→lJ o.l=some b→Res P ρ os bs (.cvs x) (.c false [.raw (.string ⟨b.toArray⟩)]) os bs
 |apps {e x y k i o s}:ρ x= .c false [.own k i]→os[k]? =some o→o.ver=i→o.e=e→o.s=1→ρ y= .c false [.raw (.string s)]→o.l.length+s.size≤1073741824→
  Res P ρ os bs (.apps e x y) (.c false [.own k (i+1)]) (os.set k ⟨o.l++DX s,e,1,i+1,o.nw.n⟩) bs
 |mkO {e z x k}:bI (ρ x)=some ((k:Nat):Int)→k≤4194304→Res P ρ os bs (.mk e z x) (.c false [.own os.length 0]) (os++ [⟨List.replicate k (.leaf z),e,1,0,true⟩]) bs
 |bown {e s n g xs ds}:gy (xs.map ρ)=some ds→(∀d∈ds,d.sz=s)→ds.length=n→Res P ρ os bs (.brow true e s n g xs) (.c false [.own os.length 0]) (os++ [⟨ds,e,s,0,(xs.map ρ).all AV.nw⟩]) bs
 |bld {zs ps cs}:bW ρ ps (zs.map .raw)=some cs→Res P ρ os bs (.bld zs ps) (.c true cs) os bs
 |fld {off n g x xs}:ρ x= .c true xs→off+n≤xs.length→Res P ρ os bs (.fld off n g x) (.c g ((xs.drop off).take n)) os bs
 |sidx {x i s z b}:ρ x= .c false [.raw (.string s)]→bI (ρ i)=some z→0≤z→s.data[z.toNat]? =some b→Res P ρ os bs (.sidx x i) (.c false [.raw (.int .u8 b.toNat)]) os bs
 |ssl {x lo hi s l h lo' hi'}:ρ x= .c false [.raw (.string s)]→lo.map (fun y=>bI (ρ y))=lo'.map some→hi.map (fun y=>bI (ρ y))=hi'.map some→jr lo' hi' s.size=some (l,h)→
  Res P ρ os bs (.ssl x lo hi) (.c false [.raw (.string (s.extract l h))]) os bs
 |lsl {s x lo hi n l a b lo' hi'}:ρ x= .c false [.sl n l]→lo.map (fun y=>bI (ρ y))=lo'.map some→hi.map (fun y=>bI (ρ y))=hi'.map some→jr lo' hi' l.length=some (a,b)→El s l→
  Res P ρ os bs (.lsl s x lo hi) (.c false [.sl n ((l.take b).drop a)]) os bs
 |lslO {s x lo hi k i o a b lo' hi'}:ρ x= .c false [.own k i]→os[k]? =some o→o.ver=i→o.s=s→lo.map (fun y=>bI (ρ y))=lo'.map some→hi.map (fun y=>bI (ρ y))=hi'.map some→jr lo' hi' o.l.length=some (a,b)→
  Res P ρ os bs (.lsl s x lo hi) (.c false [.osub k i a b]) os bs
 |iadU {s x i k j p q o z}:ρ x= .c false [.osub k j p q]→bI (ρ i)=some z→0≤z→os[k]? =some o→o.ver=j→z.toNat<q - p→o.s=s→Res P ρ os bs (.iad s x i) (.eptr k j (p+z.toNat) 0) os bs
 |lenU {x k i p q o}:ρ x= .c false [.osub k i p q]→os[k]? =some o→o.ver=i→Res P ρ os bs (.len false x) (.c false [.raw (.int .i64 ((q - p:Nat):Int))]) os bs
 |appU {e s x y k i p q o l n}:ρ x= .c false [.osub k i p q]→os[k]? =some o→o.ver=i→o.e=e→o.s=s→bV os (ρ y)=some (l,n)→El s l→o.l.length+l.length≤jH s→
  Res P ρ os bs (.app e s x y) (.c false [.own k (i+1)]) (os.set k ⟨(o.l.take q).drop p++l,e,s,i+1,o.nw.n && n⟩) bs
 |ext {j x ys g xs}:ρ x= .tup ys→ys[j]? =some (g,xs)→Res P ρ os bs (.ext j x) (.c g xs) os bs
 |call {f xs ds r}:aO os (xs.map ρ) ds→aJ P f ds r→r.res→Res P ρ os bs (.call f xs) r os bs
 |callO {f xs ds g l e s}:aO os (xs.map ρ) ds→ni P f ds g l e s→El s l→Res P ρ os bs (.call f xs) (.c g [.own os.length 0]) (os++ [⟨l,e,s,0,true⟩]) bs
 |callX {f xs ds r os'}:aO os (xs.map ρ) ds→dH P f ds r os'→r.out=true→0<os'.length→Res P ρ os bs (.call f xs) (r.shift os.length) (os++os') bs
 |callA {f xs ds r}:aO [] (xs.map ρ) ds→mg P f ds r→r.old=true→Res P ρ os bs (.call f xs) r os bs
 |appO {e s x y k i o l n}:ρ x= .c false [.own k i]→os[k]? =some o→o.ver=i→o.e=e→o.s=s→bV os (ρ y)=some (l,n)→El s l→o.l.length+l.length≤jH s→
  Res P ρ os bs (.app e s x y) (.c false [.own k (i+1)]) (os.set k ⟨o.l++l,e,s,i+1,o.nw.n && n⟩) bs
 |appN {e s x y l n}:ρ x= .c false [.raw (.slice none 0 0)]→bV os (ρ y)=some (l,n)→El s l→l.length≤jH s→
  Res P ρ os bs (.app e s x y) (.c false [.own os.length 0]) (os++ [⟨l,e,s,0,n⟩]) bs
 |lenS {x n l}:ρ x= .c false [.sl n l]→Res P ρ os bs (.len false x) (.c false [.raw (.int .i64 l.length)]) os bs
 |lenO {x k i o}:ρ x= .c false [.own k i]→os[k]? =some o→o.ver=i→Res P ρ os bs (.len false x) (.c false [.raw (.int .i64 o.l.length)]) os bs
 |lenT {x s}:ρ x= .c false [.raw (.string s)]→Res P ρ os bs (.len true x) (.c false [.raw (.int .i64 s.size)]) os bs
 |mkf {f xs caps}:bn (xs.map ρ)=some caps→Res P ρ os bs (.mkf f xs) (.c false [.cl f caps]) os bs
 |fnilC {ne x f caps}:ρ x= .c false [.cl f caps]→Res P ρ os bs (.fnil ne x) (.c false [.raw (.bool ne)]) os bs
 |fnilN {ne x}:ρ x= .c false [.raw .nilFunc]→Res P ρ os bs (.fnil ne x) (.c false [.raw (.bool (!ne))]) os bs
 |snilZ {ne x}:ρ x= .c false [.raw (.slice none 0 0)]→Res P ρ os bs (.snil ne x) (.c false [.raw (.bool (!ne))]) os bs
 |snilO {ne x k i o}:ρ x= .c false [.own k i]→os[k]? =some o→o.ver=i→0<o.l.length→Res P ρ os bs (.snil ne x) (.c false [.raw (.bool ne)]) os bs
 |lenN {x}:ρ x= .c false [.raw (.slice none 0 0)]→Res P ρ os bs (.len false x) (.c false [.raw (.int .i64 0)]) os bs
section
variable{B:Nat}{Xs:List Nat}{G:Org}{w0:World}{fr:List AV}{os:List Own}{bs:List (List AC)}{E:Env}{a:Act}{w w':World}
theorem IE(E:Env)(p:Nat×TypeId){b:Nat}:b∈({E with bm:=E.bm++ [p]}:Env).M↔b∈E.M∨b=p.1:=by
 simp only[Env.M,a_w,w_,a_E,m_,List.mem_singleton];constructor
 ·rintro((h|h)|h)
  ·exact d_ (d_ h)
  ·exact g_ h
  ·exact d_ (g_ h)
 ·rintro((h|h)|h)
  ·exact d_ (d_ h)
  ·exact g_ h
  ·exact d_ (g_ h)
theorem BJ(E:Env)(p:Value×List Nat){b:Nat}:b∈({E with om:=E.om++ [p]}:Env).M↔b∈E.M∨p.1.ownBlock=some b:=by
 simp only[Env.M,F_,List.flatMap_cons,List.flatMap_nil,List.append_nil,m_];rw[or_assoc];simp
theorem lM(E:Env)(om:List (Value×List Nat)){b:Nat}:b∈({E with om:=E.om++om}:Env).M↔b∈E.M∨b∈om.flatMap fun q=>q.1.ownBlock.toList:=by
 simp only[Env.M,F_,m_];rw[or_assoc]
theorem RS{α:Type}{l m:List α}{y:α}{k:Nat}(h:(l++m)[k]? =some y):l[k]? =some y∨(l.length≤k∧m[k - l.length]? =some y):=by
 rw[a_d]at h;split at h
 ·exact d_ h
 ·exact g_ ⟨by omega,h⟩
theorem vC{α:Type}{l:List α}{x y:α}{k:Nat}(h:(l++ [x])[k]? =some y):l[k]? =some y∨(k=l.length∧y=x):=by
 rw[a_d]at h;split at h
 ·exact d_ h
 ·next hk=>
  have:k - l.length=0:=by
   rcases Nat.eq_zero_or_pos (k - l.length)with h0|h0
   ·exact h0
   ·rw[a_b (by simp;omega)]at h;cases h
  rw[this]at h;simp at h;exact g_ ⟨by omega,h.symm⟩
theorem uw{α:Type}{l:List α}{x y:α}{k:Nat}(h:l[k]? =some y):(l++ [x])[k]? =some y:=by
 rw[c_ (a_.1 h).1];exact h
theorem Rel.PO(h:Rel B Xs G w0 ⟨fr,os,bs⟩ E a w){xs:List AC}{vs:List Value}(e:TypeId)(hx:Oks E os w xs vs)(d:Option Nat):
 Rel B Xs G w0 (St.put ⟨fr,os,bs++ [xs]⟩ d (.bptr bs.length 0)) {E with bm:=E.bm++ [(w.heap.size,e)]} (a.put d (.pointer (some ⟨w.heap.size,0,none⟩))) (w.alloc (.cells vs.toArray e)):=by
 have hb:Below w.heap.size w (w.alloc (.cells vs.toArray e)):=(L_ _ _).alloc (r_ _) _;have hS:Sim E os w {E with bm:=E.bm++ [(w.heap.size,e)]} os (w.alloc (.cells vs.toArray e)):=
  { base:=rfl,size:=hb.size,blk:=fun b hlt _=>hb.block b hlt,
    old:=fun b hlt hm=>by
     rcases(IE E _).1 hm with h'|h'
     ·exact h'
     ·simp only at h';omega
    own:=fun k o p h1 h2=>⟨o,p,h1,h2,r_ _,fun _=>⟨rfl,rfl⟩⟩
    box:=fun k p hp=>uw hp}
 have hbl:E.bm.length=bs.length:=h.blen;exact
  { eb :=h.eb
    ex:=h.ex
    sim:=by rw[aA];exact h.sim.trans hS
    defers:=by rw[jD];exact h.defers
    size:=by rw[lS,kL];exact h.size
    fr:=by
     rw[aA];exact qP (st:=⟨fr,os,bs++ [xs]⟩) h.size (fun t y hy=>(h.fr t y hy).sim hS) ⟨(w.heap.size,e),by simp[← hbl],rfl⟩
    olen:=by rw[aA];exact h.olen
    own:=by
     rw[aA];intro k o p h1 h2;obtain⟨cs,h3,h4,h6,h5⟩:=h.own k o p h1 h2;refine⟨cs,jM h3 hb,h4.below hb,h6,fun b hbm=>⟨fun hm=> ?_,(h5 b hbm).2⟩⟩;rcases(IE E _).1 hm with h'|h'
     ·exact(h5 b hbm).1 h'
     ·have:=Rs.lt h4 b hbm;simp only at h';omega
    blen:=by rw[aU];simp[hbl]
    box:=by
     rw[aU,aA];intro k ys p h1 h2;rcases vC h2 with h2|⟨hk,rfl⟩
     ·rcases vC h1 with h1|⟨hk,rfl⟩
      ·obtain⟨h3,us,h4,h5⟩:=h.box k ys p h1 h2;exact⟨h3,us,h4.below hb,h5.sim hS⟩
      ·rw[hk,← hbl,a_b (r_ _)]at h2;cases h2
     ·rw[hk,hbl]at h1;simp at h1;subst h1;exact⟨h.DK,vs,by simpa using Row.new w e vs.toArray,hx.sim hS⟩
    nodup:=by
     have:=h.nodup;unfold Env.M at this⊢;simp only[a_w,w_,a_E,b_];rw[K_]at this⊢;refine⟨this.1, ?_, ?_⟩
     ·rw[C_,a_q];exact⟨fun hm=>by have:=(uh h (List.mem_append_right _ hm)).2;omega,this.2.1⟩
     ·intro x hx y hy e;subst e;rcases m_.1 hy with hy|hy
      ·simp at hy;have:=(uh h (List.mem_append_left _ hx)).2;omega
      ·exact this.2.2 x hx x hy rfl
    lin:=by rw[aA];exact h.lin
    unf:=by rw[aA];exact h.pz hS
    below:=h.below.trans (hb.mono h.DK)
    base:=h_ h.base hb.size}
end
section
variable{B:Nat}{Xs:List Nat}{G:Org}{w0:World}{fr:List AV}{os:List Own}{bs:List (List AC)}{E:Env}{a:Act}{w w':World}
theorem Gs{l:List (Nat×TypeId)}(h:(l.map (·.1)).Nodup){i j:Nat}{p q:Nat×TypeId}(hi:l[i]? =some p)(hj:l[j]? =some q)(e:p.1=q.1):i=j:=by
 have hi':(l.map (·.1))[i]? =some p.1:=by rw[a_m,hi];rfl
 have hj':(l.map (·.1))[j]? =some p.1:=by rw[a_m,hj,e];rfl
 obtain⟨h1,h2⟩:=a_.1 hi';obtain⟨h3,h4⟩:=a_.1 hj';rcases Nat.lt_trichotomy i j with hij|hij|hij
 ·exact absurd (h2.trans h4.symm) (N_.1 h i j h1 h3 hij)
 ·exact hij
 ·exact absurd (h4.trans h2.symm) (N_.1 h j i h3 h1 hij)
theorem Rel.IZ(h:Rel B Xs G w0 ⟨fr,os,bs⟩ E a w){k:Nat}{p:Nat×TypeId}{ys xs:List AC}{us:List Value}(hk:bs[k]? =some xs)(hp:E.bm[k]? =some p)
 (hy:Oks E os w ys us) (hw:w'.heap.size=w.heap.size) (ho:w'.os=w.os∧w'.tape=w.tape∧w'.output=w.output)
 (hblk:∀b,b≠p.1→w'.heap[b]? =w.heap[b]?) (hrow:Row w' p.1 p.2 us) (d:Option Nat) {x:AV} {v:Value} (hx:x.ok E os w v):
 Rel B Xs G w0 (St.put ⟨fr,os,bs.set k ys⟩ d x) E (a.put d v) w':=by
 have hpM:p.1∈E.M:=gV.2 (d_ ⟨k,p,hp,rfl⟩);have hS:Sim E os w E os w':=
  { base:=rfl,size:=Q_ hw.symm,blk:=fun b hlt hm=>hblk b (fun e=>hm (e▸hpM)),old:=fun _ _ h=>h,
    own:=fun k o p h1 h2=>⟨o,p,h1,h2,r_ _,fun _=>⟨rfl,rfl⟩⟩,box:=fun _ _ h=>h}
 have hnd:=h.nodup;unfold Env.M at hnd;rw[K_]at hnd;have hkl:k<bs.length:=(a_.1 hk).1;exact
  { eb:=h.eb
    ex:=h.ex
    sim:=by rw[aA];exact h.sim.trans hS
    defers:=by rw[jD];exact h.defers
    size:=by rw[lS,kL];exact h.size
    fr:=by
     rw[aA];exact qP (st:=⟨fr,os,bs.set k ys⟩) h.size (fun t y hy=>(h.fr t y hy).sim hS) (hx.sim hS)
    olen:=by rw[aA];exact h.olen
    own:=by
     rw[aA];intro j o q h1 h2;obtain⟨cs,h3,h4,h6,h5⟩:=h.own j o q h1 h2;have hr:∀b,q.1.ownBlock=some b→b≠p.1:=fun b hb e=>
      hnd.2.2 p.1 (a_D.2 ⟨p,v_ hp,rfl⟩) b (R_.2 ⟨q,v_ h2,by simpa using hb⟩) e.symm
     refine⟨cs, ?_,h4.same (fun b hb=>hblk b (fun e=>(h5 b hb).1 (e▸hpM))) (Q_ hw.symm),h6,h5⟩;obtain⟨h7,h8⟩:=h3;refine⟨h7, ?_⟩;rcases h8 with h8|⟨g,zz,cap,cur,hv,hg,hh,r⟩
     ·exact d_ h8
     ·exact g_ ⟨g,zz,cap,cur,hv,hg,by rw[hblk g (hr g (by rw[hv];rfl))];exact hh,r⟩
    blen:=by rw[aU];simp only[List.length_set];exact h.blen
    box:=by
     rw[aU,aA];intro j zs q h1 h2;simp only at h1;rw[a_l]at h1;split at h1
     ·next e=>
      subst e
      try rw[if_pos hkl]at h1
      injection h1 with h1
      subst h1;rw[hp]at h2;injection h2 with h2
      subst h2;exact⟨(BL h hp).1,us,hrow,hy.sim hS⟩
     ·next e=>
      obtain⟨h3,rs,h4,h5⟩:=h.box j zs q h1 h2;exact⟨h3,rs,h4.same (hblk q.1 (fun e'=>e (Gs hnd.1 hp h2 e'.symm))),h5.sim hS⟩
    nodup:=h.nodup
    lin:=by rw[aA];exact h.lin
    unf:=by rw[aA];exact h.pz hS
    below:=h.below.trans ⟨ho.1,ho.2.1,ho.2.2,Q_ hw.symm,fun b hb=>hblk b (fun e=>by have:=(BL h hp).1;omega)⟩
    base:=by rw[hw];exact h.base}
theorem Rel.KL(h:Rel B Xs G w0 ⟨fr,os,bs⟩ E a w)(hb:Below w.heap.size w w'){o:Own}{v:Value}{x:AV}{u:Value}{f:List Nat}{cs:List Value}(h1:aS w' w.heap.size o.e o.s v o.l.length cs)(h2:Rs w' o.l f cs)(h3:El o.s o.l)
 (h4:∀b∈f,b∉E.M∧some b≠v.ownBlock∧(o.nw.n=true→E.nw b)) (h0:o.ver=0) (d:Option Nat)
 (hx:∀(E':Env) (os':List Own),(AC.own os.length 0).ok E' os' w' v→x.ok E' os' w' u) (h6:o.nw.lin=true→BM E.om os os.length f:=by intro e;cases e) (h7:o.nw.lin=true→CB w' f:=by intro e;cases e):
 Rel B Xs G w0 (St.put ⟨fr,os++ [o],bs⟩ d x) {E with om:=E.om++ [(v,f)]} (a.put d u) w':=by
 have hge:∀b,v.ownBlock=some b→w.heap.size≤b:=fun b hb=>(aS.lt h1 b hb).1
 have hS:Sim E os w {E with om:=E.om++ [(v,f)]} (os++ [o]) w':=
  { base:=rfl,size:=hb.size,blk:=fun b hlt _=>hb.block b hlt,
    old:=fun b hlt hm=>by
     rcases(BJ E _).1 hm with h'|h'
     ·exact h'
     ·have:=hge b h';omega
    own:=fun k o p h1 h2=>⟨o,p,uw h1,uw h2,Nat.le_refl _,fun _=>⟨rfl,rfl⟩⟩
    box:=fun k p hp=>hp}
 have hol:E.om.length=os.length:=h.olen;exact
  { eb :=h.eb
    ex:=h.ex
    sim:=by rw[aA];exact h.sim.trans hS
    defers:=by rw[jD];exact h.defers
    size:=by rw[lS,kL];exact h.size
    fr:=by
     rw[aA];exact qP (st:=⟨fr,os++ [o],bs⟩) h.size (fun t y hy=>(h.fr t y hy).sim hS) (hx _ _ ⟨(jE h1).imp fun A h=>⟨_,h⟩,o,(v,f),by simp,by simp[← hol],by omega,fun _=>rfl⟩)
    olen:=by rw[aA];simp[hol]
    own :=by
     rw[aA];intro k o' p' g1 g2;rcases vC g1 with g1|⟨hk,rfl⟩
     ·rcases vC g2 with g2|⟨hk,rfl⟩
      ·obtain⟨cs',h5,h6,h7,h8⟩:=h.own k o' p' g1 g2;refine⟨cs',jM h5 hb,h6.below hb,h7,fun b hbm=>⟨fun hm=> ?_,(h8 b hbm).2⟩⟩;rcases(BJ E _).1 hm with h'|h'
       ·exact(h8 b hbm).1 h'
       ·have:=Rs.lt h6 b hbm;have:=hge b h';omega
      ·rw[hk,hol,List.getElem?_eq_none (Nat.le_refl _)]at g1;cases g1
     ·rw[hk,← hol]at g2;simp at g2;subst g2;refine⟨cs,kN h1 h.base,h2,h3,fun b hbm=>⟨fun hm=> ?_,(h4 b hbm).2.2⟩⟩;rcases(BJ E _).1 hm with h'|h'
      ·exact(h4 b hbm).1 h'
      ·exact(h4 b hbm).2.1 h'.symm
    blen:=by rw[aU];exact h.blen
    box:=by
     rw[aU,aA];intro k ys p g1 g2;obtain⟨h5,us,h6,h7⟩:=h.box k ys p g1 g2;exact⟨h5,us,h6.below hb,h7.sim hS⟩
    nodup:=by
     have hM:=h.nodup;unfold Env.M at hM⊢;simp only[List.flatMap_append,List.flatMap_cons,List.flatMap_nil,List.append_nil];rw[← List.append_assoc,List.nodup_append];refine⟨hM,by cases v.ownBlock<;>simp,fun x hx y hy e=> ?_⟩;subst e;have:=(uh h hx).2;have:=hge x (by simpa using hy);omega
    lin:=by
     rw[aA];refine h.lin.app (Lin.one fun e=>(h6 e).1) hol fun j k o1 o2 p p' g1 g2 g3 g4 g5 g6 b hb1 hb2=> ?_
     cases k with
     | zero=>
       simp at g2 g4;subst g2 g4;exact(h6 g6).2 j o1 p (Nat.ne_of_lt (List.getElem?_eq_some_iff.1 g1).1) g1 g3 g5 b hb2 hb1
     |succ k=>simp at g2
    unf:=by rw[aA];exact(h.pz hS).app (Unf.one h7) hol
    below:=h.below.trans (hb.mono h.DK)
    base:=Nat.le_trans h.base hb.size}
theorem Rel.Ad(h:Rel B Xs G w0 ⟨fr,os,bs⟩ E a w)(hb:Below w.heap.size w w'){o:Own}{v:Value}{f:List Nat}{cs:List Value}(h1:aS w' w.heap.size o.e o.s v o.l.length cs)(h2:Rs w' o.l f cs)(h3:El o.s o.l)
 (h4:∀b∈f,b∉E.M∧some b≠v.ownBlock∧(o.nw.n=true→E.nw b)) (h0:o.ver=0) (d:Option Nat) (h6:o.nw.lin=true→BM E.om os os.length f:=by intro e;cases e) (h7:o.nw.lin=true→CB w' f:=by intro e;cases e):
 Rel B Xs G w0 (St.put ⟨fr,os++ [o],bs⟩ d (.c false [.own os.length 0])) {E with om:=E.om++ [(v,f)]} (a.put d v) w':=
 h.KL hb h1 h2 h3 h4 h0 d (fun E' os' hx=>⟨hx,trivial⟩) h6 h7
theorem Rel.vU(h:Rel B Xs G w0 ⟨fr,os,bs⟩ E a w)(hb:Below w.heap.size w w'){os':List Own}{om:List (Value×List Nat)}{x:AV}{u:Value}(ho:oL w.heap.size w' om os')(d:Option Nat)
 (hx:∀E':Env,(∀b,b∈E'.M↔b∈E.M∨b∈om.flatMap fun q=>q.1.ownBlock.toList)→E'.nw=E.nw→E'.om=E.om++om→x.ok E' (os++os') w' u):
 Rel B Xs G w0 (St.put ⟨fr,os++os',bs⟩ d x) {E with om:=E.om++om} (a.put d u) w':=by
 obtain⟨o1,o2,o3,o4,o5⟩:=ho;have hge:∀b∈om.flatMap fun q=>q.1.ownBlock.toList,w.heap.size≤b:=fun b hb=>by
  obtain⟨q,hq,hqb⟩:=R_.1 hb;obtain⟨k,hk⟩:=D_.1 hq;have hk':k<os'.length:=by rw[← o1];exact(a_.1 hk).1
  obtain⟨cs,h1,_⟩:=o2 k _ q (n_ hk') hk;exact(aS.lt h1 b (by simpa using hqb)).1
 have hol:E.om.length=os.length:=h.olen;have hS:Sim E os w {E with om:=E.om++om} (os++os') w':=
  { base:=rfl,size:=hb.size,blk:=fun b hlt _=>hb.block b hlt,
    old:=fun b hlt hm=>by
     rcases(lM E om).1 hm with h'|h'
     ·exact h'
     ·have:=hge b h';omega
    own:=fun k o p h1 h2=>⟨o,p,by rw[c_ (a_.1 h1).1];exact h1,by rw[c_ (a_.1 h2).1];exact h2,r_ _,fun _=>⟨rfl,rfl⟩⟩
    box:=fun k p hp=>hp}
 exact
  { eb :=h.eb
    ex:=h.ex
    sim:=by rw[aA];exact h.sim.trans hS
    defers:=by rw[jD];exact h.defers
    size:=by rw[lS,kL];exact h.size
    fr:=by
     rw[aA];exact qP (st:=⟨fr,os++os',bs⟩) h.size (fun t y hy=>(h.fr t y hy).sim hS) (hx _ (fun b=>lM E om) rfl rfl)
    olen:=by rw[aA];simp[hol,o1]
    own:=by
     rw[aA];intro k o' p' g1 g2;simp only at g1 g2;rcases RS g1 with g1|⟨hk,g1⟩
     ·have hk:k<E.om.length:=by rw[hol];exact(a_.1 g1).1
      rw[c_ hk]at g2;obtain⟨cs',h5,h6,h7,h8⟩:=h.own k o' p' g1 g2;refine⟨cs',jM h5 hb,h6.below hb,h7,fun b hbm=>⟨fun hm=> ?_,(h8 b hbm).2⟩⟩;rcases(lM E om).1 hm with h'|h'
      ·exact(h8 b hbm).1 h'
      ·have:=Rs.lt h6 b hbm;have:=hge b h';omega
     ·rw[k_ (by omega),hol]at g2;obtain⟨cs,h1,h2,h3,h4⟩:=o2 _ o' p' g1 g2;refine⟨cs,kN h1 h.base,h2,h3,fun b hbm=>⟨fun hm=> ?_,fun _=>h.qx (h_ h.base (h4 b hbm).1)⟩⟩;rcases(lM E om).1 hm with h'|h'
      ·have:=(uh h h').2;have:=(h4 b hbm).1;omega
      ·exact(h4 b hbm).2 h'
    blen:=by rw[aU];exact h.blen
    box:=by
     rw[aU,aA];intro k ys p g1 g2;obtain⟨h5,us,h6,h7⟩:=h.box k ys p g1 g2;exact⟨h5,us,h6.below hb,h7.sim hS⟩
    nodup:=by
     have hM:=h.nodup;unfold Env.M at hM⊢;simp only[F_];rw[← b_,K_];refine⟨hM,o3,fun x hx y hy e=> ?_⟩;subst e;have:=(uh h hx).2;have:=hge x hy;omega
    lin:=by
     rw[aA];refine h.lin.app o4 hol fun j k o1 o2' p p' g1 g2 g3 g4 g5 g6 b hb1 hb2=> ?_
     obtain⟨cs,_,q2,_,q4⟩:=h.own j o1 p g1 g3;have:=Rs.lt q2 b hb1;obtain⟨cs',_,_,_,q5⟩:=o2 k o2' p' g2 g4;have:=(q5 b hb2).1;omega
    unf:=by rw[aA];exact(h.pz hS).app o5 hol
    below:=h.below.trans (hb.mono h.DK)
    base:=h_ h.base hb.size}
theorem Rel.setOwn(h:Rel B Xs G w0 ⟨fr,os,bs⟩ E a w){k:Nat}{o:Own}{p:Value×List Nat}(ho:os[k]? =some o)(hp:E.om[k]? =some p){l:List D}{nw:Nw}{f:List Nat}{cs:List Value}{b:Nat}
 (hb:p.1.ownBlock=some b) (hw:w'.heap.size=w.heap.size) (hos:w'.os=w.os∧w'.tape=w.tape∧w'.output=w.output) (hblk:∀g,g≠b→w'.heap[g]? =w.heap[g]?)
 (h1:aS w' E.B o.e o.s p.1 l.length cs) (h2:Rs w' l f cs) (h3:El o.s l) (h4:∀b∈f,b∉E.M∧(nw.n=true→E.nw b)) (d:Option Nat) (h6:nw.lin=true→BM E.om os k f:=by intro e;cases e) (h7:nw.lin=true→CB w' f:=by intro e;cases e):
 Rel B Xs G w0 (St.put ⟨fr,os.set k ⟨l,o.e,o.s,o.ver,nw⟩,bs⟩ d .any) {E with om:=E.om.set k (p.1,f)} (a.put d undef) w':=by
 have hkl:k<os.length:=(List.getElem?_eq_some_iff.1 ho).1;have hke:k<E.om.length:=(List.getElem?_eq_some_iff.1 hp).1;have hol:E.om.length=os.length:=h.olen;have hbM:b∈E.M:=gV.2 (Or.inr ⟨k,p,hp,hb⟩);have hob:(E.om.set k (p.1,f)).map (fun q=>q.1.ownBlock.toList)=E.om.map (fun q=>q.1.ownBlock.toList):=by
  rw[List.map_set];refine List.ext_getElem? fun j=> ?_
  rw[List.getElem?_set];split
  ·next e=>
   subst e;rw[List.getElem?_map,hp];simp[hke]
  ·rfl
 have hM:({E with om:=E.om.set k (p.1,f)}:Env).M=E.M:=by
  simp only[Env.M,List.flatMap_def,hob]
 have hS:Sim E os w {E with om:=E.om.set k (p.1,f)} (os.set k ⟨l,o.e,o.s,o.ver,nw⟩) w':=
  { base:=rfl,size:=Nat.le_of_eq hw.symm,blk:=fun g hlt hm=>hblk g (fun e=>hm (e▸hbM)),old:=fun g _ hm=>by rw[hM]at hm;exact hm,
    own:=fun j o' p' g1 g2=>by
     by_cases e:k=j
     ·subst e;rw[ho]at g1;injection g1 with g1
      subst g1;rw[hp]at g2;injection g2 with g2
      subst g2;exact⟨⟨l,o.e,o.s,o.ver,nw⟩,(p.1,f),by rw[List.getElem?_set_self hkl],by rw[List.getElem?_set_self hke],Nat.le_refl _,fun _=>⟨rfl,rfl⟩⟩
     ·exact⟨o',p',by rw[List.getElem?_set_ne e];exact g1,by rw[List.getElem?_set_ne e];exact g2,Nat.le_refl _,fun _=>⟨rfl,rfl⟩⟩
    box:=fun j p hp=>hp}
 have hnd:=h.nodup;unfold Env.M at hnd;rw[List.nodup_append]at hnd;have hne:∀j q,E.om[j]? =some q→j≠k→q.1.ownBlock≠some b:=by
  intro j q g1 hjk g2;have : ∀(L:List (Value×List Nat)) (i j:Nat) (p q:Value×List Nat),(L.flatMap (fun p=>p.1.ownBlock.toList)).Nodup→L[i]? =some p→L[j]? =some q→p.1.ownBlock=some b→q.1.ownBlock=some b→i=j:=by
   intro L
   induction L with
   |nil=>intro i j p q _ hi;simp at hi
   | cons z L ih=>
     intro i j p q hn hi hj hpb hqb;rw[List.flatMap_cons,List.nodup_append]at hn;cases i with
     | zero=>
       cases j with
       |zero=>rfl
       | succ j=>
         simp at hi hj;subst hi;exact absurd rfl (hn.2.2 b (by simp[hpb]) b (List.mem_flatMap.2 ⟨q,List.mem_of_getElem? hj,by simp[hqb]⟩))
     | succ i=>
       cases j with
       | zero=>
         simp at hi hj;subst hj;exact absurd rfl (hn.2.2 b (by simp[hqb]) b (List.mem_flatMap.2 ⟨p,List.mem_of_getElem? hi,by simp[hpb]⟩))
       | succ j=>
         simp at hi hj;rw[ih i j p q hn.2.1 hi hj hpb hqb]
  exact hjk (this E.om j k q p hnd.2.1 g1 hp g2 hb)
 exact
  { eb:=h.eb
    ex:=h.ex
    sim:=by rw[aA];exact h.sim.trans hS
    defers:=by rw[jD];exact h.defers
    size:=by rw[lS,kL];exact h.size
    fr:=by
     rw[aA];exact qP (st:=⟨fr,os.set k ⟨l,o.e,o.s,o.ver,nw⟩,bs⟩) h.size (fun t y hy=>(h.fr t y hy).sim hS) trivial
    olen:=by rw[aA];simp[hol]
    own:=by
     rw[aA];intro j o' p' g1 g2;simp only at g1 g2;by_cases e:k=j
     ·subst e;rw[List.getElem?_set_self hkl]at g1;rw[List.getElem?_set_self hke]at g2;injection g1 with g1
      injection g2 with g2
      subst g1 g2;exact⟨cs,h1,h2,h3,fun g hg=>⟨by rw[hM];exact(h4 g hg).1,(h4 g hg).2⟩⟩
     ·rw[List.getElem?_set_ne e]at g1 g2;obtain⟨cs',h5,h6,h7,h8⟩:=h.own j o' p' g1 g2;refine⟨cs', ?_,h6.same (fun g hg=>hblk g (fun e'=>(h8 g hg).1 (e'▸hbM))) (Nat.le_of_eq hw.symm),h7,fun g hg=>⟨by rw[hM];exact(h8 g hg).1,(h8 g hg).2⟩⟩;obtain⟨h9,h10⟩:=h5;refine⟨h9, ?_⟩;rcases h10 with h10|⟨g,zz,cap,cur,hv,hgb,hh,r⟩
      ·exact Or.inl h10
      ·exact Or.inr ⟨g,zz,cap,cur,hv,hgb,by rw[hblk g (fun e'=>hne j p' g2 (fun e''=>e e''.symm) (by rw[hv,e'];rfl))];exact hh,r⟩
    blen:=by rw[aU];exact h.blen
    box:=by
     rw[aU,aA];intro j ys q g1 g2;obtain⟨h5,us,h6,h7⟩:=h.box j ys q g1 g2;refine⟨h5,us,h6.same (hblk q.1 (fun e=> ?_)),h7.sim hS⟩;exact hnd.2.2 q.1 (List.mem_map.2 ⟨q,List.mem_of_getElem? g2,rfl⟩) b (List.mem_flatMap.2 ⟨p,List.mem_of_getElem? hp,by simp[hb]⟩) e
    nodup:=by rw[hM];exact h.nodup
    lin:=by rw[aA];exact h.lin.set h6
    unf:=by rw[aA];exact(h.pz hS).set h7
    below:=h.below.trans ⟨hos.1,hos.2.1,hos.2.2,Nat.le_of_eq hw.symm,fun g hg=>hblk g (fun e=>by have:=(BK h hp hb).1;omega)⟩
    base:=by rw[hw];exact h.base}
theorem Rel.grow(h:Rel B Xs G w0 ⟨fr,os,bs⟩ E a w){k:Nat}{o:Own}{p:Value×List Nat}(ho:os[k]? =some o)(hp:E.om[k]? =some p){l:List D}{nw:Nw}{v:Value}{f:List Nat}{cs:List Value}
 (hg:w.grownBy w' p.1.ownBlock) (hat:v.ownBlock=p.1.ownBlock∨v.ownBlock=some w.heap.size)
 (h1:aS w' E.B o.e o.s v l.length cs) (h2:Rs w' l f cs) (h3:El o.s l) (h4:∀b∈f,b<w.heap.size∧b∉E.M∧(nw.n=true→E.nw b)) (d:Option Nat) (h6:nw.lin=true→BM E.om os k f:=by intro e;cases e) (h7:nw.lin=true→CB w' f:=by intro e;cases e):
 Rel B Xs G w0 (St.put ⟨fr,os.set k ⟨l,o.e,o.s,o.ver+1,nw⟩,bs⟩ d (.c false [.own k (o.ver+1)])) {E with om:=E.om.set k (v,f)} (a.put d v) w':=by
 have hkl:k<os.length:=(List.getElem?_eq_some_iff.1 ho).1;have hke:k<E.om.length:=(List.getElem?_eq_some_iff.1 hp).1;have hol:E.om.length=os.length:=h.olen;have hpM:∀b,p.1.ownBlock=some b→b∈E.M:=fun b hb=>gV.2 (Or.inr ⟨k,p,hp,hb⟩)
 have hM:∀b,b∈({E with om:=E.om.set k (v,f)}:Env).M→b∈E.M∨b=w.heap.size:=by
  intro b hb;rcases gV.1 hb with⟨j,q,g1,g2⟩|⟨j,q,g1,g2⟩
  ·exact Or.inl (gV.2 (Or.inl ⟨j,q,g1,g2⟩))
  ·simp only at g1;rw[List.getElem?_set]at g1;split at g1
   ·try rw[if_pos hke]at g1
    injection g1 with g1
    subst g1;rcases hat with e|e
    ·exact Or.inl (hpM b (by rw[← e];exact g2))
    ·simp only at g2;rw[e]at g2;injection g2 with g2
     exact Or.inr g2.symm
   ·exact Or.inl (gV.2 (Or.inr ⟨j,q,g1,g2⟩))
 have hblk:∀b,b<w.heap.size→b∉E.M→w'.heap[b]? =w.heap[b]? :=fun b hlt hm=>hg.block b hlt (fun e=>hm (hpM b e.symm))
 have hS:Sim E os w {E with om:=E.om.set k (v,f)} (os.set k ⟨l,o.e,o.s,o.ver+1,nw⟩) w':=
  { base:=rfl,size:=hg.size,blk:=hblk,
    old:=fun b hlt hm=>by
     rcases hM b hm with h'|h'
     ·exact h'
     ·omega
    own:=fun j o' p' g1 g2=>by
     by_cases e:k=j
     ·subst e;rw[ho]at g1;injection g1 with g1
      subst g1;exact⟨⟨l,o.e,o.s,o.ver+1,nw⟩,(v,f),by rw[List.getElem?_set_self hkl],by rw[List.getElem?_set_self hke],Nat.le_succ _,fun e=>by simp only at e;omega⟩
     ·exact⟨o',p',by rw[List.getElem?_set_ne e];exact g1,by rw[List.getElem?_set_ne e];exact g2,Nat.le_refl _,fun _=>⟨rfl,rfl⟩⟩
    box:=fun j p hp=>hp}
 have hnd:=h.nodup;have hnd':=hnd;unfold Env.M at hnd';rw[List.nodup_append]at hnd';have hne:∀j q,E.om[j]? =some q→j≠k→∀b,q.1.ownBlock=some b→some b≠p.1.ownBlock:=by
  intro j q g1 hjk b g2 e
  
  have hfl:=hnd'.2.1;have : ∀(L:List (Value×List Nat)) (i j:Nat) (p q:Value×List Nat) (b:Nat),(L.flatMap (fun p=>p.1.ownBlock.toList)).Nodup→L[i]? =some p→L[j]? =some q→p.1.ownBlock=some b→q.1.ownBlock=some b→i=j:=by
   intro L
   induction L with
   |nil=>intro i j p q b _ hi;simp at hi
   | cons z L ih=>
     intro i j p q b hn hi hj hpb hqb;rw[List.flatMap_cons,List.nodup_append]at hn;cases i with
     | zero=>
       cases j with
       |zero=>rfl
       | succ j=>
         simp at hi hj;subst hi;exact absurd rfl (hn.2.2 b (by simp[hpb]) b (List.mem_flatMap.2 ⟨q,List.mem_of_getElem? hj,by simp[hqb]⟩))
     | succ i=>
       cases j with
       | zero=>
         simp at hi hj;subst hj;exact absurd rfl (hn.2.2 b (by simp[hqb]) b (List.mem_flatMap.2 ⟨p,List.mem_of_getElem? hi,by simp[hpb]⟩))
       | succ j=>
         simp at hi hj;rw[ih i j p q b hn.2.1 hi hj hpb hqb]
  exact hjk (this E.om j k q p b hfl g1 hp g2 e.symm)
 exact
  { eb := h.eb
    ex:=h.ex
    sim:=by rw[aA];exact h.sim.trans hS
    defers:=by rw[jD];exact h.defers
    size:=by rw[lS,kL];exact h.size
    fr:=by
     rw[aA];refine qP (st:=⟨fr,os.set k ⟨l,o.e,o.s,o.ver+1,nw⟩,bs⟩) h.size (fun t y hy=>(h.fr t y hy).sim hS) ⟨⟨(jE h1).imp fun A h=>⟨_,h⟩,⟨l,o.e,o.s,o.ver+1,nw⟩,(v,f), ?_, ?_,Nat.le_refl _,fun _=>rfl⟩,trivial⟩
     ·simp only;rw[List.getElem?_set_self hkl]
     ·simp only;rw[List.getElem?_set_self hke]
    olen:=by rw[aA];simp[hol]
    own :=by
     rw[aA];intro j o' p' g1 g2;simp only at g1 g2;by_cases e:k=j
     ·subst e;rw[List.getElem?_set_self hkl]at g1;rw[List.getElem?_set_self hke]at g2;injection g1 with g1
      injection g2 with g2
      subst g1 g2;refine⟨cs,h1,h2,h3,fun b hb=>⟨fun hm=> ?_,(h4 b hb).2.2⟩⟩;rcases hM b hm with h'|h'
      ·exact(h4 b hb).2.1 h'
      ·have:=(h4 b hb).1;omega
     ·rw [List.getElem?_set_ne e]at g1 g2;obtain⟨cs',h5,h6,h7,h8⟩:=h.own j o' p' g1 g2;refine⟨cs', ?_,h6.same (fun b hb=>hblk b (Rs.lt h6 b hb) (h8 b hb).1) hg.size,h7,fun b hb=>⟨fun hm=> ?_,(h8 b hb).2⟩⟩
      ·obtain⟨h9,h10⟩:=h5;refine⟨h9, ?_⟩;rcases h10 with h10|⟨g,zz,cap,cur,hv,hgb,hh,r⟩
       ·exact Or.inl h10
       ·have hgl:g<w.heap.size:=by
         rcases Nat.lt_or_ge g w.heap.size with hlt|hge
         ·exact hlt
         ·rw[Array.getElem?_eq_none hge]at hh;cases hh
        exact Or.inr ⟨g,zz,cap,cur,hv,hgb,by rw[hg.block g hgl (hne j p' g2 (fun e'=>e e'.symm) g (by rw[hv];rfl))];exact hh,r⟩
      ·rcases hM b hm with h'|h'
       ·exact(h8 b hb).1 h'
       ·have:=Rs.lt h6 b hb;omega
    blen:=by rw[aU];exact h.blen
    box:=by
     rw[aU,aA];intro j ys q g1 g2;obtain⟨h5,us,h6,h7⟩:=h.box j ys q g1 g2;refine⟨h5,us,h6.same (hg.block q.1 h6.lt (fun e=> ?_)),h7.sim hS⟩;exact hnd'.2.2 q.1 (List.mem_map.2 ⟨q,List.mem_of_getElem? g2,rfl⟩) q.1 (List.mem_flatMap.2 ⟨p,List.mem_of_getElem? hp,by simp[← e]⟩) rfl
    nodup :=by
     unfold Env.M;rw[List.nodup_append];have hset:∀(L:List (Value×List Nat)) (i:Nat) (z:Value×List Nat) (p:Value×List Nat),L[i]? =some p→(L.flatMap (fun p=>p.1.ownBlock.toList)).Nodup→(∀b,z.1.ownBlock=some b→b∈p.1.ownBlock.toList∨b∉L.flatMap (fun p=>p.1.ownBlock.toList))→
      ((L.set i z).flatMap (fun p=>p.1.ownBlock.toList)).Nodup∧∀x∈(L.set i z).flatMap (fun p=>p.1.ownBlock.toList),x∈z.1.ownBlock.toList∨x∈L.flatMap (fun p=>p.1.ownBlock.toList):=by
      intro L
      induction L with
      |nil=>intro i z p hi;simp at hi
      | cons y L ih=>
        intro i z p hi hn hz;rw[List.flatMap_cons,List.nodup_append]at hn;cases i with
        | zero=>
          simp at hi;subst hi;rw[List.set_cons_zero,List.flatMap_cons];refine⟨List.nodup_append.2 ⟨by cases z.1.ownBlock<;>simp,hn.2.1,fun x hx x' hx' e=> ?_⟩,fun x hx=> ?_⟩
          ·subst e;rcases hz x (by simpa using hx)with h'|h'
           ·exact hn.2.2 x h' x hx' rfl
           ·exact h' (by rw[List.flatMap_cons];exact List.mem_append_right _ hx')
          ·rcases List.mem_append.1 hx with h'|h'
           ·exact Or.inl h'
           ·exact Or.inr (by rw[List.flatMap_cons];exact List.mem_append_right _ h')
        | succ i=>
          simp at hi;obtain⟨i1,i2⟩:=ih i z p hi hn.2.1 (fun b hb=>by
           rcases hz b hb with h'|h'
           ·exact Or.inl h'
           ·exact Or.inr (fun hm=>h' (by rw[List.flatMap_cons];exact List.mem_append_right _ hm)))
          rw[List.set_cons_succ,List.flatMap_cons];refine⟨List.nodup_append.2 ⟨hn.1,i1,fun x hx x' hx' e=> ?_⟩,fun x hx=> ?_⟩
          ·subst e;rcases i2 x hx' with h'|h'
           ·rcases hz x (by simpa using h')with h''|h''
            ·exact hn.2.2 x hx x (List.mem_flatMap.2 ⟨p,List.mem_of_getElem? hi,h''⟩) rfl
            ·exact h'' (by rw[List.flatMap_cons];exact List.mem_append_left _ hx)
           ·exact hn.2.2 x hx x h' rfl
          ·rcases List.mem_append.1 hx with h'|h'
           ·exact Or.inr (by rw[List.flatMap_cons];exact List.mem_append_left _ h')
           ·rcases i2 x h' with h''|h''
            ·exact Or.inl h''
            ·exact Or.inr (by rw[List.flatMap_cons];exact List.mem_append_right _ h'')
     obtain⟨s1,s2⟩:=hset E.om k (v,f) p hp hnd'.2.1 (fun b hb=>by
      rcases hat with e|e
      ·exact Or.inl (by simp only at hb;rw[e]at hb;simp[hb])
      ·refine Or.inr (fun hm=> ?_);simp only at hb;rw[e]at hb;injection hb with hb
       subst hb;exact Nat.lt_irrefl _ (uh h (List.mem_append_right _ hm)).2)
     refine⟨hnd'.1,s1,fun x hx y hy e=> ?_⟩;subst e;rcases s2 x hy with h'|h'
     ·rcases hat with e|e
      ·exact hnd'.2.2 x hx x (List.mem_flatMap.2 ⟨p,List.mem_of_getElem? hp,by simp only at h';rw[e]at h';exact h'⟩) rfl
      ·simp only at h';rw[e]at h';simp at h';subst h';exact Nat.lt_irrefl _ (uh h (List.mem_append_left _ hx)).2
     ·exact hnd'.2.2 x hx x h' rfl
    lin:=by rw[aA];exact h.lin.set h6
    unf:=by rw[aA];exact(h.pz hS).set h7
    below:=h.below.grown hg h.DK (fun b hb=>(BK h hp hb).1)
    base:=Nat.le_trans h.base hg.size}
end
def lG :TypeDesc→Bool
 | .struct _=>true
 | .array .. =>true
 |_=>false
def pW(P:Program)(e s:Nat):Bool:=match P.info? e with
 |some i=>(match i.zero with|some z=>z.cells.size==s && i.size==s && decide (i.bytes≤byN s) && decide (0<s)|none=>false)
 |none=>false
def pV(P:Program)(s f:Nat):Option (Nat×Nat×Bool):=match P.underlying s with
 | some (.struct fs)=>(match fs[f]? with
   |some fd=>(match P.info? fd.type,P.underlying fd.type with|some i,some d=>some (fd.offset,i.size,lG d)|_,_=>none)
   |none=>none)
 |_=>none
def jw(P:Program)(t:Nat):Option (Nat×Nat):=match P.underlying t with
 |some (.slice e)=>(match P.info? e with|some i=>some (e,i.size)|none=>none)
 |_=>none
def zA :Value→Bool
 | .bool _=>true
 | .int _ _=>true
 | .string _=>true
 |_=>false
def J3 :Opd→Opd→Bool
 | .t a,.t b=>a==b
 |_,_=>false
def LG(P:Program)(e:Nat):Bool:=match P.info? e with
 |some i=>(match i.zero with|some (.int .u8 0)=>i.size==1 && i.bytes==1|_=>false)
 |none=>false
theorem JC{P:Program}{e:Nat}(h:LG P e=true):∃i,P.info? e=some i∧i.zero=some (.int .u8 0)∧i.size=1∧i.bytes=1:=by
 unfold LG at h;split at h
 ·next i hi=>
  split at h
  ·next hz=>
   simp only[U_,beq_iff_eq]at h;exact⟨i,hi,hz,h.1,h.2⟩
  ·cases h
 ·cases h
def bJ (P:Program)(own:Bool)(op:Op):Option I:=match op with
 | .move x=>some (.mov (opd x))
 | .assign x=>some (.mov (opd x))
 | .pick c x y=>some (.pick (opd c) (opd x) (opd y))
 | .binOp op t x y _=>(match op,P.underlying t with
   | .eql,some .bool=>some (.beq false (opd x) (opd y))
   | .neq,some .bool=>some (.beq true (opd x) (opd y))
   | .eql,some (.func _ _ _)=>(match y with| .const .nilFunc=>some (.fnil false (opd x))|_=>none)
   | .neq,some (.func _ _ _)=>(match y with| .const .nilFunc=>some (.fnil true (opd x))|_=>none)
   | .eql,some (.slice _)=>(match y with| .const (.slice none 0 0)=>some (.snil false (opd x))|_=>none)
   | .neq,some (.slice _)=>(match y with| .const (.slice none 0 0)=>some (.snil true (opd x))|_=>none)
   | .eql,some (.struct _)=>(match fl P 8 t with|some ks=>if P.eqGuardType P.depth t then none else some (.beqS false ks (opd x) (opd y))|none=>none)
   | .neq,some (.struct _)=>(match fl P 8 t with|some ks=>if P.eqGuardType P.depth t then none else some (.beqS true ks (opd x) (opd y))|none=>none)
   |op,_=>some (.bin op (opd x) (opd y)))
 | .unOp .not _ x=>some (.not (opd x))
 | .load t x=>(match P.info? t,P.underlying t with
   |some i,some d=>if lG d then some (.load i.size true (opd x))else some (.load 1 false (opd x))
   |_,_=>none)
 | .store t x y=>(match P.info? t with|some i=>some (.store i.size (opd x) (opd y))|none=>none)
 | .fieldAddr s x f=>(match pV P s f with|some (off,n,_)=>if n=0 then none else some (.fad off (opd x))|none=>none)
 | .indexAddr t x i=>(match jw P t with|some (_,s)=>some (.iad s (opd x) (opd i))|none=>none)
 | .nilCheck x=>some (.nck (opd x))
 | .alloc t=>(match P.info? t with|some i=>(match i.zero with|some z=>some (.alloc z.cells.toList)|none=>none)|none=>none)
 | .box t x=>some (.box (opd x))
 | .makeFunc (.func f) first caps=>if first.toList.isEmpty then some (.mkf f (caps.toList.map opd))else none
 | .buildSlice t n ps=>(match jw P t with
   |some (e,s)=>if pW P e s && decide (n*s≤2 ^ 24) && decide (ps.toList.map (·.1)=a_v n)then some (.brow own e s n false (ps.toList.map fun p=>opd p.2))else none
   |none=>none)
 | .makeSlice t l c=>(match jw P t with
   | some (e,s)=>(match(P.info? e).bind (·.zero)with
     |some z=>if s==1 && pW P e 1 && zA z && J3 (opd l) (opd c)then some (.mk e z (opd l))else none
     |none=>none)
   |none=>none)
 | .build t ps=>(match P.info? t,P.underlying t with
   | some it,some (.struct fields)=>(match it.zero,fields.toList.mapM (fun f=>(P.info? f.type).map fun i=>(f.offset,i.size))with
     | some z,some places=>(match ps.toList.mapM (fun p=>(places.toArray[p.1]?).map fun q=>(q.1,q.2,opd p.2))with
       |some l=>some (.bld z.cells.toList l)
       |none=>none)
     |_,_=>none)
   |_,_=>none)
 | .field t x f=>(match pV P t f with|some (off,n,g)=>if g then some (.fld off n true (opd x))else some (.fld off 1 false (opd x))|none=>none)
 | .index t x i=>(match P.underlying t with|some .string=>some (.sidx (opd x) (opd i))|_=>none)
 | .slice t x lo hi none=>(match P.underlying t with
   |some .string=>some (.ssl (opd x) (lo.map opd) (hi.map opd))
   |some (.slice e)=>(match P.info? e with|some i=>some (.lsl i.size (opd x) (lo.map opd) (hi.map opd))|none=>none)
   |_=>none)
 | .extract x j=>some (.ext j (opd x))
 | .convert src dst x=>(match P.underlying src,P.underlying dst with
   |some (.int _),some (.int k)=>some (.cvi k (opd x))
   |some (.slice e),some .string=>(match P.underlying e with|some (.int .u8)=>some (.cvs (opd x))|_=>none)
   |_,_=>none)
 | .call c=>(match c.callee with
   | .value (.func f)=>(match P.funcs[f]? with
     |some fn=>if fn.name== "runtime.NumGoroutine" || fn.body.isNone then none else some (.call f (c.args.toList.map opd))
     |none=>none)
   | .builtin .append=>(match c.args.toList,c.argTypes.toList with
     | [x,y],[t,t']=>if t=t' then(match jw P t with|some (e,s)=>if pW P e s then some (.app e s (opd x) (opd y))else none|none=>none)else
      (match P.underlying t,P.underlying t' with
      |some (.slice e),some .string=>if LG P e then some (.apps e (opd x) (opd y))else none
      |_,_=>none)
     |_,_=>none)
   | .builtin .len=>(match c.args.toList,c.argTypes.toList with
     | [x],[t]=>(match P.underlying t with|some .string=>some (.len true (opd x))|some (.slice _)=>some (.len false (opd x))|_=>none)
     |_,_=>none)
   | .value (.tmp t)=>some (.callv (.t t) (c.args.toList.map opd))
   |_=>none)
 |_=>none
theorem zF{E:Env}{os:List Own}{w:World}:∀(l:List Value),Oks E os w (l.map .raw) l
 | []=>trivial
 |v::l=>⟨rfl,zF l⟩
theorem Jl{E:Env}{os:List Own}{w:World}(v:Value):(kav v).ok E os w v:=by
 unfold kav;split
 ·next cs=>exact⟨cs.toList,by simp,zF _⟩
 ·exact⟨rfl,trivial⟩
theorem dM{B:Nat}{Xs:List Nat}{G:Org}{w0:World}{st:St}{E:Env}{a:Act}{w:World}(h:Rel B Xs G w0 st E a w)(x:Operand):(st.ev (opd x)).ok E st.owns w (a.eval x):=by
 cases x with
 | tmp t=>
   simp only[opd,St.ev,Act.eval];rw[List.getD_eq_getElem?_getD];cases hx:st.fr[t]? with
   |none=>trivial
   |some y=>exact h.fr t y hx
 |const v=>exact Jl v
 |global g=>exact Jl (.pointer (some ⟨g,0,none⟩))
 |func f=>exact Jl (.func (.func f) #[] #[])
section
variable{P:Program}{B:Nat}{Xs:List Nat}{G:Org}{w0:World}{st:St}{E:Env}{a:Act}{w:World}{o:Oper}{K:Act→World→Prop}{Q:Exit→Act→World→Prop}
theorem oH{v:Value}{w':World}(h:(execOp a.eval o).run P w= .ok (.value v) w')(hK:K (a.put o.dst v) w'):o.wp P a w K Q:=by
 unfold Oper.wp;rw[h];exact hK
theorem TN{E:Env}{os:List Own}{w:World}{u v:Value}(h:AV.ok E os w (.c false [.raw u]) v):v=u:=h.1
theorem bT(h:Rel B Xs G w0 st E a w){x:Operand}{u:Value}(hx:st.ev (opd x)= .c false [.raw u]):a.eval x=u:=TN (hx▸dM h x)
theorem rH{x:AV}{z:Int}(h:bI x=some z):∃k,x= .c false [.raw (.int k z)]:=by
 unfold bI at h;split at h
 ·next k z'=>injection h with h;subst h;exact⟨k,rfl⟩
 ·cases h
theorem lX{t e s:Nat}(h:jw P t=some (e,s)):P.underlying t=some (.slice e)∧∃i,P.info? e=some i∧i.size=s:=by
 unfold jw at h;split at h
 ·next e' he=>
  split at h
  ·next i hi=>
   injection h with h
   injection h with h1 h2
   subst h1 h2;exact⟨he,i,hi,rfl⟩
  ·cases h
 ·cases h
theorem vH{s f off n:Nat}{g:Bool}(h:pV P s f=some (off,n,g)):∃fs fd i d,P.underlying s=some (.struct fs)∧fs[f]? =some fd∧P.info? fd.type=some i∧P.underlying fd.type=some d∧fd.offset=off∧i.size=n∧lG d=g:=by
 unfold pV at h;split at h
 ·next fs hfs=>
  split at h
  ·next fd hfd=>
   split at h
   ·next i d hi hd=>
    injection h with h
    injection h with h1 h2
    injection h2 with h2 h3
    exact⟨fs,fd,i,d,hfs,hfd,hi,hd,h1,h2,h3⟩
   ·cases h
  ·cases h
 ·cases h
theorem mZ{e s:Nat}(h:pW P e s=true):∃(i:TypeInfo) (z:Value),P.info? e=some i∧i.zero=some z∧i.size=s∧i.bytes≤byN s∧z.cells.size=s∧0<s:=by
 unfold pW at h;split at h
 ·next i hi=>
  split at h
  ·next z hz=>
   simp only[U_,beq_iff_eq,decide_eq_true_eq]at h;exact⟨i,z,hi,hz,h.1.1.2,h.1.2,h.1.1.1,h.2⟩
  ·cases h
 ·cases h
theorem qY(b o n:Nat):(⟨b,o,none⟩:Addr).add n=⟨b,o+n,none⟩:=by
 unfold Addr.add;split
 ·next h=>subst h;rfl
 ·rfl
theorem wQ{t:TypeId}{i:TypeInfo}{d:TypeDesc}{b o:Nat}{vs:List Value}(hi:P.info? t=some i)(hd:P.underlying t=some d)(ha:At w b o vs)(g:Bool)(n:Nat)
 (hg:lG d=g) (hn:if g then i.size=n else n=1) (hl:n≤vs.length):
 ∃v,(a_j t (.pointer (some ⟨b,o,none⟩))).run P w= .ok v w∧(if g then v= .agg (vs.take n).toArray else vs.take n= [v]):=by
 have hcells:∀m,m≤vs.length→(loadCells ⟨b,o,none⟩ m).run P w= .ok (vs.take m).toArray w:=by
  intro m hm;have:=run_loadCells_list (P:=P) w ⟨b,o,none⟩ (vs.take m) (fun j v hj=>by
   rw[qY];rw[a_e]at hj;split at hj
   ·exact ha j v hj
   ·cases hj)
  rwa[l_,a_r hm]at this
 cases g with
 | true=>
   refine⟨.agg (vs.take n).toArray, ?_,by simp⟩;simp only[if_true]at hn;subst hn;have hagg:(isAgg t).run P w= .ok true w:=by
    cases d<;>simp_all [lG,isAgg,run_underlying hd]
   simp[a_j,G_,loadVar,hagg,sizeOf,typeInfo,hi,hcells _ hl]
 | false=>
   simp only[x_,if_false]at hn;subst hn;have h0:0<vs.length:=by omega
   refine⟨vs[0], ?_,by simp only[x_,if_false];cases vs with|nil=>simp at h0|cons x xs=>simp⟩;have hagg:(isAgg t).run P w= .ok false w:=by
    cases d<;>simp_all [lG,isAgg,run_underlying hd]
   have hc:w.cell? ⟨b,o,none⟩=some vs[0]:=by
    have:=ha 0 vs[0] (n_ h0);simpa using this
   simp[a_j,G_,loadVar,hagg,hc]
theorem Qd{E:Env}{os:List Own}{xs:List AC}{vs:List Value}{v:Value}{g:Bool}{n:Nat}(h:Oks E os w xs vs)(hv:if g then v= .agg (vs.take n).toArray else vs.take n= [v]):AV.ok E os w (.c g (xs.take n)) v:=by
 have ht:=h.take n;show Gok E os w g (xs.take n) v;unfold Gok;cases g with
 | true=>
   simp only[if_true]at hv⊢;exact⟨_,hv,ht⟩
 | false=>
   simp only[x_,if_false]at hv⊢;rw[hv]at ht;exact ht
theorem At.drop{b o n:Nat}{vs:List Value}(h:At w b o vs):At w b (o+n) (vs.drop n):=fun j u hj=>by
 have:=h (n+j) u (by rw[a_f]at hj;exact hj);rwa[← a_B]at this
end
section
variable{P:Program}{B:Nat}{Xs:List Nat}{G:Org}{w0:World}{fr:List AV}{os:List Own}{bs:List (List AC)}{E:Env}{a:Act}{w:World}{d:Option Tmp}{K:Act→World→Prop}{Q:Exit→Act→World→Prop}
 {ty:TypeId} {pos:String} {after:Array Edge} {guard:Option (Nat×Bool)}
theorem PG{E:Env}{os:List Own}{w:World}{y:AC}{v:Value}(hy:y.ok E os w v)(ho:y.one=true):v.oneCell'=true:=by
 cases y with
 |any=>cases ho
 |raw u=>obtain rfl:=hy;exact ho
 | sl n l=>
   obtain⟨fp,h1,_⟩:=hy;obtain⟨A,c,rfl,_⟩:=Sl.form h1;rfl
 | own k i=>
   obtain⟨⟨A,n,c,rfl⟩,_⟩:=hy;rfl
 | osub k i a b=>
   obtain⟨⟨A,n,c,rfl⟩,_⟩:=hy;rfl
 | cl f caps=>
   obtain⟨ps,_,rfl⟩:=hy;rfl
theorem Dx{E:Env}{os:List Own}{w:World}{y:AC}{v:Value}(hy:y.ok E os w v)(ho:y.one=true):v.cells= #[v]:=by
 have:=PG hy ho;cases v<;>simp_all [q_,a_x]
theorem ones_of{E:Env}{os:List Own}{w:World}:∀{xs:List AC} {vs:List Value},Oks E os w xs vs→xs.all AC.one=true→∀v∈vs,v.oneCell'=true
 | [],[],_,_,v,hv=>by simp at hv
 | x::xs,u::vs,h,ho,v,hv=>by
   simp only[List.all_cons,U_]at ho;rcases a_z.1 hv with rfl|hv
   ·exact PG h.1 ho.1
   ·exact ones_of h.2 ho.2 v hv
 | [],_::_,h,_,_,_=>h.elim
 |_::_,[],h,_,_,_=>h.elim
def gI(P:Program)(B:Nat)(Xs:List Nat)(G:Org)(w0:World)(fr:List AV)(a:Act)(w:World)(o:Oper)(Q:Exit→Act→World→Prop)(r:AV)(os':List Own)(bs':List (List AC)):Prop:=
 ∀K:Act→World→Prop,(∀E' v w',Rel B Xs G w0 (St.put ⟨fr,os',bs'⟩ o.dst r) E' (a.put o.dst v) w'→K (a.put o.dst v) w')→o.wp P a w K Q
theorem bM{o:Oper}{r:AV}{v:Value}(h:Rel B Xs G w0 ⟨fr,os,bs⟩ E a w)(hrun:(execOp a.eval o).run P w= .ok (.value v) w)(hx:r.ok E os w v):gI P B Xs G w0 fr a w o Q r os bs:=
 fun K hK=>oH hrun (hK E v w (h.lK (L_ _ _) hx))
theorem GX{x:Operand}{b:Bool}(h:Rel B Xs G w0 ⟨fr,os,bs⟩ E a w):gI P B Xs G w0 fr a w ⟨d,if b then .move x else .assign x,ty,pos,after,guard⟩ Q (St.ev ⟨fr,os,bs⟩ (opd x)) os bs:=by
 refine bM h (v:=a.eval x) ?_ (dM h x);cases b<;>simp[execOp]
theorem MV{c x y:Operand}{b:Bool}(h:Rel B Xs G w0 ⟨fr,os,bs⟩ E a w)(hc:St.ev ⟨fr,os,bs⟩ (opd c)= .c false [.raw (.bool b)]):
 gI P B Xs G w0 fr a w ⟨d,.pick c x y,ty,pos,after,guard⟩ Q (if b then St.ev ⟨fr,os,bs⟩ (opd x)else St.ev ⟨fr,os,bs⟩ (opd y)) os bs:=by
 refine bM h (v:=if b then a.eval x else a.eval y) ?_ ?_
 ·simp[execOp,bT h hc,asBool]
 ·cases b
  ·exact dM h y
  ·exact dM h x
theorem Qc{op:BinOp}{t yt:TypeId}{x y:Operand}{u v z:Value}(h:Rel B Xs G w0 ⟨fr,os,bs⟩ E a w)(hx:St.ev ⟨fr,os,bs⟩ (opd x)= .c false [.raw u])(hy:St.ev ⟨fr,os,bs⟩ (opd y)= .c false [.raw v])(hz:iE op u v=some z):
 gI P B Xs G w0 fr a w ⟨d,.binOp op t x y yt,ty,pos,after,guard⟩ Q (.c false [.raw z]) os bs:=by
 refine bM h (v:=z) ?_ ⟨rfl,trivial⟩;have:=NY (P:=P) (w:=w) (t:=t) (x:=x) (y:=y) hz;simp only[execOp,bT h hx,bT h hy,S_]at this⊢;cases h1:(eqGuard op t x y u v).run P w<;>simp_all
theorem He{ne:Bool}{t yt:TypeId}{x y:Operand}{u v:Bool}(h:Rel B Xs G w0 ⟨fr,os,bs⟩ E a w)(hx:St.ev ⟨fr,os,bs⟩ (opd x)= .c false [.raw (.bool u)])(hy:St.ev ⟨fr,os,bs⟩ (opd y)= .c false [.raw (.bool v)])(ht:P.underlying t=some .bool):
 gI P B Xs G w0 fr a w ⟨d,.binOp (if ne then .neq else .eql) t x y yt,ty,pos,after,guard⟩ Q (.c false [.raw (.bool (if ne then !(u==v)else u==v))]) os bs:=by
 refine bM h (v:= .bool (if ne then !(u==v)else u==v)) ?_ ⟨rfl,trivial⟩;have heq:(V_ t (.bool u) (.bool v)).run P w= .ok (u==v) w:=by
  show(f_ (9999+1) t _ _).run P w=_;rw[f_];simp[run_underlying ht]
 cases ne
 ·simp[execOp,bT h hx,bT h hy,eqGuard,binOp,heq]
 ·simp[execOp,bT h hx,bT h hy,eqGuard,binOp,heq]
theorem Ei :∀{xs:List AC} {us vs:List Value},uF xs=some us→Oks E os w xs vs→vs=us
 | [],us,vs,h,hk=>by
   simp only[uF,i_]at h;subst h;cases vs with
   |nil=>rfl
   |cons v vs=>exact hk.elim
 | x :: xs,us,vs,h,hk=>by
   cases vs with
   |nil=>exact hk.elim
   | cons v vs=>
     cases x with
     | raw u=>
       rw[uF]at h;split at h
       ·next us' hu=>
        injection h with h
        subst h;obtain⟨h1,h2⟩:=hk;rw[Ei hu h2,show v=u from h1]
       ·cases h
     |_=>simp[uF]at h
theorem Dn{ne:Bool}{t yt:TypeId}{x y:Operand}{fs:Array Field}{ks us vs:List Value}{xs ys:List AC}{b:Bool}(h:Rel B Xs G w0 ⟨fr,os,bs⟩ E a w)(ht:P.underlying t=some (.struct fs))(hf:fl P 8 t=some ks)(hg:P.eqGuardType P.depth t=false)
 (hx:St.ev ⟨fr,os,bs⟩ (opd x)= .c true xs) (hy:St.ev ⟨fr,os,bs⟩ (opd y)= .c true ys) (hu:uF xs=some us) (hv:uF ys=some vs) (he:eqV ks us vs=some b):
 gI P B Xs G w0 fr a w ⟨d,.binOp (if ne then .neq else .eql) t x y yt,ty,pos,after,guard⟩ Q (.c false [.raw (.bool (if ne then !b else b))]) os bs:=by
 refine bM h (v:= .bool (if ne then !b else b)) ?_ ⟨rfl,trivial⟩;have h1:=dM h x;have h2:=dM h y;rw[hx]at h1;rw[hy]at h2;obtain⟨us',e1,o1⟩:=h1;obtain⟨vs',e2,o2⟩:=h2;obtain rfl:=Ei hu o1;obtain rfl:=Ei hv o2;have heq:(V_ t (.agg us'.toArray) (.agg vs'.toArray)).run P w= .ok b w:=by
  have:=Qh (P:=P) (w:=w) 8 t ks hf (9999+1) (by omega) us' vs' b he;simp only[mkV,ht]at this;show(f_ (9999+1) t _ _).run P w=_;exact this
 cases ne
 ·simp[execOp,e1,e2,eqGuard,binOp,heq,hg]
 ·simp[execOp,e1,e2,eqGuard,binOp,heq,hg]
theorem rQ{ne:Bool}{t yt:TypeId}{x:Operand}{ps rs:Array TypeId}{vr:Bool}(h:Rel B Xs G w0 ⟨fr,os,bs⟩ E a w)(ht:P.underlying t=some (.func ps rs vr)){b:Bool}
 (hx:(∃f caps,St.ev ⟨fr,os,bs⟩ (opd x)= .c false [.cl f caps]∧b=ne)∨(St.ev ⟨fr,os,bs⟩ (opd x)= .c false [.raw .nilFunc]∧b= !ne)):
 gI P B Xs G w0 fr a w ⟨d,.binOp (if ne then .neq else .eql) t x (.const .nilFunc) yt,ty,pos,after,guard⟩ Q (.c false [.raw (.bool b)]) os bs:=by
 refine bM h (v:= .bool b) ?_ ⟨rfl,trivial⟩;have ec:a.eval (.const .nilFunc)= .nilFunc:=rfl;rcases hx with⟨f,caps,hx,rfl⟩|⟨hx,rfl⟩
 ·have hv:=dM h x;rw[hx]at hv;obtain⟨⟨qs,_,he⟩,_⟩:=hv;have heq:∀u c,(V_ t (.func (.func f) u c) .nilFunc).run P w= .ok false w:=by
   intro u c;show(f_ (9999+1) t _ _).run P w=_;rw[f_];simp[run_underlying ht]
  cases b
  ·simp[execOp,he,eqGuard,binOp,heq,ec]
  ·simp[execOp,he,eqGuard,binOp,heq,ec]
 ·have heq:(V_ t .nilFunc .nilFunc).run P w= .ok true w:=by
   show(f_ (9999+1) t _ _).run P w=_;rw[f_];simp[run_underlying ht]
  cases ne
  ·simp[execOp,bT h hx,eqGuard,binOp,heq,ec]
  ·simp[execOp,bT h hx,eqGuard,binOp,heq,ec]
theorem rO{ne:Bool}{t yt e:TypeId}{x:Operand}(h:Rel B Xs G w0 ⟨fr,os,bs⟩ E a w)(ht:P.underlying t=some (.slice e)){b:Bool}
 (hx:(∃k i o,St.ev ⟨fr,os,bs⟩ (opd x)= .c false [.own k i]∧os[k]? =some o∧o.ver=i∧0<o.l.length∧b=ne)∨(St.ev ⟨fr,os,bs⟩ (opd x)= .c false [.raw (.slice none 0 0)]∧b= !ne)):
 gI P B Xs G w0 fr a w ⟨d,.binOp (if ne then .neq else .eql) t x (.const (.slice none 0 0)) yt,ty,pos,after,guard⟩ Q (.c false [.raw (.bool b)]) os bs:=by
 refine bM h (v:= .bool b) ?_ ⟨rfl,trivial⟩;have ec:a.eval (.const (.slice none 0 0))= .slice none 0 0:=rfl;rcases hx with⟨k,i,o,hx,ho,hv,hl,rfl⟩|⟨hx,rfl⟩
 ·have hev:=dM h x;rw[hx]at hev;obtain⟨⟨_,o',p,h1,h2,h3,h4⟩,_⟩:=hev;simp only at h1;rw[ho]at h1;injection h1 with h1
  subst h1;have he:=h4 hv;obtain⟨cs,h5,h6,h7,h8⟩:=h.own _ _ p ho h2;rcases h5.2 with⟨hv',h9⟩|⟨g,z,cap,cur,hv',_⟩
  ·omega
  have he':=he.trans hv';have heq:(V_ t (.slice (some ⟨g,z,none⟩) o.l.length cap) (.slice none 0 0)).run P w= .ok false w:=by
   show(f_ (9999+1) t _ _).run P w=_;rw[f_];simp[run_underlying ht]
  cases b
  ·simp[execOp,he',eqGuard,binOp,heq,ec]
  ·simp[execOp,he',eqGuard,binOp,heq,ec]
 ·have heq:(V_ t (.slice none 0 0) (.slice none 0 0)).run P w= .ok true w:=by
   show(f_ (9999+1) t _ _).run P w=_;rw[f_];simp[run_underlying ht]
  cases ne
  ·simp[execOp,bT h hx,eqGuard,binOp,heq,ec]
  ·simp[execOp,bT h hx,eqGuard,binOp,heq,ec]
theorem LD{st:St}(h:Rel B Xs G w0 st E a w):∀(xs:List Operand) (caps:List Nat),bn (xs.map fun x=>st.ev (opd x))=some caps→
 ∃ps:List (Nat×TypeId),caps.map (fun k=>E.bm[k]?)=ps.map some∧xs.map a.eval=ps.map fun p=> .pointer (some ⟨p.1,0,none⟩)
 | [],caps,hc=>by
   simp[bn]at hc;subst hc;exact⟨[],rfl,rfl⟩
 | x::xs,caps,hc=>by
   have hv:=dM h x;rw[w_]at hc;unfold bn at hc;split at hc
   ·next heq=>cases heq
   ·next k ys heq=>
    injection heq with h1 h2
    rw[h1]at hv;subst h2;obtain⟨caps',hc',rfl⟩:=A_.1 hc;obtain⟨ps,g1,g2⟩:=LD h xs caps' hc';obtain⟨p,g3,g4⟩:=hv;exact⟨p::ps,by simp[g1,g3],by rw[w_,g4,g2];rfl⟩
   ·cases hc
theorem P5{f:Nat}{first caps:Array Operand}{cs:List Nat}(h:Rel B Xs G w0 ⟨fr,os,bs⟩ E a w)(hf:first.toList.isEmpty=true)(hc:bn ((caps.toList.map opd).map (St.ev ⟨fr,os,bs⟩))=some cs):
 gI P B Xs G w0 fr a w ⟨d,.makeFunc (.func f) first caps,ty,pos,after,guard⟩ Q (.c false [.cl f cs]) os bs:=by
 obtain⟨ps,h1,h2⟩:=LD h caps.toList cs (by rw[List.map_map]at hc;exact hc);have e1:first= #[]:=by apply Array.toList_inj.1;simpa using hf
 have e2:caps.map a.eval=(ps.map fun p=>(.pointer (some ⟨p.1,0,none⟩):Value)).toArray:=by
  apply Array.toList_inj.1;rw[Array.toList_map,h2]
 refine bM h (v:= .func (.func f) #[] (ps.map fun p=>(.pointer (some ⟨p.1,0,none⟩):Value)).toArray) ?_ ⟨⟨ps,h1,rfl⟩,trivial⟩;subst e1;simp[execOp,Instr.makeFunc,e2]
theorem PZ{t:TypeId}{x:Operand}{u:Bool}(h:Rel B Xs G w0 ⟨fr,os,bs⟩ E a w)(hx:St.ev ⟨fr,os,bs⟩ (opd x)= .c false [.raw (.bool u)]):
 gI P B Xs G w0 fr a w ⟨d,.unOp .not t x,ty,pos,after,guard⟩ Q (.c false [.raw (.bool !u)]) os bs:=by
 refine bM h (v:= .bool !u) ?_ ⟨rfl,trivial⟩;simp[execOp,bT h hx,Op.unary]
theorem xk{t:TypeId}{x:Operand}{i:TypeInfo}{dd:TypeDesc}{n:Nat}{g:Bool}{b o:Nat}{xs:List AC}{vs:List Value}(h:Rel B Xs G w0 ⟨fr,os,bs⟩ E a w)
 (hi:P.info? t=some i) (hd:P.underlying t=some dd) (hg:lG dd=g) (hn:if g then i.size=n else n=1)
 (he:a.eval x= .pointer (some ⟨b,o,none⟩)) (ha:At w b o vs) (hx:Oks E os w xs vs) (hl:n≤xs.length):
 gI P B Xs G w0 fr a w ⟨d,.load t x,ty,pos,after,guard⟩ Q (.c g (xs.take n)) os bs:=by
 obtain⟨v,h1,h2⟩:=wQ (P:=P) hi hd ha g n hg hn (by rw[← hx.len];exact hl);refine bM h (v:=v) ?_ (Qd hx h2);simp[execOp,he,h1]
theorem AB{s f:Nat}{x:Operand}{off n:Nat}{g:Bool}{r:AV}{b o:Nat}(h:Rel B Xs G w0 ⟨fr,os,bs⟩ E a w)(hf:pV P s f=some (off,n,g))(hn:¬n=0)(he:a.eval x= .pointer (some ⟨b,o,none⟩))(hr:r.ok E os w (.pointer (some ⟨b,o+off,none⟩))):
 gI P B Xs G w0 fr a w ⟨d,.fieldAddr s x f,ty,pos,after,guard⟩ Q r os bs:=by
 obtain⟨fs,fd,i,dd,h1,h2,h3,h4,h5,h6,h7⟩:=vH hf;refine bM h ?_ hr;simp[execOp,he,Instr.fieldAt,run_underlying h1,h2,G_,fieldPlace,sizeOf,typeInfo,h3,h6,hn,qY,h5]
theorem AA{t e s:Nat}{x i:Operand}{z:Int}{r:AV}{b o m c:Nat}(h:Rel B Xs G w0 ⟨fr,os,bs⟩ E a w)(ht:jw P t=some (e,s))(he:a.eval x= .slice (some ⟨b,o,none⟩) m c){k:IntKind}(hi:a.eval i= .int k z)(h0:0≤z)(hl:z.toNat<m)
 (hr:r.ok E os w (.pointer (some ⟨b,o+z.toNat*s,none⟩))):gI P B Xs G w0 fr a w ⟨d,.indexAddr t x i,ty,pos,after,guard⟩ Q r os bs:=by
 obtain⟨h1,inf,h2,h3⟩:=lX ht;refine bM h ?_ hr;have h4:z<(m:Int):=by omega
 simp[execOp,he,hi,Instr.indexAt,asIntOf,run_underlying h1,h0,h4,sizeOf,typeInfo,h2,h3,qY]
theorem GV{x:Operand}{b o:Nat}{r:AV}(h:Rel B Xs G w0 ⟨fr,os,bs⟩ E a w)(he:a.eval x= .pointer (some ⟨b,o,none⟩))(hr:r.ok E os w (.pointer (some ⟨b,o,none⟩))):
 gI P B Xs G w0 fr a w ⟨d,.nilCheck x,ty,pos,after,guard⟩ Q r os bs:=by
 refine bM h ?_ hr;simp[execOp,he]
theorem Jw{t:TypeId}{i:TypeInfo}{z:Value}(h:Rel B Xs G w0 ⟨fr,os,bs⟩ E a w)(hi:P.info? t=some i)(hz:i.zero=some z):
 gI P B Xs G w0 fr a w ⟨d,.alloc t,ty,pos,after,guard⟩ Q (.bptr bs.length 0) os (bs++ [z.cells.toList.map .raw]):=by
 intro K hK;refine oH (v:= .pointer (some ⟨w.heap.size,0,none⟩)) (w':=w.alloc (.cells z.cells t)) ?_ (hK {E with bm:=E.bm++ [(w.heap.size,t)]} _ _ ?_)
 ·simp[execOp,Instr.alloc,zeroValue,typeInfo,hi,hz,newVar,newRow]
 ·have:=h.PO t (zF (E:=E) (os:=os) (w:=w) z.cells.toList) d;simpa using this
theorem Qa{t:TypeId}{x:Operand}{g:Bool}{xs:List AC}(h:Rel B Xs G w0 ⟨fr,os,bs⟩ E a w)(hx:St.ev ⟨fr,os,bs⟩ (opd x)= .c g xs)(hone:xs.all AC.one=true):
 gI P B Xs G w0 fr a w ⟨d,.box t x,ty,pos,after,guard⟩ Q (.bptr bs.length 0) os (bs++ [xs]):=by
 intro K hK;have hev:=dM h x;rw[hx]at hev;have hok:Oks E os w xs (a.eval x).cells.toList:=by
  cases g with
  |true=>obtain⟨vs,h1,h2⟩:=hev;rw[h1];simpa[q_]using h2
  | false=>
    have h1:Oks E os w xs [a.eval x]:=hev;have h3:(a.eval x).cells= #[a.eval x]:=by
     match xs,h1,hone with
     | [],h1,hone=>exact h1.elim
     |_::_::_,h1,hone=>exact h1.2.elim
     | [y],h1,hone=>
       have hy:=h1.1;have ho:y.one=true:=by simpa using hone
       exact Dx hy ho
    rw[h3];exact h1
 refine oH (v:= .pointer (some ⟨w.heap.size,0,none⟩)) (w':=w.alloc (.cells (a.eval x).cells t)) ?_ (hK {E with bm:=E.bm++ [(w.heap.size,t)]} _ _ ?_)
 ·simp[execOp,Instr.box,newVar,newRow]
 ·have:=h.PO t hok d;simpa using this
end
section
variable{P:Program}{B:Nat}{Xs:List Nat}{G:Org}{w0:World}{fr:List AV}{os:List Own}{bs:List (List AC)}{E:Env}{a:Act}{w:World}{d:Option Tmp}{K:Act→World→Prop}{Q:Exit→Act→World→Prop}
 {ty:TypeId} {pos:String} {after:Array Edge} {guard:Option (Nat×Bool)}
theorem Ie{g:Bool}{ys:List AC}{v:Value}(h:AV.ok E os w (.c g ys) v)(ho:ys.all AC.one=true):Oks E os w ys v.cells.toList:=by
 cases g with
 |true=>obtain⟨vs,h1,h2⟩:=h;rw[h1];simpa[q_]using h2
 | false=>
   have h1:Oks E os w ys [v]:=h;have h3:v.cells= #[v]:=by
    match ys,h1,ho with
    | [],h1,_=>exact h1.elim
    |_::_::_,h1,_=>exact h1.2.elim
    | [y],h1,ho=>exact Dx h1.1 (by simpa using ho)
   rw[h3];exact h1
theorem Jr{t:TypeId}{x y:Operand}{i:TypeInfo}{k off:Nat}{g:Bool}{ys xs:List AC}(h:Rel B Xs G w0 ⟨fr,os,bs⟩ E a w)(hi:P.info? t=some i)
 (hx:St.ev ⟨fr,os,bs⟩ (opd x)= .bptr k off) (hy:St.ev ⟨fr,os,bs⟩ (opd y)= .c g ys) (hl:ys.length=i.size) (h1:ys.all AC.one=true) (hk:bs[k]? =some xs) (ho:off+i.size≤xs.length):
 gI P B Xs G w0 fr a w ⟨d,.store t x y,ty,pos,after,guard⟩ Q .any os (bs.set k (xs.take off++ys++xs.drop (off+i.size))):=by
 intro K hK;have hex:=dM h x;rw[hx]at hex;obtain⟨p,hp,he⟩:=hex;have hey:=dM h y;rw[hy]at hey;have hc:=Ie hey h1;obtain⟨hB,vs,hrow,hvs⟩:=h.box k xs p hk hp;have hlen:(a.eval y).cells.toList.length=i.size:=by rw[← hc.len];exact hl
 have hlv:=hvs.len;have hrun:=run_storeCells_at (P:=P) p.1 off p.2 (a.eval y).cells.toList 0 vs.toArray w hrow (by simp;simp at hlen;omega) (fun v hv=>ones_of hc h1 v hv);have hsz:(a.eval y).cells.size=i.size:=by simpa using hlen
 have hrun2:(execOp a.eval ⟨d,.store t x y,ty,pos,after,guard⟩).run P w= .ok .skip (w.setRow p.1 (vs.take off++(a.eval y).cells.toList++vs.drop (off+i.size)).toArray):=by
  simp only[O_]at hrun;simp[execOp,Instr.storeAt,he,G_,storeVar,sizeOf,typeInfo,hi,hsz]at hrun⊢;rw[hrun];simp
 unfold Oper.wp;rw[hrun2];refine hK E undef _ (h.IZ (w':=w.setRow p.1 (vs.take off++(a.eval y).cells.toList++vs.drop (off+i.size)).toArray) hk hp (us:=vs.take off++(a.eval y).cells.toList++vs.drop (off+i.size)) ?_ (by simp) ⟨rfl,rfl,rfl⟩ (fun b hb=>setRow_other _ _ _ _ hb) ?_ d trivial)
 ·exact Oks.append (hvs.drop _) (Oks.append hc (hvs.take off))
 ·exact setRow_heap _ _ _ _ _ _ hrow
theorem Hq(off:Nat):∀(vs:List Value) (j:Nat) (cs:Array Value),off+j+vs.length≤cs.size→
 ((vs.zipIdx j).foldl (fun cs (x:Value×Nat)=>cs.setIfInBounds (off+x.2) x.1) cs).toList=cs.toList.take (off+j)++vs++cs.toList.drop (off+j+vs.length)
 | [],j,cs,_=>by simp
 | v::vs,j,cs,h=>by
   simp only[u_]at h;rw[List.zipIdx_cons,List.foldl_cons,Hq off vs (j+1) _ (by simp;omega)];simp only[Array.toList_setIfInBounds,u_];have e:=list_seg_step cs.toList (off+j) v vs (by simp;omega);simpa[a_B,Nat.add_comm 1]using e
theorem KZ {st:St}{places:List (Nat×Nat)}(h:Rel B Xs G w0 st E a w):∀(ps:List (Nat×Operand)) (l:List (Nat×Nat×Opd)) (xs cs:List AC) (vs:Array Value),
 ps.mapM (fun p=>(places.toArray[p.1]?).map fun q=>(q.1,q.2,opd p.2))=some l→Oks E st.owns w xs vs.toList→bW st.ev l xs=some cs→
 ∃us,a_I (fun i=>places.toArray[i]?) vs (ps.map fun p=>(p.1,a.eval p.2))=some us∧Oks E st.owns w cs us.toList
 | [],l,xs,cs,vs,hm,hx,hf=>by
   simp at hm;subst hm;simp only[bW]at hf;injection hf with hf
   subst hf;exact⟨vs,rfl,hx⟩
 | p :: ps, l,xs,cs,vs,hm,hx,hf=>by
   simp only[List.mapM_cons,Option.bind_eq_bind,Option.pure_def]at hm;cases hq:(places.toArray[p.1]?).map (fun q=>(q.1,q.2,opd p.2))with
   |none=>rw[hq]at hm;simp at hm
   | some q =>
     cases hr:ps.mapM (fun p=>(places.toArray[p.1]?).map fun q=>(q.1,q.2,opd p.2))with
     |none=>rw[hq,hr]at hm;simp at hm
     | some l'=>
       rw[hq,hr]at hm;simp at hm;subst hm;obtain⟨q',hq1,hq2⟩:=A_.1 hq;subst hq2;simp only[bW]at hf;cases hev:st.ev (opd p.2)with
       | c g ys=>
         simp only[hev]at hf;split at hf
         ·next hc=>
          have hv:=dM h p.2;rw[hev]at hv;have hcells:=Ie hv hc.2.2;have hl1:(a.eval p.2).cells.toList.length=q'.2:=by rw[← hcells.len];exact hc.1
          have hl2:=hx.len;have hsz:(a.eval p.2).cells.size=q'.2:=by simpa using hl1
          have hfold:=Hq q'.1 (a.eval p.2).cells.toList 0 vs (by simp at hl1 hl2⊢;omega);obtain⟨us,h2,h3⟩:=KZ h ps l' _ cs ((a.eval p.2).cells.zipIdx.foldl (fun cs (x:Value×Nat)=>cs.setIfInBounds (q'.1+x.2) x.1) vs) hr (by
           have e:((a.eval p.2).cells.zipIdx.foldl (fun cs (x:Value×Nat)=>cs.setIfInBounds (q'.1+x.2) x.1) vs).toList=vs.toList.take q'.1++(a.eval p.2).cells.toList++vs.toList.drop (q'.1+q'.2):=by
            rw[← Array.foldl_toList,Array.toList_zipIdx];simp only[O_]at hfold;rw[hfold,hl1]
           rw[e];exact Oks.append (hx.drop _) (Oks.append hcells (hx.take _))) hf
          refine⟨us, ?_,h3⟩;rw[w_,a_I];simp only[hq1];rw[if_neg (by simp[hsz];simp at hl2;omega)];exact h2
         ·cases hf
       |any=>simp[hev]at hf
       |ptr _=>simp[hev]at hf
       |bptr _ _=>simp[hev]at hf
       |eptr _ _ _ _=>simp[hev]at hf
       |tup _=>simp[hev]at hf
theorem Qb{t:TypeId}{ps:Array (Nat×Operand)}{it:TypeInfo}{fields:Array Field}{z:Value}{places:List (Nat×Nat)}{l:List (Nat×Nat×Opd)}{cs:List AC}(h:Rel B Xs G w0 ⟨fr,os,bs⟩ E a w)
 (h1:P.info? t=some it) (h2:P.underlying t=some (.struct fields)) (h3:it.zero=some z) (h4:fields.toList.mapM (fun f=>(P.info? f.type).map fun i=>(f.offset,i.size))=some places)
 (h5:ps.toList.mapM (fun p=>(places.toArray[p.1]?).map fun q=>(q.1,q.2,opd p.2))=some l) (hf:bW (St.ev ⟨fr,os,bs⟩) l (z.cells.toList.map .raw)=some cs):
 gI P B Xs G w0 fr a w ⟨d,.build t ps,ty,pos,after,guard⟩ Q (.c true cs) os bs:=by
 obtain⟨us,h6,h7⟩:=KZ h ps.toList l _ cs z.cells h5 (zF _) hf;refine bM h (v:= .agg us) ?_ ⟨us.toList,by simp,h7⟩;have hb:P.built t (ps.map fun(i,x)=>(i,a.eval x)).toList=some us:=by
  simp only[Program.built,h1,h2,h3,h4,Array.toList_map];exact h6
 simp only[execOp,S_,run_build w t _ us hb,J_];rfl
theorem GY{t f off n:Nat}{x:Operand}{g:Bool}{m:Nat}{xs:List AC}(h:Rel B Xs G w0 ⟨fr,os,bs⟩ E a w)(hf:pV P t f=some (off,n,g))(hm:m=if g then n else 1)
 (hx:St.ev ⟨fr,os,bs⟩ (opd x)= .c true xs) (hl:off+m≤xs.length):gI P B Xs G w0 fr a w ⟨d,.field t x f,ty,pos,after,guard⟩ Q (.c g ((xs.drop off).take m)) os bs:=by
 obtain⟨fs,fd,i,dd,h1,h2,h3,h4,h5,h6,h7⟩:=vH hf;have hv:=dM h x;rw[hx]at hv;obtain⟨vs,he,hvs⟩:=hv;have hlv:=hvs.len;have hd:=hvs.drop off;cases g with
 | true=>
   simp only[if_true]at hm;subst hm;refine bM h (v:= .agg (vs.toArray.extract off (off+m))) ?_ ⟨(vs.drop off).take m, ?_,hd.take m⟩
   rotate_left
   ·congr 1;apply Array.ext';simp[List.extract_eq_take_drop]
   have hagg:(isAgg fd.type).run P w= .ok true w:=by
    cases dd<;>simp_all [lG,isAgg,run_underlying h4]
   simp only[execOp,he,a_H,S_,run_underlying h1,J_,h2,Go.part,hagg,asAgg,sizeOf,typeInfo,Sem.run_pure,if_true];simp[h3,h6,h5]
 | false=>
   simp only[x_,if_false]at hm;subst hm;have hlt:off<vs.length:=by omega
   have e1:(vs.drop off).take 1= [vs[off]]:=by rw[M_ hlt];rfl
   have ht:=hd.take 1;rw[e1]at ht;refine bM h (v:=vs[off]) ?_ ht;have hagg:(isAgg fd.type).run P w= .ok false w:=by
    cases dd<;>simp_all [lG,isAgg,run_underlying h4]
   simp[execOp,he,a_H,run_underlying h1,h2,Go.part,hagg,asAgg,h5,hlt]
theorem MS{t:TypeId}{x i:Operand}{s:ByteArray}{z:Int}{b:UInt8}(h:Rel B Xs G w0 ⟨fr,os,bs⟩ E a w)(ht:P.underlying t=some .string)(hx:St.ev ⟨fr,os,bs⟩ (opd x)= .c false [.raw (.string s)])
 (hi:bI (St.ev ⟨fr,os,bs⟩ (opd i))=some z) (h0:0≤z) (hb:s.data[z.toNat]? =some b):gI P B Xs G w0 fr a w ⟨d,.index t x i,ty,pos,after,guard⟩ Q (.c false [.raw (.int .u8 b.toNat)]) os bs:=by
 obtain⟨k,hk⟩:=rH hi;refine bM h (v:= .int .u8 b.toNat) ?_ ⟨rfl,trivial⟩;have hb':s[z.toNat]? =some b:=by
  obtain⟨h1,h2⟩:=Array.getElem?_eq_some_iff.1 hb;have:z.toNat<s.size:=h1;rw[getElem?_pos s z.toNat this];simp only[i_];exact h2
 simp[execOp,bT h hx,bT h hk,Instr.index,asIntOf,run_underlying ht,h0,hb']
theorem P7{x:Operand}{j:Nat}{ys:List (Bool×List AC)}{g:Bool}{xs:List AC}(h:Rel B Xs G w0 ⟨fr,os,bs⟩ E a w)(hx:St.ev ⟨fr,os,bs⟩ (opd x)= .tup ys)(hj:ys[j]? =some (g,xs)):
 gI P B Xs G w0 fr a w ⟨d,.extract x j,ty,pos,after,guard⟩ Q (.c g xs) os bs:=by
 have hv:=dM h x;rw[hx]at hv;obtain⟨vs,he,hvs⟩:=hv;have :∀(ys:List (Bool×List AC)) (vs:List Value) (j:Nat),oK E os w ys vs→ys[j]? =some (g,xs)→∃v,vs[j]? =some v∧Gok E os w g xs v:=by
  intro ys
  induction ys with
  |nil=>intro vs j _ hj;simp at hj
  | cons y ys ih=>
    intro vs j h hj;cases vs with
    |nil=>exact h.elim
    | cons v vs=>
      cases j with
      |zero=>simp at hj;subst hj;exact⟨v,rfl,h.1⟩
      |succ j=>simp at hj;obtain⟨u,h1,h2⟩:=ih vs j h.2 hj;exact⟨u,by simpa using h1,h2⟩
 obtain⟨v,h1,h2⟩:=this ys vs j hvs hj;refine bM h (v:=v) ?_ h2;simp[execOp,he,Instr.extract,h1]
end
end Go.Proofs.Ytagaefgglphkgaa
