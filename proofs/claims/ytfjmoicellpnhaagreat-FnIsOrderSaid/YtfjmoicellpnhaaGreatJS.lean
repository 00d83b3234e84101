/-
  Texts joined: Pdw4 RowC Pdw5 Pdw6.
-/
import Derived.Test.YtfjmoicellpnhaaGreatJR
import Derived.Test.YtfjmoicellpnhaaGreatJE
import Derived.Test.YtfjmoicellpnhaaGreatJA
set_option maxHeartbeats 16000000
set_option maxRecDepth 20000
set_option linter.unusedSimpArgs false
set_option linter.unusedVariables false
namespace Go.Proofs.YtfjmoicellpnhaaGreat
open Go.RowKit
open Below renaming refl→a_,alloc→f_,drew→h_,setCell→v_
open Nat renaming le_trans→b_,le_refl→d_,zero_le→e_,le_succ→x_
open List renaming getElem_mem→c_,length_map→g_,getD_cons_zero→m_,getD_cons_succ→n_,set_cons_zero→o_,set_cons_succ→p_,nil_append→r_,length_nil→s_,mem_map→w_
open Or renaming inl→i_
open Builtin renaming append_→j_,nextslicecap→k_,firstCells→q_,lenOf→u_
attribute [local irreducible] sw sd sn
theorem YS{P:Program}{t ty s k:Nat}{st:St}{post:AV→List Own→Prop}(h1:st.fr.getD t .any= .bptr k 0)(h2:st.boxes[k]? =some [.raw (.int .i64 0),.raw (.int .i64 0),.raw (.int .i64 0),.raw (.string ⟨#[]⟩),.raw (.slice none 0 0),.raw (.slice none 0 0),.raw (.slice none 0 0)])(h3:st.fr.getD s .any= .c false [.raw (.bool false)])(hp:eH P (.cell t ty) true 7=true)
 (hq:post (.tup [(true,[.raw (.int .i64 0),.raw (.int .i64 0),.raw (.int .i64 0),.raw (.string ⟨#[]⟩),.raw (.slice none 0 0),.raw (.slice none 0 0),.raw (.slice none 0 0)]),(false,[.raw (.bool false)])]) []):iG (Dy P (.cell t ty) (.tmp s) post) .ret st:=
 ⟨true,false,_,_,[],[],hq,rfl,rfl,by simp,trivial,hp,rfl,⟨k,_,h1,h2,⟨rfl,rfl,rfl,rfl,rfl,rfl,rfl,trivial⟩⟩,⟨_,h3,⟨rfl,trivial⟩⟩⟩
theorem af0{P:Program}{t ty s k j v e sz:Nat}{nw:Nw}{c:List ByteArray}{w:List GRow}{st:St}{post:AV→List Own→Prop}(h1:st.fr.getD t .any= .bptr k 0)(h2:st.boxes[k]? =some [.raw (.int .i64 5),.raw (.int .i64 0),.raw (.int .i64 0),.raw (.string ⟨#[]⟩),.raw (.slice none 0 0),.sl true (c.map ls),.own j v])(ho:st.owns[j]? =some ⟨w.map GRow.toD,e,sz,v,nw⟩)(hn:nw.n=true)
 (h3:st.fr.getD s .any= .c false [.raw (.bool true)]) (hp:eH P (.cell t ty) true 7=true) (hq:post (.tup [(true,[.raw (.int .i64 5),.raw (.int .i64 0),.raw (.int .i64 0),.raw (.string ⟨#[]⟩),.sl true [],.sl true (c.map ls),.sl true (w.map GRow.toD)]),(false,[.raw (.bool true)])]) []):iG (Dy P (.cell t ty) (.tmp s) post) .ret st:=
 ⟨true,false,_,_,[],[],hq,rfl,rfl,by simp,trivial,hp,rfl,⟨k,_,h1,h2,⟨rfl,rfl,rfl,rfl,⟨rfl,rfl,rfl⟩,⟨rfl,rfl,rfl⟩,⟨rfl,by simp,_,ho,rfl,rfl,i_ hn⟩,trivial⟩⟩,⟨_,h3,⟨rfl,trivial⟩⟩⟩
theorem ZL{W:Nat}{rows:List GRow}{l:List Int}(h:∀r∈rows,r.cells.length≤W∧r.src= [])(hl:l.length≤W):∀r∈rows++ [(⟨l,[]⟩:GRow)],r.cells.length≤W∧r.src= []:=fun r hr=>by
 rcases List.mem_append.1 hr with hr|hr
 ·exact h r hr
 ·simp only[List.mem_singleton]at hr;rw[hr];exact⟨hl,rfl⟩
theorem Ld{W V:Nat}{l:List ByteArray}(h:Bh W l)(hV:W≤V):Bh V l:=⟨b_ h.1 hV,fun s hs=>b_ (h.2 s hs) hV⟩
theorem U5{W V:Nat}{l:List GRow}(h:J7 W l)(hV:W≤V):J7 V l:=⟨b_ h.1 hV,fun s hs=>⟨b_ (h.2 s hs).1 hV,(h.2 s hs).2⟩⟩
def LZ :IC:=(zd_ [zz_ 2 (.alloc [(.int .i64 0),(.int .i64 0),(.int .i64 0),(.string ⟨#[]⟩),(.slice none 0 0),(.slice none 0 0),(.slice none 0 0)]),zj_ 3 false] (zd_ [zw_ 9 0,zq_ 10 138 9,zw_ 4 10] (zd_ [zw_ 11 4,zz_ 12 (.iad 1 (.t 11) (.k (.int .i64 0))),zs_ 13 1 12,zz_ 14 (.call 129 [(.t 13),(.k (.int .u8 32))]),zz_ 15 (.bld [(.int .i64 0),(.int .i64 0),(.int .i64 0),(.string ⟨#[]⟩),(.slice none 0 0),(.slice none 0 0),(.slice none 0 0)] [(0,1,(.k (.int .i64 5))),(5,1,(.t 14))]),zz_ 5 (.alloc [(.int .i64 0),(.int .i64 0),(.int .i64 0),(.string ⟨#[]⟩),(.slice none 0 0),(.slice none 0 0),(.slice none 0 0)]),⟨none,none,.store 7 (.t 5) (.t 15)⟩] (.seq (zd_ [zk_ 6 1] (.block 0 (.loop (.seq (zd_ [zw_ 16 6,zw_ 17 4,zf_ 18 false 17,zl_ 19 .lss 16 18] (.cond (.t 19) .skip (.exit 0))) (.seq (.block 1 (.seq (.regN true [] [zw_ 23 4,zw_ 24 6,ze_ 25 1 23 24,zs_ 26 1 25,zt_ 27 5 5,zs_ 28 1 27,zf_ 29 false 28,zp_ 30 139 26 29,zw_ 22 30,zz_ 31 (.ext 0 (.t 22)),zz_ 32 (.ext 1 (.t 22)),zw_ 7 31,zw_ 8 32]) (.seq (zd_ [zw_ 33 8,zz_ 34 (.not (.t 33))] (.cond (.t 34) (zd_ [zz_ 35 (.bld [(.int .i64 0),(.int .i64 0),(.int .i64 0),(.string ⟨#[]⟩),(.slice none 0 0),(.slice none 0 0),(.slice none 0 0)] []),⟨none,none,.store 7 (.t 2) (.t 35)⟩,zj_ 3 false] .ret) .skip)) (.reg false [zt_ 36 6 5,zs_ 37 1 36,zw_ 38 7,zz_ 39 (.bld [(.slice none 0 0),(.slice none 0 0)] [(0,1,(.t 38))]),zz_ 40 (.brow false 140 2 1 false [(.t 39)]),zz_ 41 (.app 140 2 (.t 37) (.t 40)),zt_ 42 6 5,⟨none,none,.store 1 (.t 42) (.t 41)⟩])))) (.reg false [zw_ 20 6,zm_ 21 .add 20 1,zw_ 6 21])))))) (.seq (zd_ [zr_ 43 7 5,zq_ 44 140 43,zz_ 45 (.not (.t 44))] (.cond (.t 45) (zd_ [zz_ 46 (.bld [(.int .i64 0),(.int .i64 0),(.int .i64 0),(.string ⟨#[]⟩),(.slice none 0 0),(.slice none 0 0),(.slice none 0 0)] []),⟨none,none,.store 7 (.t 2) (.t 46)⟩,zj_ 3 false] .ret) .skip)) (zd_ [zr_ 47 7 5,⟨none,none,.store 7 (.t 2) (.t 47)⟩,zj_ 3 true] .ret))))))
theorem OH :ak Tryz.prog (Tryz.f120.body.getD .skip)=some LZ:=by kernel_rfl
theorem acJ(s:ByteArray)(hs:s.size≤120):bC Tryz.prog 120 [ls s] (fun r os'=>((r= .tup [(true,[.raw (.int .i64 0),.raw (.int .i64 0),.raw (.int .i64 0),.raw (.string ⟨#[]⟩),.raw (.slice none 0 0),.raw (.slice none 0 0),.raw (.slice none 0 0)]),(false,[.raw (.bool false)])])∨(∃(c:List ByteArray) (w:List GRow),Bh 130 c∧J7 130 w∧r= .tup [(true,[.raw (.int .i64 5),.raw (.int .i64 0),.raw (.int .i64 0),.raw (.string ⟨#[]⟩),.sl true [],.sl true (c.map ls),.sl true (w.map GRow.toD)]),(false,[.raw (.bool true)])]))∧os'= []):=by
 refine pK (fn:=Tryz.f120) (r:= .cell 2 49) (q:= .tmp 3) (hc:=OH) (h:= ?_);unfold LZ;refine zb_ ?_;change AWP _ _ _ (st0 48 _);refine sS tdX ?_
 repeat' (first|(refine hq_ ?_;clear hK K)|refine ca_ ?_ ?_|(refine cg_ ?_;first|(refine bn (h:=(QB s (by omega))) (hK:= ?_);rintro _ _ ⟨⟨q,hq0,hq,rfl⟩,rfl⟩)|(refine bn (h:=(sV _ 32 (b_ (hq.2 _ (c_ _)) (by omega)))) (hK:= ?_);rintro _ _ ⟨⟨c,hcl,hcs,rfl⟩,rfl⟩))|refine sz_ (a6_ tdE @gK @gu @eU @dV.eq_1 @GRow.el) ?_|refine nv ?_|(refine rD ?_;intro K hK)|(refine c2_ ?_ ?_<;>(intro hb hb';try(exfalso;omega)))|exact bq_|fail)
 all_goals first
  |exact bW _
  |skip
 have hq00:q[Int.toNat 0].size≤s.size+1:=hq.2 _ (c_ _);have hcB:Bh 130 c:=⟨by omega,fun x hx=>by have:=hcs x hx;omega⟩
 clear hcl hcs;refine JX 1 6 140 2 false rfl rfl ?_;simp only[St.Ky,r_,s_,o_,p_,m_,n_];refine aQ (X:=Nat×Nat×List GRow) (fun z=> [.d,.d,.k,.d,.k,.k,.v (.c false [.raw (.int .i64 ((z.1:Nat)))])]) (fun z=> [⟨z.2.2.map GRow.toD,140,2,z.2.1,⟨true,false⟩⟩]) (fun z _=> [[.raw (.int .i64 0),.raw (.int .i64 0),.raw (.int .i64 0),.raw (.string ⟨#[]⟩),.raw (.slice none 0 0),.raw (.slice none 0 0),.raw (.slice none 0 0)],[.raw (.int .i64 5),.raw (.int .i64 0),.raw (.int .i64 0),.raw (.string ⟨#[]⟩),.raw (.slice none 0 0),.sl true (c.map ls),.own 0 z.2.1]]) (fun z=>1≤z.1∧z.1≤q.length∧z.2.2.length+1=z.1∧∀r∈z.2.2,r.cells.length≤130∧r.src= []) (fun z=>q.length - z.1) (1,0,[]) ⟨d_ _,hq0,rfl,fun r hr=>by simp at hr⟩ ?_ ?_
 ·simp[aG,aU,aC,aF,AV.fits,AC.fits,FB,aB]
 rintro⟨i,v,w⟩ ⟨hi1,hi,hwl,hwB⟩;simp only at hi1 hi hwl hwB;have hqn:=hq.1;simp only[FB,aB];by_cases hlt:i<q.length
 ·have hT:decide ((i:Int)<(q.length:Int))=true:=decide_eq_true (by omega);have hw1:(i:Int)+1=((i+1:Nat):Int):=by omega
  have hg:idx (q.map ls) (some (i:Int))=some (ls q[i]):=bU ls q hlt;have hsz:=hq.2 _ (c_ hlt)
  repeat' (first|(refine rg_ ?_;intro K hK)|((first|(with_reducible refine aA 9 false bg ?_)|(refine aA 9 false (by simp[dU,St.ev]) ?_));intro K hK)|refine nN ?_|(refine hq_ ?_;clear hK K)|refine ca_ ?_ ?_|(refine cg_ ?_;first|(refine bn (h:=(U6 _ _ (by omega))) (hK:= ?_);rintro _ _ ⟨⟨l,_|_,hl,rfl⟩,rfl⟩))|((with_reducible refine fB ?_);first|(refine wY (h:=(U6 _ _ (by omega))) (hne:=⟨_,[],⟨⟨[],true,e_ _,rfl⟩,rfl⟩,rfl⟩) (hr:= ?_);rintro _ _ ⟨⟨l,_|_,hl,rfl⟩,rfl⟩))|refine sz_ (a9_ tdE @gK @gu @eU @dV.eq_1 @GRow.el hT hw1 hg) ?_|refine nv ?_|(refine c2_ ?_ ?_<;>(intro hb hb';try(exfalso;omega)))|exact bq_|fail)
  all_goals first
   |omega
   |exact bW _
   |exact GRow.el w
   |exact GRow.el [⟨l,[]⟩]
   |(simp only[g_];omega)
   |exact YS rfl rfl rfl (by kernel_rfl) ⟨i_ rfl,rfl⟩
   | (refine aP (i+1,v+1,w++ [(⟨l,[]⟩:GRow)]) ⟨?_,⟨⟨by simp[GRow.toD],rfl,rfl,rfl,rfl⟩,trivial⟩,⟨rfl,rfl,trivial⟩,rfl⟩ ⟨by simp only;omega,by simp only;omega,by simp;omega,ZL hwB (by omega)⟩ (show q.length - (i+1)<q.length - i by omega)
      simp[aU,AV.fits,AC.fits,FB,aB]
      done)
 ·have hT:decide ((i:Int)<(q.length:Int))=false:=decide_eq_false (by omega)
  repeat' (first|(refine rg_ ?_;intro K hK)|((first|(with_reducible refine aA 9 false bg ?_)|(refine aA 9 false (by simp[dU,St.ev]) ?_));intro K hK)|refine nN ?_|(refine hq_ ?_;clear hK K)|refine ca_ ?_ ?_|(refine cg_ ?_;first|(refine bn (h:=(abg 5 0 0 ⟨#[]⟩ c w rfl rfl rfl rfl (Ld hcB (by decide)) ⟨by omega,fun r hr=>⟨by have:=(hwB r hr).1;omega,(hwB r hr).2⟩⟩)) (ha:=by simp[bD,oW,jM,mZ,AC.toD,dR,bJ,dI,dQ,Value.oneCell',kK,gI,kM,kL,dD,bf,dG,dF,zq,zu,eU,gu]) (hK:= ?_);rintro _ _ ⟨⟨_|_,rfl⟩,rfl⟩))|refine sz_ (a7_ tdE @gK @gu @eU @dV.eq_1 @GRow.el hT) ?_|refine nv ?_|(refine c2_ ?_ ?_<;>(intro hb hb';try(exfalso;omega)))|exact bq_|fail)
  all_goals first
   |omega
   |exact GRow.el w
   |exact YS rfl rfl rfl (by kernel_rfl) ⟨i_ rfl,rfl⟩
   |exact af0 rfl rfl rfl rfl rfl (by kernel_rfl) ⟨Or.inr ⟨c,w,hcB,⟨by omega,hwB⟩,rfl⟩,rfl⟩
def SQ :IC:=(zd_ [zk_ 2 0] (zd_ [zw_ 8 0,zq_ 9 138 8,zw_ 3 9] (zd_ [zw_ 10 3,zz_ 11 (.iad 1 (.t 10) (.k (.int .i64 0))),zs_ 12 1 11,zz_ 13 (.call 129 [(.t 12),(.k (.int .u8 32))]),zw_ 4 13] (.seq (zd_ [zw_ 14 4,zq_ 15 141 14,zz_ 16 (.not (.t 15))] (.cond (.t 16) (zd_ [zk_ 2 0] .ret) .skip)) (.seq (zd_ [zk_ 5 1] (.block 0 (.loop (.seq (zd_ [zw_ 17 5,zw_ 18 3,zf_ 19 false 18,zl_ 20 .lss 17 19] (.cond (.t 20) .skip (.exit 0))) (.seq (.block 1 (zd_ [zw_ 24 3,zw_ 25 5,ze_ 26 1 24 25,zs_ 27 1 26,zw_ 28 4,zf_ 29 false 28,zp_ 30 139 27 29,zw_ 23 30,zz_ 31 (.ext 0 (.t 23)),zz_ 32 (.ext 1 (.t 23)),zw_ 6 31,zw_ 7 32] (zd_ [zw_ 33 7,zz_ 34 (.not (.t 33)),zw_ 35 34,zu_ 36 35 5,zx_ 37 35 (.bin .gtr (.t 36) (.k (.int .i64 12))),zg_ 38 35 true 37] (.cond (.t 38) (zd_ [zw_ 39 5,zw_ 2 39] .ret) .skip)))) (.reg false [zw_ 21 5,zm_ 22 .add 21 1,zw_ 5 22])))))) (zd_ [zk_ 2 (-1)] .ret))))))
theorem SN :ak Tryz.prog (Tryz.f121.body.getD .skip)=some SQ:=by kernel_rfl
theorem Y8(s:ByteArray)(hs:s.size≤120):bC Tryz.prog 121 [ls s] (fun r os'=>(∃n:Int,r= .c false [.raw (.int .i64 n)])∧os'= []):=by
 refine dS (fn:=Tryz.f121) (r:= .tmp 2) (hc:=SN) (h:= ?_);unfold SQ;refine zb_ ?_;change AWP _ _ _ (st0 40 _);refine sS tdX ?_
 repeat' (first|(refine rg_ ?_;intro K hK)|(refine hq_ ?_;clear hK K)|refine ca_ ?_ ?_|refine gq_ ?_|(refine c2_ ?_ ?_<;>(intro hb hb';try(exfalso;omega)))|(refine cg_ ?_;first|(refine bn (h:=(QB s (by omega))) (hK:= ?_);rintro _ _ ⟨⟨q,hq0,hq,rfl⟩,rfl⟩)|(refine bn (h:=(sV _ 32 (b_ (hq.2 _ (c_ _)) (by omega)))) (hK:= ?_);rintro _ _ ⟨⟨c,hcl,hcs,rfl⟩,rfl⟩)|(refine bn (h:=(Zb c ⟨b_ hcl (b_ (Nat.add_le_add_right (hq.2 _ (c_ _)) 1) (by omega)),fun x hx=>b_ (hcs x hx) (b_ (hq.2 _ (c_ _)) (by omega))⟩)) (hK:= ?_);rintro _ _ ⟨⟨_|_,rfl⟩,rfl⟩))|refine sz_ (a6_ tdE @gK @gu @eU @dV.eq_1 @GRow.el) ?_|refine nv ?_|exact bq_|fail)
 all_goals first
  |exact bW _
  |exact bQ rfl rfl ⟨⟨_,rfl⟩,rfl⟩
  |skip
 refine aQ (X:=Nat) (fun z=> [.d,.d,.d,.k,.k,.v (.c false [.raw (.int .i64 ((z:Nat)))])]) (fun _=> []) (fun _ _=> []) (fun z=>1≤z∧z≤q.length) (fun z=>q.length - z) 1 ⟨d_ _,hq0⟩ ?_ ?_
 ·simp[aG,aU,aC,aF,AV.fits,AC.fits,FB,aB]
 rintro i ⟨hi1,hi⟩;simp only[FB,aB];by_cases hlt:i<q.length
 ·have hT:decide ((i:Int)<(q.length:Int))=true:=decide_eq_true (by omega);have hw1:(i:Int)+1=((i+1:Nat):Int):=by omega
  have hg:idx (q.map ls) (some (i:Int))=some (ls q[i]):=bU ls q hlt;have hsz:=hq.2 _ (c_ hlt)
  repeat' (first|(refine rg_ ?_;intro K hK)|(refine hq_ ?_;clear hK K)|refine ca_ ?_ ?_|refine gq_ ?_|(refine c2_ ?_ ?_<;>(intro hb hb';try(exfalso;omega)))|(refine cg_ ?_;first|(refine bn (h:=(U6 _ _ (by omega))) (hK:= ?_);rintro _ _ ⟨⟨l,_|_,hl,rfl⟩,rfl⟩))|refine sz_ (a9_ tdE @gK @gu @eU @dV.eq_1 @GRow.el hT hw1 hg) ?_|refine nv ?_|exact bq_|fail)
  all_goals first
   |omega
   |exact bW _
   |exact bQ rfl rfl ⟨⟨_,rfl⟩,rfl⟩
   | (refine aP (i+1) ?_ ⟨by omega,by omega⟩ (show q.length - (i+1)<q.length - i by omega)
      simp[aG,aU,aC,aF,AV.fits,AC.fits,FB,aB]
      done)
 ·have hT:decide ((i:Int)<(q.length:Int))=false:=decide_eq_false (by omega)
  repeat' (first|(refine rg_ ?_;intro K hK)|(refine hq_ ?_;clear hK K)|refine ca_ ?_ ?_|refine gq_ ?_|(refine c2_ ?_ ?_<;>(intro hb hb';try(exfalso;omega)))|refine sz_ (a7_ tdE @gK @gu @eU @dV.eq_1 @GRow.el hT) ?_|refine nv ?_|exact bq_|fail)
  all_goals exact bQ rfl rfl ⟨⟨_,rfl⟩,rfl⟩
theorem fJ.none{w:World}{base:Nat}{e:TypeId}{s:Nat}:fJ w base e s [] [] (.slice none 0 0):=⟨[],World.ownsRow_nil w base e s,⟨rfl,rfl⟩,gG.nil,fun g hg=>by simp[Value.ownBlock]at hg⟩
theorem N9{P:Program}{w:World}(k:EK P)(ty:TypeId)(ad:Addr)(l:List D)(vx:Value)(hsrc:Src w l [] vx)(h1:∀d∈l,d.one)(hds:∀d∈l,d.sz=k.s)(hn:l.length≤4194304):
 ∃v' w',(j_ #[k.t,k.t] ty #[.slice (some ad) 0 0,vx]).run P w= .ok v' w'∧(∃f,Sl w' l f v'∧∀b∈f,w.heap.size≤b)∧Below w.heap.size w w':=by
 obtain⟨i,z,hi,hz,hsz,hby,hzs⟩:=k.info;by_cases h0:l= []
 ·subst h0;obtain⟨A,c,cs,rfl,hr,hcs⟩:=hsrc;refine⟨.slice (some ad) 0 0,w, ?_,⟨[], ?_,by simp⟩,a_ _ _⟩
  ·cases A<;>simp[j_,run_underlying k.ht,sizeOf,typeInfo,hi,u_,q_,loadCells,loadCellsFrom,storeCells]
  ·unfold Sl;rw[R];exact⟨some ad,0,by simp,by simp,by simp,i_ ⟨rfl,rfl⟩⟩
 ·obtain⟨v',w',hrun,h2,h3,_⟩:=BK (P:=P) (w:=w) k ty w.heap.size (.slice none 0 0) [] [] fJ.none l [] vx hsrc h1 hds oC (by simp) (by simpa using hn) (d_ _);refine⟨v',w', ?_,⟨_,h2.sl,fun b hb=>(h2.free.2 b hb).1⟩,jH (a_ _ _) h3 (d_ _) (fun g hg=>by simp[Value.ownBlock]at hg)⟩;obtain⟨A,c,cs,rfl,hr,hcs⟩:=hsrc;rw[← hrun];have hm:l.length≠0:=fun e=>h0 (List.eq_nil_of_length_eq_zero e)
  have hbytes:k_ l.length 0*i.bytes≤281474976710656:=growslice_fits (by omega) (b_ (Nat.mul_le_mul hn hby) (by decide));have h63:¬(9223372036854775807<(l.length:Int)):=by omega
  have h48:¬(281474976710656<k_ l.length 0*i.bytes):=by omega
  simp[j_,run_underlying k.ht,sizeOf,typeInfo,hi,u_,q_,loadCells,loadCellsFrom,hm,h63,h48]
theorem zI{P:Program}{w:World}{ops:Array Oper}{o:Oper}{a:Act}{K:Act→World→Prop}{Q:Exit→Act→World→Prop}{E:Prop}(hgd:o.guard=none)(k:EK P)(s x:Operand)
 (ho:o.op= .call {callee:= .builtin .append,args:= #[s,x],argTypes:= #[k.t,k.t]})
 (ad:Addr) (hs:a.eval s= .slice (some ad) 0 0) (l:List D) (vx:Value) (hx:a.eval x=vx) (hsrc:Src w l [] vx) (h1:∀d∈l,d.one) (hds:∀d∈l,d.sz=k.s) (hn:l.length≤4194304)
 (h:∀v' w',(∃f,Sl w' l f v'∧∀b∈f,w.heap.size≤b)→Below w.heap.size w w'→K (a.put o.dst v') w'):
 if Region.wanted o (yielded ops a.tmps)=true then Oper.wp P o a w K Q else E:=by
 have hw:Region.wanted o (yielded ops a.tmps)=true:=by simp[Region.wanted,hgd]
 rw[if_pos hw];obtain⟨v',w',hrun,h2,h3⟩:=N9 (P:=P) (w:=w) k o.type ad l vx hsrc h1 hds hn;unfold Oper.wp execOp;simp only[ho,resolve,invoke,builtin,Sem.run_bind,Sem.run_pure,Result.andThen_ok,List.map_toArray,List.map_cons,List.map_nil,hs,hx,hrun];exact h v' w' h2 h3
theorem ag4{w w1 w2:World}{l:List D}{v:Value}{B:Nat}(h:∃f,Sl w l f v∧∀b∈f,B≤b)(h1:Below w.heap.size w w1)(h2:Below w1.heap.size w1 w2):∃f,Sl w2 l f v∧∀b∈f,B≤b:=by
 obtain⟨f,g1,g2⟩:=h;exact⟨f,(g1.below h1).below h2,g2⟩
theorem ag5{w:World}{l:List D}{v:Value}{B:Nat}(h:∃f,Sl w l f v∧∀b∈f,B≤b):∃A n c,v= .slice A n c:=by
 obtain⟨f,g1,_⟩:=h;obtain⟨A,c,e,_,_⟩:=g1.form;exact⟨A,_,c,e⟩
theorem agT{w:World}{g:Nat}{e:TypeId}{xs:List Value}(h:Row w g e xs)(i:Nat):w.frozen? ⟨g,i,none⟩=false:=by
 unfold Row at h;simp[World.frozen?,h]
theorem abU{w:World}{l:List D}{v:Value}{B B2:Nat}(h:∃f,Sl w l f v∧∀b∈f,B≤b)(hb:B2≤B):∃f,Sl w l f v∧∀b∈f,B2≤b:=by
 obtain⟨f,g1,g2⟩:=h;exact⟨f,g1,fun b hm=>b_ hb (g2 b hm)⟩
theorem aia{w:World}{l:List D}{v:Value}{B:Nat}(h:∃f,Sl w l f v∧∀b∈f,B+2≤b)(i j:Nat)(u u':Value):∃f,Sl ((w.setCell ⟨B+1,i,none⟩ u).setCell ⟨B+1,j,none⟩ u') l f v∧∀b∈f,B≤b:=by
 obtain⟨f,g1,g2⟩:=h;have hno:B+1∉f:=fun hm=>by have:=g2 _ hm;omega
 exact⟨f,R.setCell (R.setCell g1 (p:=⟨B+1,i,none⟩) hno u) (p:=⟨B+1,j,none⟩) hno u',fun b hm=>by have:=g2 b hm;omega⟩
theorem ac5{l:List Int}:∀d∈l.map li,d.one:=fun d h=>by obtain⟨x,_,rfl⟩:=w_.1 h;rfl
theorem afE{l:List Int}:∀d∈l.map li,d.sz=1:=fun d h=>by obtain⟨x,_,rfl⟩:=w_.1 h;rfl
theorem afV(l:List Int){w:World}:∀(f:List Nat) (cs:List Value),Rs w (l.map li) f cs→f= []:=fun f cs h=>MX l w f cs h
theorem afU(l:List GOrigin){w:World}:∀(f:List Nat) (cs:List Value),Rs w (l.map GOrigin.toD) f cs→f= []:=fun f cs h=>GOrigin.YQ l w f cs h
def Zp(xs:List Int)(ys:List GOrigin)(w:World)(e:Ending)(w':World):Prop:=∃v0 v1,e= .returned (.agg #[v0,v1])∧(∃f,Sl w' (xs.map li) f v0∧∀b∈f,w.heap.size≤b)∧(∃f,Sl w' (ys.map GOrigin.toD) f v1∧∀b∈f,w.heap.size≤b)∧Below w.heap.size w w'
theorem Pg(xs:List Int)(ys:List GOrigin)(w:World)(f0 f1:List Nat)(v0 v1:Value)(h0:Sl w (xs.map li) f0 v0)(h1:Sl w (ys.map GOrigin.toD) f1 v1)(hn0:xs.length≤4194304)(hn1:ys.length≤4194304):
 Calls Tryz.prog 188 #[.agg #[v0,v1]] w (Zp xs ys w):=by
 obtain⟨A0,c0,e0,_,_⟩:=h0.jk;obtain⟨A1,c1,e1,_,_⟩:=h1.jk;clear e0 e1;have tok1:True:=trivial;have tok2:True:=trivial
 go_enter Tryz.func188,Tryz.ntmps188
 go_wp2_with fail
 go_region_held3 (fun w'=>w'.cell? ⟨w.heap.size,0,none⟩=some v0∧w'.cell? ⟨w.heap.size,1,none⟩=some v1) (go_keep)
  (first
  |(have _t:=tok1;refine zI rfl ag7 (.tmp 3) (.tmp 5) rfl _ (by rfl) (xs.map li) _ (by rfl) (Src.of_flat (h0.below ((by repeat' (first|exact a_ _ _|exact d_ _|exact hlA|exact hlB|exact hlA.size|exact hlB.size|apply h_|apply f_|(simp;done)|(simp;omega)):Below w.heap.size w _))) (afV _)) ac5 afE (by simp;try omega) ?_;intro uA wA huA hcA;obtain⟨XA,nA,cA,rfl⟩:=ag5 huA;have huA:=abU (B2:=w.heap.size+2) huA (by first|(simp;done)|(simp;omega)|(have:=hbB.size;simp at this⊢;omega));have hbA:Below ((w.alloc (.cells #[v0,v1] 140)).alloc (.cells #[.slice none 0 0,.slice none 0 0] 140)).heap.size ((w.alloc (.cells #[v0,v1] 140)).alloc (.cells #[.slice none 0 0,.slice none 0 0] 140)) wA:=((by repeat' (first|exact a_ _ _|exact d_ _|exact hbA|exact hbB|exact hbA.size|exact hbB.size|apply h_|apply f_|(simp;done)|(simp;omega))):Below _ _ _).trans (hcA.mono (by first|exact d_ _|exact hbA.size|exact hbB.size|(simp;done)|(simp;omega)|(have:=hbB.size;simp at this⊢;omega)));(first|have huB:=ag4 huB (by repeat' (first|exact a_ _ _|exact d_ _|exact a_ _ _|exact a_ _ _|exact a_ _ _.size|exact a_ _ _.size|apply h_|apply f_|(simp;done)|(simp;omega))) hcA|skip);obtain⟨raA,rbA,hzA,hlA⟩:=agS hbA;have kaA:=raA.cell;have kbA:=rbA.cell;have fzA:=agT rbA;clear tok1 hcA)
  |(have _t:=tok2;refine zI rfl aaM (.tmp 7) (.tmp 9) rfl _ (by rfl) (ys.map GOrigin.toD) _ (by rfl) (Src.of_flat (h1.below ((by repeat' (first|exact a_ _ _|exact d_ _|exact hlA|exact hlB|exact hlA.size|exact hlB.size|apply h_|apply f_|(simp;done)|(simp;omega)):Below w.heap.size w _))) (afU _)) GOrigin.Ic GOrigin.szs (by simp;try omega) ?_;intro uB wB huB hcB;obtain⟨XB,nB,cB,rfl⟩:=ag5 huB;have huB:=abU (B2:=w.heap.size+2) huB (by first|(simp;done)|(simp;omega)|(have:=hbA.size;simp at this⊢;omega));have hbB:Below ((w.alloc (.cells #[v0,v1] 140)).alloc (.cells #[.slice none 0 0,.slice none 0 0] 140)).heap.size ((w.alloc (.cells #[v0,v1] 140)).alloc (.cells #[.slice none 0 0,.slice none 0 0] 140)) wB:=((by repeat' (first|exact a_ _ _|exact d_ _|exact hbA|exact hbB|exact hbA.size|exact hbB.size|apply h_|apply f_|(simp;done)|(simp;omega))):Below _ _ _).trans (hcB.mono (by first|exact d_ _|exact hbA.size|exact hbB.size|(simp;done)|(simp;omega)|(have:=hbA.size;simp at this⊢;omega)));(first|have huA:=ag4 huA (by repeat' (first|exact a_ _ _|exact d_ _|exact a_ _ _|exact a_ _ _|exact a_ _ _.size|exact a_ _ _.size|apply h_|apply f_|(simp;done)|(simp;omega))) hcB|skip);obtain⟨raB,rbB,hzB,hlB⟩:=agS hbB;have kaB:=raB.cell;have kbB:=rbB.cell;have fzB:=agT rbB;clear tok2 hcB))
 all_goals
  go_wp2_with fail
  refine bodyPost_ret (v:= .agg #[.slice XA nA cA,.slice XB nB cB]) (by first|(simp[results,Tryz.results188,go_sem,kbB];done)|(simp[results,Tryz.results188,go_sem,kbA];done)) rfl ?_;exact⟨_,_,rfl,aia huA _ _ _ _,aia huB _ _ _ _,v_ (v_ (by first|exact hlA|exact hlB) (x_ _) _) (x_ _) _⟩
theorem ZM{P:Program}{f:Nat}{x:GRow}(h:∀(w:World) (f0 f1:List Nat) (v0 v1:Value),Sl w (x.cells.map li) f0 v0→Sl w (x.src.map GOrigin.toD) f1 v1→Calls P f #[.agg #[v0,v1]] w (Zp x.cells x.src w)):
 aI P f [x.toD] (.c true [.sl true (x.cells.map li),.sl true (x.src.map GOrigin.toD)]):=fun w vs hr _=>by
 obtain⟨v,rfl,h1⟩:=Qr hr;obtain⟨fp,cs,rfl,h2⟩:=U8 (GRow.aW x) h1;obtain⟨v0,v1,f0,f1,rfl,rfl,h3,h4⟩:=GRow.opened.1 h2;refine(h w f0 f1 v0 v1 h3 h4).mono ?_;rintro e w' ⟨u0,u1,rfl,⟨g0,s0,b0⟩,⟨g1,s1,b1⟩,hb⟩;exact⟨_,rfl,⟨[u0,u1],rfl,⟨g0,s0,fun b hm=>⟨rJ.2 (b0 b hm),fun _=>i_ (b0 b hm)⟩⟩,⟨g1,s1,fun b hm=>⟨rJ.2 (b1 b hm),fun _=>i_ (b1 b hm)⟩⟩,trivial⟩,hb⟩
theorem ac9(x:GRow)(h0:x.cells.length≤4194304)(h1:x.src.length≤4194304):aI Tryz.prog 188 [x.toD] (.c true [.sl true (x.cells.map li),.sl true (x.src.map GOrigin.toD)]):=ZM fun w f0 f1 v0 v1 s0 s1=>Pg x.cells x.src w f0 f1 v0 v1 s0 s1 h0 h1
theorem aiw{P:Program}{t ty b j j2 v v2 e e2 sz sz2:Nat}{nw:Nw}{k n s:Int}{z:ByteArray}{c:List ByteArray}{w:List D}{st:St}{post:AV→List Own→Prop}(h1:st.fr.getD t .any= .bptr b 0)(h2:st.boxes[b]? =some [.raw (.int .i64 k),.raw (.int .i64 n),.raw (.int .i64 s),.raw (.string z),.raw (.slice none 0 0),.own j v,.own j2 v2])(ho:st.owns[j]? =some ⟨c.map ls,e,sz,v,nw⟩)
 (ho2:st.owns[j2]? =some ⟨w,e2,sz2,v2,true⟩) (hjj:j≠j2) (hp:eH P (.cell t ty) true 7=true) (hq:post (.c true [.raw (.int .i64 k),.raw (.int .i64 n),.raw (.int .i64 s),.raw (.string z),.sl true [],.sl true (c.map ls),.own 0 0]) [⟨w,e2,sz2,0,true⟩]):iG (FM P (.cell t ty) post) .ret st:=
 ⟨true,_,_,[j2],hq,rfl,by simp,⟨⟨_,ho2,rfl,i_ rfl⟩,trivial⟩,hp,b,_,h1,h2,⟨rfl,rfl,rfl,rfl,⟨rfl,rfl,rfl⟩,⟨rfl,by simpa using hjj,_,ho,rfl,rfl,Or.inr (Ba c)⟩,⟨rfl,rfl,_,ho2,rfl⟩,trivial⟩⟩
def SY :IC:=(zd_ [zz_ 1 (.box (.t 0)),zz_ 2 (.alloc [(.int .i64 0),(.int .i64 0),(.int .i64 0),(.string ⟨#[]⟩),(.slice none 0 0),(.slice none 0 0),(.slice none 0 0)])] (.seq (.reg true [zt_ 6 0 1,zs_ 7 1 6,zt_ 8 1 1,zs_ 9 1 8,zt_ 10 2 1,zs_ 11 1 10,zt_ 12 3 1,zs_ 13 1 12,zz_ 14 (.brow true 9 1 0 false []),zt_ 15 5 1,zs_ 16 1 15,zz_ 17 (.app 9 1 (.t 14) (.t 16)),zz_ 18 (.bld [(.int .i64 0),(.int .i64 0),(.int .i64 0),(.string ⟨#[]⟩),(.slice none 0 0),(.slice none 0 0),(.slice none 0 0)] [(0,1,(.t 7)),(1,1,(.t 9)),(2,1,(.t 11)),(3,1,(.t 13)),(5,1,(.t 17))]),zz_ 3 (.alloc [(.int .i64 0),(.int .i64 0),(.int .i64 0),(.string ⟨#[]⟩),(.slice none 0 0),(.slice none 0 0),(.slice none 0 0)]),⟨none,none,.store 7 (.t 3) (.t 18)⟩]) (.seq (zd_ [zk_ 4 0] (.block 0 (.loop (.seq (zd_ [zw_ 19 4,zt_ 20 4 1,zs_ 21 1 20,zf_ 22 false 21,zl_ 23 .lss 19 22] (.cond (.t 23) .skip (.exit 0))) (.seq (.block 1 (.regN true [] [zt_ 26 4 3,zs_ 27 1 26,zt_ 28 4 1,zs_ 29 1 28,zw_ 30 4,ze_ 31 7 29 30,zr_ 32 7 31,zq_ 33 142 32,zz_ 34 (.brow false 49 7 1 false [(.t 33)]),zz_ 35 (.app 49 7 (.t 27) (.t 34)),zt_ 36 4 3,⟨none,none,.store 1 (.t 36) (.t 35)⟩])) (.reg false [zw_ 24 4,zm_ 25 .add 24 1,zw_ 4 25])))))) (.seq (zd_ [zk_ 5 0] (.block 2 (.loop (.seq (zd_ [zw_ 37 5,zt_ 38 6 1,zs_ 39 1 38,zf_ 40 false 39,zl_ 41 .lss 37 40] (.cond (.t 41) .skip (.exit 2))) (.seq (.block 3 (.regN true [] [zt_ 44 6 3,zs_ 45 1 44,zt_ 46 6 1,zs_ 47 1 46,zw_ 48 5,ze_ 49 2 47 48,zr_ 50 2 49,zq_ 51 188 50,zz_ 52 (.brow false 140 2 1 false [(.t 51)]),zz_ 53 (.app 140 2 (.t 45) (.t 52)),zt_ 54 6 3,⟨none,none,.store 1 (.t 54) (.t 53)⟩])) (.reg false [zw_ 42 5,zm_ 43 .add 42 1,zw_ 5 43])))))) (zd_ [zr_ 55 7 3,⟨none,none,.store 7 (.t 2) (.t 55)⟩] .ret)))))
theorem SX :ak Tryz.prog (Tryz.f142.body.getD .skip)=some SY:=by kernel_rfl
theorem agp(k n s:Int)(t:ByteArray)(c:List ByteArray)(w:List GRow)(hc:Bh 1000 c)(hr:J7 1000 w):bC Tryz.prog 142 [dV k n s t c w] (fun r os'=>(r= .c true [.raw (.int .i64 k),.raw (.int .i64 n),.raw (.int .i64 s),.raw (.string t),.sl true [],.sl true (c.map ls),.own 0 0])∧os'= [⟨w.map GRow.toD,140,2,0,true⟩]):=by
 refine dS (fn:=Tryz.f142) (r:= .cell 2 49) (hc:=SX) (h:= ?_);unfold SY;refine zb_ ?_;change AWP _ _ _ (st0 56 _);refine sS tdV ?_;have hcl:=hc.1;have hwl:=hr.1
 repeat' (first|(refine hq_ ?_;clear hK K)|refine ca_ ?_ ?_|refine sz_ (a6_ tdE @gK @gu @eU @dV.eq_1 @GRow.el) ?_|refine nv ?_|(refine rD ?_;intro K hK)|(refine c2_ ?_ ?_<;>(intro hb hb';try(exfalso;omega)))|exact bq_|fail)
 all_goals first
  |exact bW _
  |omega
  |(simp only[g_];omega)
  |skip
 refine aQ (X:=Nat) (fun z=> [.d,.k,.k,.k,.v (.c false [.raw (.int .i64 ((z:Nat)))])]) (fun _=> [⟨c.map ls,9,1,1,false⟩]) (fun _ _=> [[.raw (.int .i64 k),.raw (.int .i64 n),.raw (.int .i64 s),.raw (.string t),.sl false [],.sl false (c.map ls),.sl false (w.map GRow.toD)],[.raw (.int .i64 0),.raw (.int .i64 0),.raw (.int .i64 0),.raw (.string ⟨#[]⟩),.raw (.slice none 0 0),.raw (.slice none 0 0),.raw (.slice none 0 0)],[.raw (.int .i64 k),.raw (.int .i64 n),.raw (.int .i64 s),.raw (.string t),.raw (.slice none 0 0),.own 0 1,.raw (.slice none 0 0)]]) (fun z=>z=0) (fun z=>0) 0 rfl ?_ ?_
 ·simp[aG,aU,aC,aF,AV.fits,AC.fits,FB,aB]
 rintro z hz
 try simp only at hz
 subst hz;simp only[FB,aB];have hT0:decide ((((0:Nat):Int))<((((0:Nat):Nat):Int)))=false:=rfl
 repeat' (first|(refine hq_ ?_;clear hK K)|refine ca_ ?_ ?_|refine sz_ (a7_ tdE @gK @gu @eU @dV.eq_1 @GRow.el hT0) ?_|refine nv ?_|(refine rD ?_;intro K hK)|(refine c2_ ?_ ?_<;>(intro hb hb';try(exfalso;omega)))|exact bq_|fail)
 refine JX 2 6 140 2 false rfl rfl ?_;simp only[St.Ky,List.cons_append,r_,List.length_cons,s_,o_,p_,m_,n_];refine aQ (X:=Nat×Nat×List D) (fun z=> [.d,.k,.k,.k,.d,.v (.c false [.raw (.int .i64 ((z.1:Nat)))])]) (fun z=> [⟨c.map ls,9,1,1,false⟩,⟨z.2.2,140,2,z.2.1,⟨true,false⟩⟩]) (fun z _=> [[.raw (.int .i64 k),.raw (.int .i64 n),.raw (.int .i64 s),.raw (.string t),.sl false [],.sl false (c.map ls),.sl false (w.map GRow.toD)],[.raw (.int .i64 0),.raw (.int .i64 0),.raw (.int .i64 0),.raw (.string ⟨#[]⟩),.raw (.slice none 0 0),.raw (.slice none 0 0),.raw (.slice none 0 0)],[.raw (.int .i64 k),.raw (.int .i64 n),.raw (.int .i64 s),.raw (.string t),.raw (.slice none 0 0),.own 0 1,.own 1 z.2.1]]) (fun z=>z.1≤w.length∧z.2.2=(w.map GRow.toD).take z.1) (fun z=>w.length - z.1) (0,0,[]) ⟨e_ _,rfl⟩ ?_ ?_
 ·simp[aG,aU,aC,aF,AV.fits,AC.fits,FB,aB]
 rintro⟨i,v,l⟩ ⟨hi,hl⟩;simp only at hi hl;simp only[FB,aB];by_cases hlt:i<w.length
 ·have hT:decide ((i:Int)<(w.length:Int))=true:=decide_eq_true (by omega);have hw1:(i:Int)+1=((i+1:Nat):Int):=by omega
  have hg:idx (w.map GRow.toD) (some (i:Int))=some (w[i]).toD:=bU GRow.toD w hlt;obtain⟨hcl2,hsrc⟩:=hr.2 _ (c_ hlt);have hR:=ac9 w[i] (by omega) (by rw[hsrc];simp);have hll:l.length=i:=by rw[hl,List.length_take,g_];omega
  have hln:l++ [D.agg [.sl ((w[i]).cells.map li),.sl ((w[i]).src.map GOrigin.toD)]]=(w.map GRow.toD).take (i+1):=by rw[List.take_succ_eq_append_getElem (by simpa using hlt),hl];simp[GRow.toD]
  have hel:El 2 l:=by rw[hl];exact fun d hd=>GRow.el w d (List.mem_of_mem_take hd)
  repeat' (first|(refine rg_ ?_;intro K hK)|((first|(with_reducible refine aA 9 false bg ?_)|(refine aA 9 false (by simp[dU,St.ev]) ?_));intro K hK)|refine nN ?_|(refine hq_ ?_;clear hK K)|refine ca_ ?_ ?_|(refine cg_ ?_;first|refine cT_ hR ?_)|((with_reducible refine fB ?_);first|refine BI (hc:=hR) (h:= ?_))|refine sz_ (a9_ tdE @gK @gu @eU @dV.eq_1 @GRow.el hT hw1 hg) ?_|refine nv ?_|(refine c2_ ?_ ?_<;>(intro hb hb';try(exfalso;omega)))|exact bq_|fail)
  all_goals first
   |omega
   |exact hel
   |exact GRow.el w
   |exact GRow.el [w[i]]
   | (refine aP (i+1,v+1,_) ⟨?_,⟨⟨rfl,rfl,rfl,rfl,rfl⟩,⟨rfl,rfl,rfl,rfl,rfl⟩,trivial⟩,⟨rfl,rfl,rfl,trivial⟩,rfl⟩ ⟨by simp only;omega,hln⟩ (show w.length - (i+1)<w.length - i by omega)
      simp[aU,AV.fits,AC.fits,FB,aB]
      done)
 ·have hT:decide ((i:Int)<(w.length:Int))=false:=decide_eq_false (by omega);have hl2:l=w.map GRow.toD:=by rw[hl,List.take_of_length_le (by simp;omega)]
  subst hl2
  repeat' (first|(refine rg_ ?_;intro K hK)|((first|(with_reducible refine aA 9 false bg ?_)|(refine aA 9 false (by simp[dU,St.ev]) ?_));intro K hK)|refine nN ?_|(refine hq_ ?_;clear hK K)|refine ca_ ?_ ?_|refine sz_ (a7_ tdE @gK @gu @eU @dV.eq_1 @GRow.el hT) ?_|refine nv ?_|(refine c2_ ?_ ?_<;>(intro hb hb';try(exfalso;omega)))|exact bq_|fail)
  all_goals exact aiw rfl rfl rfl rfl (by decide) (by kernel_rfl) ⟨rfl,rfl⟩
def UE(W:Nat)(rows:List GRow):Prop:=rows.length≤W∧∀r∈rows,r.cells.length≤W∧r.src.length≤1
theorem ahN{w:List GRow}{i:Nat}(h:i<w.length):(w.map GRow.toD)[i]? =some (w[i]).toD:=by rw[List.getElem?_map,List.getElem?_eq_getElem h];rfl
theorem afb{w:List GRow}{i:Nat}{h:i<w.length}(o:GOrigin):(w.map GRow.toD).set i (D.patch (w[i]).toD 1 (.sl [o.toD]))=(w.set i ⟨(w[i]).cells,[o]⟩).map GRow.toD:=by rw[List.map_set];rfl
theorem abR{W:Nat}{w:List GRow}{i:Nat}(h:i<w.length){o:GOrigin}(hw:∀r∈w,r.cells.length≤W∧r.src.length≤1):∀r∈w.set i ⟨(w[i]).cells,[o]⟩,r.cells.length≤W∧r.src.length≤1:=fun r hr=>(List.mem_or_eq_of_mem_set hr).elim (hw r) (fun e=>by rw[e];exact⟨(hw _ (c_ h)).1,d_ _⟩)
def Zo(r:AV):Prop:=∃(k n s:Int) (c:List ByteArray) (w:List GRow),Bh 130 c∧UE 130 w∧r= .c true [.raw (.int .i64 k),.raw (.int .i64 n),.raw (.int .i64 s),.raw (.string ⟨#[]⟩),.sl true [],.sl true (c.map ls),.sl true (w.map GRow.toD)]
theorem Qc{W:Nat}:Bh W []:=⟨e_ _,fun s hs=>by simp at hs⟩
theorem Hw{W:Nat}:UE W []:=⟨e_ _,fun s hs=>by simp at hs⟩
theorem agO(k n s:Int):Zo (.c true [.raw (.int .i64 k),.raw (.int .i64 n),.raw (.int .i64 s),.raw (.string ⟨#[]⟩),.sl true [],.sl true [],.sl true []]):=⟨k,n,s,[],[],Qc,Hw,rfl⟩
theorem TR{P:Program}{t ty b:Nat}{k n s:Int}{st:St}{post:AV→List Own→Prop}(h1:st.fr.getD t .any= .bptr b 0)(h2:st.boxes[b]? =some [.raw (.int .i64 k),.raw (.int .i64 n),.raw (.int .i64 s),.raw (.string ⟨#[]⟩),.raw (.slice none 0 0),.raw (.slice none 0 0),.raw (.slice none 0 0)])(hp:eH P (.cell t ty) true 7=true)
 (hq:post (.c true [.raw (.int .i64 k),.raw (.int .i64 n),.raw (.int .i64 s),.raw (.string ⟨#[]⟩),.sl true [],.sl true [],.sl true []]) []):iG (FM P (.cell t ty) post) .ret st:=
 ⟨true,_,[],[],hq,rfl,by simp,trivial,hp,b,_,h1,h2,⟨rfl,rfl,rfl,rfl,⟨rfl,rfl,rfl⟩,⟨rfl,rfl,rfl⟩,⟨rfl,rfl,rfl⟩,trivial⟩⟩
theorem afY{P:Program}{t ty b:Nat}{k n s:Int}{l1 l2 l3:List D}{st:St}{post:AV→List Own→Prop}(h1:st.fr.getD t .any= .bptr b 0)(h2:st.boxes[b]? =some [.raw (.int .i64 k),.raw (.int .i64 n),.raw (.int .i64 s),.raw (.string ⟨#[]⟩),.sl true l1,.sl true l2,.sl true l3])(hp:eH P (.cell t ty) true 7=true)
 (hq:post (.c true [.raw (.int .i64 k),.raw (.int .i64 n),.raw (.int .i64 s),.raw (.string ⟨#[]⟩),.sl true l1,.sl true l2,.sl true l3]) []):iG (FM P (.cell t ty) post) .ret st:=
 ⟨true,_,[],[],hq,rfl,by simp,trivial,hp,b,_,h1,h2,⟨rfl,rfl,rfl,rfl,⟨rfl,rfl,rfl⟩,⟨rfl,rfl,rfl⟩,⟨rfl,rfl,rfl⟩,trivial⟩⟩
theorem afZ{P:Program}{t ty b j v e sz:Nat}{nw:Nw}{k n s:Int}{l1 l2 l3:List D}{st:St}{post:AV→List Own→Prop}(h1:st.fr.getD t .any= .bptr b 0)(h2:st.boxes[b]? =some [.raw (.int .i64 k),.raw (.int .i64 n),.raw (.int .i64 s),.raw (.string ⟨#[]⟩),.sl true l1,.sl true l2,.own j v])(ho:st.owns[j]? =some ⟨l3,e,sz,v,nw⟩)(hn:nw.n=true)(hp:eH P (.cell t ty) true 7=true)
 (hq:post (.c true [.raw (.int .i64 k),.raw (.int .i64 n),.raw (.int .i64 s),.raw (.string ⟨#[]⟩),.sl true l1,.sl true l2,.sl true l3]) []):iG (FM P (.cell t ty) post) .ret st:=
 ⟨true,_,[],[],hq,rfl,by simp,trivial,hp,b,_,h1,h2,⟨rfl,rfl,rfl,rfl,⟨rfl,rfl,rfl⟩,⟨rfl,rfl,rfl⟩,⟨rfl,by simp,_,ho,rfl,rfl,i_ hn⟩,trivial⟩⟩
def YH :IC:=(zd_ [zz_ 2 (.alloc [(.int .i64 0),(.int .i64 0),(.int .i64 0),(.string ⟨#[]⟩),(.slice none 0 0),(.slice none 0 0),(.slice none 0 0)])] (zd_ [zw_ 3 0,zz_ 4 (.bld [(.int .i64 0),(.int .i64 0),(.int .i64 0),(.string ⟨#[]⟩),(.slice none 0 0),(.slice none 0 0),(.slice none 0 0)] [(0,1,(.k (.int .i64 6))),(1,1,(.t 3))]),⟨none,none,.store 7 (.t 2) (.t 4)⟩] .ret))
theorem V5 :ak Tryz.prog (Tryz.f118.body.getD .skip)=some YH:=by kernel_rfl
theorem Wx(n:Int):bC Tryz.prog 118 [li n] (fun r os'=>(∃k m:Int,r= .c true [.raw (.int .i64 k),.raw (.int .i64 m),.raw (.int .i64 0),.raw (.string ⟨#[]⟩),.sl true [],.sl true [],.sl true []])∧os'= []):=by
 refine dS (fn:=Tryz.f118) (r:= .cell 2 49) (hc:=V5) (h:= ?_);unfold YH;refine zb_ ?_;change AWP _ _ _ (st0 5 _);refine sS tdX ?_
 repeat' (first|(refine rg_ ?_;intro K hK)|(refine hq_ ?_;clear hK K)|refine ca_ ?_ ?_|refine sz_ (a6_ tdE @gK @gu @eU @dV.eq_1 @GRow.el) ?_|refine nv ?_|(refine c2_ ?_ ?_<;>(intro hb hb';try(exfalso;omega)))|exact bq_|fail)
 all_goals exact TR rfl rfl (by kernel_rfl) ⟨⟨_,_,rfl⟩,rfl⟩
def Yw :IC:=(zd_ [zz_ 2 (.alloc [(.int .i64 0),(.int .i64 0),(.int .i64 0),(.string ⟨#[]⟩),(.slice none 0 0),(.slice none 0 0),(.slice none 0 0)])] (zd_ [zw_ 3 0,zz_ 4 (.bld [(.int .i64 0),(.int .i64 0),(.int .i64 0),(.string ⟨#[]⟩),(.slice none 0 0),(.slice none 0 0),(.slice none 0 0)] [(0,1,(.k (.int .i64 1))),(1,1,(.t 3))]),⟨none,none,.store 7 (.t 2) (.t 4)⟩] .ret))
theorem VO :ak Tryz.prog (Tryz.f119.body.getD .skip)=some Yw:=by kernel_rfl
theorem acY(n:Int):bC Tryz.prog 119 [li n] (fun r os'=>(∃k m:Int,r= .c true [.raw (.int .i64 k),.raw (.int .i64 m),.raw (.int .i64 0),.raw (.string ⟨#[]⟩),.sl true [],.sl true [],.sl true []])∧os'= []):=by
 refine dS (fn:=Tryz.f119) (r:= .cell 2 49) (hc:=VO) (h:= ?_);unfold Yw;refine zb_ ?_;change AWP _ _ _ (st0 5 _);refine sS tdX ?_
 repeat' (first|(refine rg_ ?_;intro K hK)|(refine hq_ ?_;clear hK K)|refine ca_ ?_ ?_|refine sz_ (a6_ tdE @gK @gu @eU @dV.eq_1 @GRow.el) ?_|refine nv ?_|(refine c2_ ?_ ?_<;>(intro hb hb';try(exfalso;omega)))|exact bq_|fail)
 all_goals exact TR rfl rfl (by kernel_rfl) ⟨⟨_,_,rfl⟩,rfl⟩
def Yn :IC:=(zd_ [zz_ 3 (.box (.t 1)),zz_ 4 (.alloc [(.int .i64 0),(.int .i64 0),(.int .i64 0),(.string ⟨#[]⟩),(.slice none 0 0),(.slice none 0 0),(.slice none 0 0)])] (.seq (zd_ [zt_ 7 0 3,zs_ 8 1 7,zm_ 9 .neq 8 5,zw_ 10 9,zx_ 11 10 (.load 7 true (.t 3)),zx_ 12 10 (.call 140 [(.t 11)]),zx_ 13 10 (.not (.t 12)),zg_ 14 10 true 13,zw_ 15 14,zu_ 16 15 0,zx_ 17 15 (.bin .lss (.t 16) (.k (.int .i64 0))),zg_ 18 15 true 17] (.cond (.t 18) (zd_ [zz_ 19 (.call 118 [(.k (.int .i64 4))]),⟨none,none,.store 7 (.t 4) (.t 19)⟩] .ret) .skip)) (zd_ [zr_ 20 7 3,zq_ 21 142 20,zz_ 5 (.alloc [(.int .i64 0),(.int .i64 0),(.int .i64 0),(.string ⟨#[]⟩),(.slice none 0 0),(.slice none 0 0),(.slice none 0 0)]),⟨none,none,.store 7 (.t 5) (.t 21)⟩] (.seq (zd_ [zk_ 6 0] (.block 0 (.loop (.seq (zd_ [zw_ 22 6,zt_ 23 6 5,zs_ 24 1 23,zf_ 25 false 24,zl_ 26 .lss 22 25] (.cond (.t 26) .skip (.exit 0))) (.seq (.block 1 (.reg false [zt_ 29 6 5,zs_ 30 1 29,zw_ 31 6,zw_ 32 0,zw_ 33 6,zz_ 34 (.bld [(.int .i64 0),(.int .i64 0)] [(0,1,(.t 32)),(1,1,(.t 33))]),zz_ 35 (.brow false 144 2 1 false [(.t 34)]),ze_ 36 2 30 31,zt_ 37 1 36,⟨none,none,.store 1 (.t 37) (.t 35)⟩])) (.reg false [zw_ 27 6,zm_ 28 .add 27 1,zw_ 6 28])))))) (zd_ [zr_ 38 7 5,⟨none,none,.store 7 (.t 4) (.t 38)⟩] .ret)))))
theorem VE :ak Tryz.prog (Tryz.f122.body.getD .skip)=some Yn:=by kernel_rfl
theorem aby(z k n s:Int)(t:ByteArray)(c:List ByteArray)(w:List GRow)(hk:k=5)(hn:n=0)(hs:s=0)(ht:t=⟨#[]⟩)(hc:Bh 130 c)(hr:J7 130 w):bC Tryz.prog 122 [li z,dV k n s t c w] (fun r os'=>(Zo r)∧os'= []):=by
 refine dS (fn:=Tryz.f122) (r:= .cell 4 49) (hc:=VE) (h:= ?_);unfold Yn;refine zb_ ?_;change AWP _ _ _ (st0 39 _);subst ht;refine sS tdV ?_;have hcB:=Ld hc (show 130≤1000 by decide);have hrB:=U5 hr (show 130≤1000 by decide);have j5:(k !=5)=false:=by subst hk;rfl
 repeat' (first|(refine rg_ ?_;intro K hK)|(refine hq_ ?_;clear hK K)|refine ca_ ?_ ?_|refine gq_ ?_|(refine c2_ ?_ ?_<;>(intro hb hb';try(exfalso;omega)))|(refine cg_ ?_;first|(refine bn (h:=(abg _ _ _ _ _ _ hk hn hs rfl hcB hrB)) (hK:= ?_);rintro _ _ ⟨⟨_|_,rfl⟩,rfl⟩)|(refine bn (h:=(Wx _)) (hK:= ?_);rintro _ _ ⟨⟨ek,em,rfl⟩,rfl⟩)|(refine bn (h:=(agp _ _ _ _ _ _ hcB hrB)) (hK:= ?_);rintro _ _ ⟨rfl,rfl⟩))|refine sz_ (a7_ tdE @gK @gu @eU @dV.eq_1 @GRow.el j5) ?_|refine nv ?_|exact bq_|fail)
 all_goals first
  |exact afY rfl rfl (by kernel_rfl) ⟨agO _ _ _,rfl⟩
  |skip
 refine aQ (X:=Nat×List GRow) (fun y=> [.k,.d,.d,.d,.k,.k,.v (.c false [.raw (.int .i64 ((y.1:Nat)))])]) (fun y=> [⟨y.2.map GRow.toD,140,2,0,true⟩]) (fun _ _=> [[.raw (.int .i64 k),.raw (.int .i64 n),.raw (.int .i64 s),.raw (.string ⟨#[]⟩),.sl false [],.sl false (c.map ls),.sl false (w.map GRow.toD)],[.raw (.int .i64 0),.raw (.int .i64 0),.raw (.int .i64 0),.raw (.string ⟨#[]⟩),.raw (.slice none 0 0),.raw (.slice none 0 0),.raw (.slice none 0 0)],[.raw (.int .i64 k),.raw (.int .i64 n),.raw (.int .i64 s),.raw (.string ⟨#[]⟩),.sl true [],.sl true (c.map ls),.own 0 0]]) (fun y=>y.1≤w.length∧y.2.length=w.length∧∀r∈y.2,r.cells.length≤130∧r.src.length≤1) (fun y=>w.length - y.1) (0,w) ⟨e_ _,rfl,fun r hx=>⟨(hr.2 r hx).1,by rw[(hr.2 r hx).2];exact e_ _⟩⟩ ?_ ?_
 ·simp[aG,aU,aC,aF,AV.fits,AC.fits,FB,aB]
 rintro⟨i,x⟩ ⟨hi,hl,hx⟩;simp only at hi hl hx;have hwl:=hr.1;simp only[FB,aB];by_cases hlt:i<w.length
 ·have hT:decide ((i:Int)<(x.length:Int))=true:=decide_eq_true (by omega);have hw1:(i:Int)+1=((i+1:Nat):Int):=by omega
  have hlx:i<x.length:=by omega
  have hg:=ahN hlx
  repeat' (first|(refine rg_ ?_;intro K hK)|(refine hq_ ?_;clear hK K)|refine ca_ ?_ ?_|refine gq_ ?_|(refine c2_ ?_ ?_<;>(intro hb hb';try(exfalso;omega)))|refine sz_ (WU tdE @gK @gu @eU @dV.eq_1 @GRow.el hT hw1 hg @jV) ?_|refine nv ?_|exact bq_|fail)
  all_goals first
   |omega
   |(simp only[g_];omega)
   | (refine aP (i+1,x.set i ⟨(x[i]).cells,[(⟨z,(i:Int)⟩:GOrigin)]⟩) ⟨?_,⟨⟨afb (⟨z,(i:Int)⟩:GOrigin),rfl,rfl,rfl,rfl⟩,trivial⟩,⟨rfl,rfl,rfl,trivial⟩,rfl⟩ ⟨by simp only;omega,by simp only[List.length_set];exact hl,abR hlx hx⟩ (show w.length - (i+1)<w.length - i by omega)
      simp[aU,AV.fits,AC.fits,FB,aB]
      done)
 ·have hT:decide ((i:Int)<(x.length:Int))=false:=decide_eq_false (by omega)
  repeat' (first|(refine rg_ ?_;intro K hK)|(refine hq_ ?_;clear hK K)|refine ca_ ?_ ?_|refine gq_ ?_|(refine c2_ ?_ ?_<;>(intro hb hb';try(exfalso;omega)))|refine sz_ (a7_ tdE @gK @gu @eU @dV.eq_1 @GRow.el hT) ?_|refine nv ?_|exact bq_|fail)
  all_goals exact afZ rfl rfl rfl rfl (by kernel_rfl) ⟨⟨_,_,_,c,x,hc,⟨by omega,hx⟩,rfl⟩,rfl⟩
end Go.Proofs.YtfjmoicellpnhaaGreat
