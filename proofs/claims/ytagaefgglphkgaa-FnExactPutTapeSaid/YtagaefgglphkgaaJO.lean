/-
  Texts joined: Raw Mrg Put.
-/
import Derived.Test.YtagaefgglphkgaaJE
import Derived.Test.YtagaefgglphkgaaJH
set_option maxHeartbeats 8000000
set_option linter.unusedSimpArgs false
set_option linter.unusedVariables false
namespace Go.Proofs.Ytagaefgglphkgaa
open Go.RowKit
section
open List renaming length_cons→a_,length_map→b_,length_take→c_,getElem?_eq_some_iff→d_,mem_of_mem_take→e_,length_append→f_,length_nil→g_,getElem?_set_self→h_,getElem_mem→i_,length_drop→k_,mem_of_mem_drop→l_,getElem?_eq_getElem→n_,getElem?_set_ne→o_,take_length→p_,take_append_drop→q_,mem_append→r_,map_nil→s_,take_of_length_le→t_,eq_nil_of_length_eq_zero→u_,getD_eq_getElem?_getD→v_,take_append_getElem→w_,nodup_append→x_,map_cons→y_,take_succ_eq_append_getElem→z_,flatMap_cons→F_,getElem?_cons_zero→I_,length_set→J_,map_append→K_,getElem_cons_succ→L_,replicate→M_,take_succ_cons→N_,drop_succ_cons→O_,takeWhile_cons→P_,map_eq_nil_iff→Q_,set_cons_succ→R_,find?_eq_none→V_,set_cons_zero→X_,any_eq_false→Y_,map_take→a_d,map_drop→a_e
open Nat renaming zero_le→j_,min_eq_left→A_,add_mul→B_,one_mul→C_,le_refl→D_,lt_succ_iff_lt_or_eq→G_,zero_add→H_,le_of_eq→S_,le_trans→T_,lt_of_lt_of_le→U_,not_lt_zero→a_b
open Or renaming inl→m_,inr→E_
def mF(s:Nat):List D→List Value→List D
 | [],_=> []
 |_::l,cs=> .agg ((cs.take s).map .leaf)::mF s l (cs.drop s)
theorem Ee{w:World}:∀(cs:List Value),Rs w (cs.map .leaf) [] cs
 | []=>⟨rfl,rfl⟩
 |c::cs=>⟨[],[],[c],cs,rfl,rfl,⟨rfl,rfl⟩,Ee cs⟩
theorem nT{w:World}:∀{cs:List Value} {fp:List Nat} {c:List Value},Rs w (cs.map .leaf) fp c→fp= []∧c=cs
 | [],fp,c,h=>h
 | x::cs,_,_,h=>by
   obtain⟨f1,f2,c1,c2,rfl,rfl,⟨h1,h2⟩,h3⟩:=h;obtain⟨h4,h5⟩:=nT h3;subst h1 h2 h4 h5;exact⟨rfl,rfl⟩
theorem uG(s:Nat):∀(l:List D) (cs:List Value),(mF s l cs).length=l.length
 | [],_=>rfl
 |_::l,cs=>by rw[mF,a_,uG s l,a_]
theorem J7{w:World}(s:Nat):∀(l:List D) (cs:List Value),cs.length=l.length*s→Rs w (mF s l cs) [] cs
 | [],cs,h=>⟨rfl,u_ (by simpa using h)⟩
 | _::l,cs,h=>by
   rw[a_,B_,C_]at h;refine⟨[],[],cs.take s,cs.drop s,rfl,(q_ s cs).symm, ?_,J7 s l _ (by rw[k_];omega)⟩;rw[dK];exact Ee _
theorem zU{w:World}(s:Nat):∀(l:List D) (cs:List Value) {fp:List Nat} {c:List Value},cs.length=l.length*s→Rs w (mF s l cs) fp c→fp= []∧c=cs
 | [],cs,fp,c,hl,h=>⟨h.1,by rw[h.2];exact(u_ (by simpa using hl)).symm⟩
 | _::l,cs,_,_,hl,h=>by
   rw[a_,B_,C_]at hl;obtain⟨f1,f2,c1,c2,rfl,rfl,h1,h2⟩:=h;rw[dK]at h1;obtain⟨h3,h4⟩:=nT h1;obtain⟨h5,h6⟩:=zU s l _ (by rw[k_];omega) h2;subst h3 h4 h5 h6;exact⟨rfl,q_ s cs⟩
theorem Dc(s:Nat):∀(l:List D) (cs:List Value) (k:Nat),(mF s l cs).take k=mF s (l.take k) (cs.take (k*s))
 | [],cs,k=>by simp[mF]
 |_::l,cs,0=>by simp[mF]
 | _::l,cs,k+1=>by
   rw[mF,N_,N_,mF,Dc s l,List.take_take,List.drop_take,B_,C_,A_ (by omega),Nat.add_sub_cancel]
theorem Df(s:Nat):∀(l:List D) (cs:List Value) (k:Nat),(mF s l cs).drop k=mF s (l.drop k) (cs.drop (k*s))
 | [],cs,k=>by simp[mF]
 |_::l,cs,0=>by simp
 | _::l,cs,k+1=>by
   rw[mF,O_,O_,Df s l,List.drop_drop,B_,C_,Nat.add_comm s]
theorem Di :∀{cs:List Value},(∀v∈cs,v.oneCell'=true)→D.ones (cs.map .leaf)
 | [],_=>trivial
 |c::cs,h=>⟨h c (by simp),Di fun v hv=>h v (by simp[hv])⟩
theorem N8(cs:List Value):D.szs (cs.map .leaf)=cs.length:=by
 rw[fH (s:=1) _ (fun d hd=>by obtain⟨v,_,rfl⟩:=List.mem_map.1 hd;rfl)];simp
theorem Ej(s:Nat):∀(l:List D) (cs:List Value),cs.length=l.length*s→(∀v∈cs,v.oneCell'=true)→El s (mF s l cs)
 | [],cs,_,_=>fun d hd=>by simp[mF]at hd
 | _::l,cs,hl,hv=>fun d hd=>by
   rw[a_,B_,C_]at hl;rw[mF]at hd;rcases List.mem_cons.1 hd with rfl|hd
   ·refine⟨Di fun v h=>hv v (e_ h), ?_⟩;rw[D.sz,N8,c_];omega
   ·exact Ej s l _ (by rw[k_];omega) (fun v h=>hv v (l_ h)) d hd
theorem MI(s:Nat)(l:List D)(cs:List Value):jQ (mF s l cs):=by
 have:∀(l:List D) (cs:List Value) (w:World) (f:List Nat) (c:List Value),Rs w (mF s l cs) f c→f= []:=by
  intro l
  induction l with
  |nil=>intro cs w f c h;exact h.1
  | cons d l ih=>
    intro cs w f c h;obtain⟨f1,f2,c1,c2,rfl,rfl,h1,h2⟩:=h;rw[dK]at h1;rw[(nT h1).1,ih _ _ _ _ h2];rfl
 exact this l cs
theorem TI{w:World}{s:Nat}{l:List D}{fp:List Nat}{cs:List Value}(h:Rs w l fp cs)(hs:∀d∈l,d.sz=s)(k:Nat)(hk:k≤l.length):∃f1 f2,fp=f1++f2∧Rs w (l.take k) f1 (cs.take (k*s))∧Rs w (l.drop k) f2 (cs.drop (k*s)):=by
 rw[← q_ k l]at h;obtain⟨f1,f2,c1,c2,rfl,rfl,h1,h2⟩:=Rs.split h;have hl:c1.length=k*s:=by
  rw[h1.len,fH (s:=s) _ (fun x hx=>hs x (e_ hx)),c_,A_ hk]
 refine⟨f1,f2,rfl, ?_, ?_⟩
 ·rw[List.take_left' hl];exact h1
 ·rw[List.drop_left' hl];exact h2
theorem N9{s:Nat}{l:List D}(h:El s l):∀d∈l,d.sz=s:=fun d hd=>(h d hd).2
theorem Gl{E:Env}{os:List Own}{w:World}{y:AC}:∀{us:List Value} {vs:List Value},Oks E os w (us.map .raw++ [y]) vs→∃v,vs=us++ [v]∧y.ok E os w v
 | [],[v],h=>⟨v,rfl,h.1⟩
 | u::us,v::vs,h=>by
   obtain⟨v',h1,h2⟩:=Gl (us:=us) h.2;have e:v=u:=h.1;exact⟨v',by rw[h1,e];rfl,h2⟩
 | [],[],h=>h.elim
 | [],_::_::_,h=>h.2.elim
 |_::_,[],h=>h.elim
theorem Gj{E:Env}{os:List Own}{w:World}{y:AC}{v:Value}(hy:y.ok E os w v):∀(us:List Value),Oks E os w (us.map .raw++ [y]) (us++ [v])
 | []=>⟨hy,trivial⟩
 |u::us=>⟨rfl,Gj hy us⟩
def Ug(t e s kk:Nat)(raws:List D)(x:D):Exit→St→Prop:=fun ex st=>ex= .ret∧∃m vm nw,st.fr.getD t .any= .c false [.own m vm]∧st.owns[m]? =some ⟨raws.take kk++ [x]++raws.drop kk,e,s,vm,nw⟩
theorem RG{w:World}{base e s n:Nat}{v:Value}{cs:List Value}(h:aS w base e s v n cs):CB w v.ownBlock.toList:=fun b hb z=>by
 obtain⟨_,h2⟩:=h;rcases h2 with⟨rfl,_⟩|⟨g,z',cap,cur,rfl,_,hh,_⟩
 ·simp[Value.ownBlock]at hb
 ·have e:b=g:=by
   by_cases hz:z'=0<;>simp[Value.ownBlock,hz]at hb<;>exact hb
  subst e;simp only[World.frozen?,hh];simp
theorem vF{n t:Nat}{x:AV}(h:t<n):((M_ n AV.any).set t x).getD t .any=x:=by
 rw[v_,h_ (by simpa using h)];rfl
theorem Ba {P:Program}{c:IC}{Q:Exit→St→Prop}{fr:List AV}{os:List Own}{bs:List (List AC)}(k j b t kk:Nat){l l2:List D}{e s vk e2 s2 vj:Nat}{us:List Value}
 (hk:os[k]? =some ⟨l,e,s,vk,⟨true,true⟩⟩) (hj:os[j]? =some ⟨l2,e2,s2,vj,⟨true,true⟩⟩) (hjk:j≠k) (hb:bs[b]? =some (us.map .raw++ [.own j vj])) (hus:us.length+1=s) (huo:∀v∈us,v.oneCell'=true) (hkk:kk≤l.length) (hne:l2≠[])
 (H:∀(raws:List D) (ad:Addr) (n2 c2:Nat),raws.length=l.length→El s raws→jQ raws→
   jv (os.length,bs.length) P c (Ug t e s kk raws (.agg ((us++ [Value.slice (some ad) n2 c2]).map .leaf))) (St.rel ⟨fr,(aP os j).set k ⟨raws,e,s,vk,⟨true,false⟩⟩,bs.set b (us.map .raw++ [.raw (Value.slice (some ad) n2 c2)])⟩ k ⟨raws,e,s,vk,⟨true,false⟩⟩))
 (hQ:∀n,t<n→Q .ret ⟨(M_ n .any).set t (.c false [.own 0 0]),[⟨l.take kk++ [.agg (us.map .leaf++ [.sl l2])]++l.drop kk,e,s,0,⟨true,true⟩⟩],[]⟩):
 AWP P c Q ⟨fr,os,bs⟩:=fun code hc B Xs G w0 hG E a w h0=>by
 have hol:E.om.length=os.length:=h0.olen;have hkl:k<os.length:=(d_.1 hk).1;have hjl:j<os.length:=(d_.1 hj).1;have hpk:E.om[k]? =some E.om[k]:=n_ (by omega);have hpj:E.om[j]? =some E.om[j]:=n_ (by omega);generalize E.om[k]=pk at hpk;generalize E.om[j]=pj at hpj;obtain⟨cs,a1,a2,a3,a4⟩:=h0.own k _ pk hk hpk;obtain⟨cs2,b1,b2,b3,b4⟩:=h0.own j _ pj hj hpj;simp only at a1 a2 a3 a4 b1 b2 b3 b4;have hcl:cs.length=l.length*s:=by rw[a2.len,fH (s:=s) _ (N9 a3)]
 have hone:∀v∈cs,v.oneCell'=true:=Rs.one_ a2 (by
  have:∀(l:List D),El s l→D.ones l:=by
   intro l
   induction l with
   |nil=>intro _;trivial
   |cons d l ih=>intro h;exact⟨(h d (by simp)).1,ih fun x hx=>h x (by simp[hx])⟩
  exact this l a3)
 have h1:Rel B Xs G w0 ⟨fr,aP os j,bs⟩ (E.seal j) a w:=h0.seal hj;have hM1:=(qJ h0.nodup (k:=j)).2
 
 have esl:aP os j=os.set j ⟨[],e2,s2,vj+1,true⟩:=by unfold aP;rw[hj]
 have hk1:(aP os j)[k]? =some ⟨l,e,s,vk,⟨true,true⟩⟩:=by rw[esl,o_ hjk];exact hk
 have hpk1:(E.seal j).om[k]? =some pk:=by rw[jX (fun e=>hjk e.symm)];exact hpk
 obtain⟨E2,hE2⟩:∃E2:Env,E2={E.seal j with om:=(E.seal j).om.set k (pk.1,[])}:=⟨_,rfl⟩
 obtain⟨os2,hos2⟩:∃os2,os2=(aP os j).set k ⟨mF s l cs,e,s,vk,⟨true,false⟩⟩:=⟨_,rfl⟩
 have hom2:∀(i:Nat) (p:Value×List Nat),E2.om[i]? =some p→(i=k∧p=(pk.1,[]))∨(i≠k∧(E.seal j).om[i]? =some p):=by
  intro i p hi;rw[hE2]at hi;by_cases ei:k=i
  ·subst ei;have hlt:=(d_.1 hpk1).1;simp only[h_ hlt]at hi;exact m_ ⟨rfl,(Option.some.inj hi).symm⟩
  ·simp only[o_ ei]at hi;exact E_ ⟨fun e=>ei e.symm,hi⟩
 have hos2g:∀(i:Nat) (o:Own),os2[i]? =some o→(i=k∧o=⟨mF s l cs,e,s,vk,⟨true,false⟩⟩)∨(i≠k∧(aP os j)[i]? =some o):=by
  intro i o hi;rw[hos2]at hi;by_cases ei:k=i
  ·subst ei;have hlt:=(d_.1 hk1).1;rw[h_ hlt]at hi;exact m_ ⟨rfl,(Option.some.inj hi).symm⟩
  ·rw[o_ ei]at hi;exact E_ ⟨fun e=>ei e.symm,hi⟩
 have hME:E2.M=(E.seal j).M:=by
  have:∀(L:List (Value×List Nat)) (k:Nat),L[k]? =some pk→(L.set k (pk.1,[])).flatMap (fun p=>p.1.ownBlock.toList)=L.flatMap (fun p=>p.1.ownBlock.toList):=by
   intro L
   induction L with
   |nil=>intro k h;simp at h
   | cons z L ih=>
     intro k h;cases k with
     |zero=>simp at h;subst h;simp
     |succ k=>rw[R_,F_,F_,ih k (by simpa using h)]
  unfold Env.M;rw[hE2];simp only;rw[this _ _ hpk1]
 have hS2:Sim (E.seal j) (aP os j) w E2 os2 w:=
  { base:=by rw[hE2];rfl
    size:=D_ _,blk:=fun _ _ _=>rfl,old:=fun b _ hm=>by rw[← hME];exact hm
    own:=fun i o p g1 g2=>by
     by_cases ei:k=i
     ·subst ei;rw[hk1]at g1;rw[hpk1]at g2;injection g1 with g1
      injection g2 with g2
      subst g1 g2;refine⟨⟨mF s l cs,e,s,vk,⟨true,false⟩⟩,(pk.1,[]), ?_, ?_,D_ _,fun _=>⟨rfl,rfl⟩⟩
      ·rw[hos2,h_ (d_.1 hk1).1]
      ·rw[hE2];simp only;rw[h_ (d_.1 hpk1).1]
     ·refine⟨o,p, ?_, ?_,D_ _,fun _=>⟨rfl,rfl⟩⟩
      ·rw[hos2,o_ ei];exact g1
      ·rw[hE2];simp only;rw[o_ ei];exact g2
    box:=fun i p hp=>by rw[hE2];exact hp}
 have h2:Rel B Xs ⟨E2,os2,w⟩ w0 ⟨fr,os2,bs.set b (us.map .raw++ [.raw pj.1])⟩ E2 a w:=
  { eb :=by rw[hE2];exact h1.eb
    ex:=by rw[hE2];exact h1.ex
    sim:=Sim.refl _ _ _
    defers:=h1.defers,size:=h1.size
    fr:=fun t x hx=>(h1.fr t x hx).sim hS2
    olen:=by rw[hE2,hos2];simp only[J_];exact h1.olen
    own:=fun i o p g1 g2=>by
     rcases hos2g i o g1 with⟨rfl,rfl⟩|⟨ei,g1'⟩
     ·rcases hom2 i p g2 with⟨_,rfl⟩|⟨ei,_⟩
      ·refine⟨cs, ?_,J7 s l cs hcl,Ej s l cs hcl hone,fun b hb=>by simp at hb⟩;simp only[uG];rw[hE2];exact a1
      ·exact absurd rfl ei
     ·rcases hom2 i p g2 with⟨rfl,_⟩|⟨_,g2'⟩
      ·exact absurd rfl ei
      ·obtain⟨c',q1,q2,q3,q4⟩:=h1.own i o p g1' g2';refine⟨c',by rw[hE2];exact q1,q2,q3,fun b hb=>⟨fun hm=>(q4 b hb).1 (by rw[← hME];exact hm),fun e=> ?_⟩⟩;have:=(q4 b hb).2 e;rw[hE2];exact this
    blen:=by rw[hE2,J_];exact h1.blen
    box:=fun i xs p g1 g2=>by
     have g2':(E.seal j).bm[i]? =some p:=by rw[hE2]at g2;exact g2
     by_cases ei:b=i
     ·subst ei;have hlt:b<bs.length:=(d_.1 hb).1;rw[h_ hlt]at g1;injection g1 with g1
      subst g1;obtain⟨q1,vs,q2,q3⟩:=h0.box b _ p hb g2';refine⟨q1,vs,q2, ?_⟩;obtain⟨v,rfl,q4⟩:=Gl q3;obtain⟨_,o',p',z1,z2,z3,z4⟩:=q4;rw[hj]at z1;rw[hpj]at z2;injection z1 with z1
      injection z2 with z2
      subst z1 z2;obtain rfl:=z4 rfl;exact Gj (show(AC.raw pj.1).ok E2 os2 w pj.1 from rfl) us
     ·rw[o_ ei]at g1;obtain⟨q1,vs,q2,q3⟩:=h1.box i xs p g1 g2';exact⟨q1,vs,q2,q3.sim hS2⟩
    nodup:=by rw[hME];exact h1.nodup
    lin:=by
     rw[hE2,hos2];exact h1.lin.set fun _=>⟨List.nodup_nil,fun _ _ _ _ _ _ _ b hb=>by simp at hb⟩
    unf:=by
     rw[hE2,hos2];exact h1.unf.set fun _ b hb=>by simp at hb
    below:=h1.below
    base:=by rw[hE2];exact h1.base}
 obtain⟨ad,n2,c2,hv2⟩:∃ad n2 c2,pj.1=Value.slice (some ad) n2 c2:=by
  obtain⟨_,h9⟩:=b1;rcases h9 with⟨_,h9⟩|⟨g,z,cap,cur,h9,_⟩
  ·exact absurd (u_ h9) hne
  ·exact⟨_,_,_,h9⟩
 have hH:=H (mF s l cs) ad n2 c2 (uG s l cs) (Ej s l cs hcl hone) (MI s l cs);rw[← hv2]at hH;refine wp_mono (hH code hc B Xs ⟨E2,os2,w⟩ w0 ⟨by rw[hos2,esl];simp,by
  have:E2.bm.length=bs.length:=by rw[hE2];exact h1.blen
  exact S_ this⟩ (E2.seal k) a w (by
   have h3:=h2.release (k:=k) (o:=⟨mF s l cs,e,s,vk,⟨true,false⟩⟩) (by simp only;rw[hos2,h_ (d_.1 hk1).1]);rw[hos2]at h3;rw[hos2];exact h3)) ?_
 rintro ex a' w' ⟨st,E',hR,rfl,m,vm,nw,f1,f2⟩
 
 have htl:t<st.fr.length:=by
  rcases Nat.lt_or_ge t st.fr.length with hlt|hge
  ·exact hlt
  ·rw[v_,List.getElem?_eq_none hge]at f1;cases f1
 have hft:st.fr[t]? =some (.c false [.own m vm]):=by
  rw[v_,n_ htl,Option.getD_some]at f1;rw[n_ htl,f1]
 obtain⟨⟨hvs,o',pm,z1,z2,z3,z4⟩,_⟩:=hR.fr t _ hft;rw[f2]at z1;injection z1 with z1
 subst z1;simp only at z3 z4;obtain⟨csm,m1,m2,m3,m4⟩:=hR.own m _ pm f2 z2;simp only at m1 m2 m3;have hsim:=hR.sim;simp only at hsim
 
 obtain⟨fA,fB,hfp,kA,kB⟩:=TI a2 (N9 a3) kk hkk;obtain⟨g1,g2,d1,d2,hpm2,rfl,n1,n2⟩:=Rs.split m2;obtain⟨g3,g4,d3,d4,hg1,rfl,n3,n4⟩:=Rs.split n1;rw[Dc]at n3;rw[Df]at n2;have hlA:(cs.take (kk*s)).length=(l.take kk).length*s:=by
  have h1':kk*s≤cs.length:=by rw[hcl];exact Nat.mul_le_mul_right _ hkk
  rw[c_,c_,A_ h1',A_ hkk]
 have hlB:(cs.drop (kk*s)).length=(l.drop kk).length*s:=by
  rw[k_,k_,hcl,Nat.sub_mul]
 obtain⟨rfl,rfl⟩:=zU s _ _ hlA n3;obtain⟨rfl,rfl⟩:=zU s _ _ hlB n2;have n5:=Rs.Aa n4;rw[dK]at n5;obtain⟨rfl,rfl⟩:=nT n5
 
 have hkeep:∀x,x<w.heap.size→x∉E2.M→w'.heap[x]? =w.heap[x]? :=hsim.blk;have hkM:∀x∈pk.2,x∉E2.M:=fun x hx hm=>(a4 x hx).1 (hM1 x (by rw[← hME];exact hm))
 have hjM:∀x∈pj.1.ownBlock.toList++pj.2,x<w.heap.size∧x∉E2.M:=fun x hx=>by
  rcases r_.1 hx with hx|hx
  ·have hx':pj.1.ownBlock=some x:=by simpa using hx
   refine⟨(aS.lt b1 x hx').2,fun hm=> ?_⟩;rw[hME]at hm;rcases gV.1 hm with⟨k',q,y1,y2⟩|⟨k',q,y1,y2⟩
   ·exact LM h0 y1 hpj hx' y2
   ·by_cases ek:k'=j
    ·subst ek;simp only[Env.seal]at y1;rw[h_ (d_.1 hpj).1]at y1;injection y1 with y1
     subst y1;cases y2
    ·rw[jX ek]at y1;exact ek (yI h0 y1 hpj y2 hx')
  ·exact⟨Rs.lt b2 x hx,fun hm=>(b4 x hx).1 (hM1 x (by rw[← hME];exact hm))⟩
 have hsz:=hsim.size;have kA':Rs w' (l.take kk) fA (cs.take (kk*s)):=Rs.same kA (fun x hx=>hkeep x (Rs.lt kA x hx) (hkM x (by rw[hfp];simp[hx]))) hsz;have kB':Rs w' (l.drop kk) fB (cs.drop (kk*s)):=Rs.same kB (fun x hx=>hkeep x (Rs.lt kB x hx) (hkM x (by rw[hfp];simp[hx]))) hsz;have kX:R w' (.sl l2) (pj.1.ownBlock.toList++pj.2) [pj.1]:=R.same (Sl.kU b1 b2) (fun x hx=>hkeep x (hjM x hx).1 (hjM x hx).2) hsz;have kX':R w' (.agg (us.map .leaf++ [.sl l2])) (pj.1.ownBlock.toList++pj.2) (us++ [pj.1]):=by
  rw[dK];have:=Rs.append (Rs.one kX) (Ee (w:=w') us);simpa using this
 have hE'B:E'.nw=E.nw:=by
  have h3:=hsim.base;rw[h3,hE2];rfl
 have hall:∀x∈(fA++(pj.1.ownBlock.toList++pj.2))++fB,x<w.heap.size∧x∉E2.M∧E.nw x∧(∀z:Nat,w.frozen? ⟨x,z,none⟩=false):=by
  intro x hx;have hX:(x∈pk.2)∨x∈pj.1.ownBlock.toList++pj.2:=by
   rw[hfp];simp only[r_]at hx⊢;rcases hx with(h|h)|h
   ·exact m_ (m_ h)
   ·exact E_ h
   ·exact m_ (E_ h)
  rcases hX with hx|hx
  ·exact⟨Rs.lt a2 x hx,hkM x hx,(a4 x hx).2 trivial,h0.unf k _ pk hk hpk rfl x hx⟩
  ·refine⟨(hjM x hx).1,(hjM x hx).2, ?_⟩;rcases r_.1 hx with hx|hx
   ·exact⟨h0.qx (aS.lt b1 x (by simpa using hx)).1,RG b1 x hx⟩
   ·exact⟨(b4 x hx).2 trivial,h0.unf j _ pj hj hpj rfl x hx⟩
 have hnd:((fA++(pj.1.ownBlock.toList++pj.2))++fB).Nodup:=by
  have i1:=h0.lin.1 k _ pk hk hpk rfl;have i2:=h0.lin.1 j _ pj hj hpj rfl;have i3:=h0.lin.2 k j _ _ pk pj (fun e=>hjk e.symm) hk hj hpk hpj rfl rfl;rw[hfp]at i1;have i5:(pj.1.ownBlock.toList++pj.2).Nodup:=by
   rw[x_];refine⟨by cases pj.1.ownBlock<;>simp,i2,fun x hx y hy e=> ?_⟩;subst e;exact(b4 x hy).1 (gV.2 (E_ ⟨j,pj,hpj,by simpa using hx⟩))
  have i6:∀x∈pk.2,x∉pj.1.ownBlock.toList++pj.2:=fun x hx hm=>by
   rcases r_.1 hm with hm|hm
   ·exact(a4 x hx).1 (gV.2 (E_ ⟨j,pj,hpj,by simpa using hm⟩))
   ·exact i3 x hx hm
  rw[x_]at i1;rw[x_,x_];refine⟨⟨i1.1,i5,fun x hx y hy e=> ?_⟩,i1.2.1,fun x hx y hy e=> ?_⟩
  ·subst e;exact i6 x (by rw[hfp];simp[hx]) hy
  ·subst e;rcases r_.1 hx with hx|hx
   ·exact i1.2.2 x hx x hy rfl
   ·exact i6 x (by rw[hfp];simp[hy]) hx
 have hM'of:∀x,pm.1.ownBlock=some x→x∈E'.M:=fun x hx=>gV.2 (E_ ⟨m,pm,z2,hx⟩)
 refine⟨⟨(M_ st.fr.length .any).set t (.c false [.own 0 0]),[⟨l.take kk++ [.agg (us.map .leaf++ [.sl l2])]++l.drop kk,e,s,0,⟨true,true⟩⟩],[]⟩,⟨E'.B,[(pm.1,(fA++(pj.1.ownBlock.toList++pj.2))++fB)],[],E'.X⟩, ?_,hQ _ htl⟩;have hMs:∀x,x∈(⟨E'.B,[(pm.1,(fA++(pj.1.ownBlock.toList++pj.2))++fB)],[],E'.X⟩:Env).M↔pm.1.ownBlock=some x:=by
  intro x;simp[Env.M]
 exact
  { eb := hR.eb,ex:=hR.ex
    sim :=
     { base:=by
        show E'.nw=G.E.nw;rw[hE'B];exact h0.sim.base
       size:=T_ h0.sim.size hsz
       blk:=fun x hx hm=>by
        have q1:=h0.sim.blk x hx hm;have q2:x∉E.M:=fun hm'=>hm (h0.sim.old x hx hm')
        rw[hkeep x (U_ hx h0.sim.size) (fun hm'=>q2 (hM1 x (by rw[← hME];exact hm')))];exact q1
       old:=fun x hx hm=>by
        have q1:=hM'of x ((hMs x).1 hm);have q2:=hsim.old x (U_ hx h0.sim.size) q1;exact h0.sim.old x hx (hM1 x (by rw[← hME];exact q2))
       own:=fun i o p g1 _=>by
        have:=(d_.1 g1).1;have hG1:=hG.1;simp only at hG1;omega
       box:=fun i p g1=>by
        have:=(d_.1 g1).1;have hG2:=hG.2;simp only at hG2;omega}
    defers:=hR.defers
    size:=by rw[hR.size];simp
    fr :=fun i x hx=>by
     rw[List.getElem?_set]at hx;by_cases ei:t=i
     ·subst ei;rw[if_pos rfl,if_pos (by simpa using htl)]at hx;injection hx with hx
      subst hx;exact⟨⟨hvs,_,_,rfl,rfl,D_ _,fun _=>z4 trivial⟩,trivial⟩
     ·rw[if_neg ei]at hx;have:=List.getElem?_replicate (n:=st.fr.length) (a:=AV.any) (i:=i);rw[this]at hx;split at hx
      ·injection hx with hx
       subst hx;trivial
      ·cases hx
    olen:=rfl
    own := fun i o p g1 g2=>by
     cases i with
     |succ i=>simp at g1
     | zero=>
       rw[I_]at g1 g2;injection g1 with g1
       injection g2 with g2
       subst g1 g2;refine⟨cs.take (kk*s)++(us++ [pj.1])++cs.drop (kk*s), ?_, ?_, ?_,fun x hx=>⟨fun hm=> ?_,fun _=> ?_⟩⟩
       ·simpa[uG]using m1
       ·exact Rs.append kB' (Rs.append (Rs.one kX') kA')
       ·intro d hd;simp only[r_,List.mem_singleton]at hd;rcases hd with(hd|hd)|hd
        ·exact a3 d (e_ hd)
        ·subst hd;refine⟨?_, ?_⟩
         ·have:∀(us:List Value),(∀v∈us,v.oneCell'=true)→D.ones (us.map .leaf++ [.sl l2]):=by
           intro us
           induction us with
           |nil=>intro _;exact⟨trivial,trivial⟩
           |cons u us ih=>intro h;exact⟨h u (by simp),ih fun v hv=>h v (by simp[hv])⟩
          exact this us huo
         ·have h9:=R.len kX';rw[← h9];simpa using hus
        ·exact a3 d (l_ hd)
       ·obtain⟨q1,q2,q3,q4⟩:=hall x hx;exact q2 (hsim.old x q1 (hM'of x ((hMs x).1 hm)))
       ·obtain⟨q1,q2,q3,q4⟩:=hall x hx;show E'.nw x;rw[hE'B];exact q3
    blen:=rfl
    box:=fun i xs p g1 _=>by simp at g1
    nodup:=by
     unfold Env.M;simp only[s_,List.nil_append,F_,List.flatMap_nil,List.append_nil];cases pm.1.ownBlock<;>simp
    lin:=Lin.one fun _=>hnd
    unf:=Unf.one fun _ x hx z=>by
     obtain⟨q1,q2,q3,q4⟩:=hall x hx;rw[World.frozen?_of_block (w:=w) (hkeep x q1 q2)];exact q4 z
    below:=hR.below
    base:=hR.base}
end
section
open List renaming length_cons→a_,length_map→b_,length_take→c_,getElem?_eq_some_iff→d_,mem_of_mem_take→e_,length_append→f_,length_nil→g_,getElem?_set_self→h_,getElem_mem→i_,length_drop→k_,mem_of_mem_drop→l_,getElem?_eq_getElem→n_,getElem?_set_ne→o_,take_length→p_,take_append_drop→q_,mem_append→r_,map_nil→s_,take_of_length_le→t_,eq_nil_of_length_eq_zero→u_,getD_eq_getElem?_getD→v_,take_append_getElem→w_,nodup_append→x_,map_cons→y_,take_succ_eq_append_getElem→z_,flatMap_cons→F_,getElem?_cons_zero→I_,length_set→J_,map_append→K_,getElem_cons_succ→L_,replicate→M_,take_succ_cons→N_,drop_succ_cons→O_,takeWhile_cons→P_,map_eq_nil_iff→Q_,set_cons_succ→R_,find?_eq_none→V_,set_cons_zero→X_,any_eq_false→Y_,map_take→a_d,map_drop→a_e
open Nat renaming zero_le→j_,min_eq_left→A_,add_mul→B_,one_mul→C_,le_refl→D_,lt_succ_iff_lt_or_eq→G_,zero_add→H_,le_of_eq→S_,le_trans→T_,lt_of_lt_of_le→U_,not_lt_zero→a_b
open Or renaming inl→m_,inr→E_
attribute [local irreducible] sw sd sn
def kC(a b:GRead):Bool:=a.kind==b.kind && a.n==b.n && a.text.toList==b.text.toList && a.time==b.time
def iU(l:List GRead)(r:GRead):Bool:=l.any fun x=>kC x r
theorem uj :∀(a b:List D),D.wts (a++b)=D.wts a+D.wts b
 | [],b=>by simp[D.wts]
 |x::a,b=>by rw[List.cons_append,D.wts,D.wts,uj a b,Nat.add_assoc]
def bK(tape reads:List GRead):List GRead:=reads.foldl (fun out r=>if iU out r then out else out++ [r]) tape
theorem yu{tape reads:List GRead}{k:Nat}(h:k<reads.length):bK tape (reads.take (k+1))=if iU (bK tape (reads.take k)) reads[k]then bK tape (reads.take k)else bK tape (reads.take k)++ [reads[k]]:=by
 unfold bK;rw[z_ h,List.foldl_append,List.foldl_cons,List.foldl_nil]
theorem Af{tape:List GRead}:∀{reads:List GRead} {x:GRead},x∈bK tape reads→x∈tape∨x∈reads:=by
 intro reads
 induction reads generalizing tape with
 |nil=>intro x h;exact m_ h
 | cons r rs ih=>
   intro x h;have h2:x∈bK (if iU tape r then tape else tape++ [r]) rs:=h;rcases ih h2 with h3|h3
   ·split at h3
    ·exact m_ h3
    ·rcases r_.1 h3 with h4|h4
     ·exact m_ h4
     ·exact E_ (by simp at h4;simp[h4])
   ·exact E_ (by simp[h3])
theorem pO{tape reads:List GRead}:(bK tape reads).length+D.wts ((bK tape reads).map GRead.toD)≤tape.length+D.wts (tape.map GRead.toD)+(reads.length+D.wts (reads.map GRead.toD)):=by
 induction reads generalizing tape with
 |nil=>exact Nat.le_add_right _ _
 | cons r rs ih=>
   have h2:=ih (tape:=if iU tape r then tape else tape++ [r]);have e:bK tape (r::rs)=bK (if iU tape r then tape else tape++ [r]) rs:=rfl;rw[e];refine T_ h2 ?_;rw[y_,D.wts,a_];split
   ·omega
   ·rw[K_,f_,uj,y_,s_,D.wts,D.wts,List.length_singleton];omega
theorem Dj{reads:List GRead}(h:reads≠[]):bK [] reads≠[]:=by
 have:∀(reads tape:List GRead),tape≠[]→bK tape reads≠[]:=by
  intro reads
  induction reads with
  |nil=>intro tape h;exact h
  | cons r rs ih=>
    intro tape h;refine ih _ ?_;show(if iU tape r then tape else tape++ [r])≠[];split
    ·exact h
    ·simp
 cases reads with
 |nil=>exact absurd rfl h
 |cons r rs=>exact this rs [r] (by simp)
theorem Ag :∀(rs t:List GRead),(bK t rs).length≤t.length+rs.length:=by
 intro rs
 induction rs with
 |nil=>intro t;exact D_ _
 | cons r rs ih=>
   intro t;have e:bK t (r::rs)=bK (if iU t r then t else t++ [r]) rs:=rfl;rw[e];refine T_ (ih _) ?_;split
   ·simp only[a_];omega
   ·simp only[a_,f_,g_];omega
theorem dH.args{P:Program}{f:Nat}{ds ds':List D}{r:AV}{os:List Own}(h:dH P f ds r os)(hr:∀w vs,Rds w ds' vs→Rds w ds vs):dH P f ds' r os:=fun w vs h1 h2=>h w vs (hr w vs h1) h2
theorem aJ.argsR{P:Program}{f:Nat}{ds ds':List D}{r:AV}(h:aJ P f ds r)(hr:∀w vs,Rds w ds' vs→Rds w ds vs):aJ P f ds' r:=fun w vs h1 h2=>h w vs (hr w vs h1) h2
theorem Ur{α:Type}{g:α→D}{w:World}{l:List α}{v:Value}(h:Rd w (.sl (l.map fun x=>(g x).ff)) v):Rd w (.sl (l.map g)) v:=by
 obtain⟨fp,h1⟩:=h;exact⟨fp,SQ h1⟩
theorem Oy{w:World}{l:List GRead}{ds:List D}:∀{vs:List Value},Rds w (.sl (l.map rdF)::ds) vs→Rds w (.sl (l.map GRead.toD)::ds) vs
 | [],h=>h.elim
 |v::vs,h=>⟨Ur h.1,h.2⟩
theorem AP{l:List GRead}{r:GRead}{k:Nat}(h:k<l.length):iU (l.take (k+1)) r=(iU (l.take k) r || kC l[k] r):=by
 unfold iU;rw[z_ h,List.any_append];simp
def qQ(l:List GRead)(r:GRead):GVal:=match l.find? (fun x=>kC x r)with|some x=>x.result|none=> .mk 0 0 0 ⟨#[]⟩ [] [] []
theorem yD{l:List GRead}{r:GRead}(h:iU l r=false):qQ l r= .mk 0 0 0 ⟨#[]⟩ [] [] []:=by
 unfold qQ;rw[V_.2 (fun x hx=>by
  have:=Y_.1 h x hx;exact this)]
theorem Dp{l:List GRead}{r:GRead}{k:Nat}(h:k<l.length)(hf:iU (l.take k) r=false)(e:kC l[k] r=true):qQ l r=l[k].result:=by
 have hs:l=l.take k++l[k]::l.drop (k+1):=by rw[← List.drop_eq_getElem_cons,q_]
 have hn:(l.take k).find? (fun x=>kC x r)=none:=V_.2 (fun x hx=>Y_.1 hf x hx);have hq:l.find? (fun x=>kC x r)=some l[k]:=by
  conv=>lhs;rw[hs]
  rw[List.find?_append,hn,List.find?_cons,e];rfl
 unfold qQ;rw[hq]
theorem Ho{l:List GRead}{r:GRead}{k:Nat}(h:k<l.length)(e:kC l[k] r=true):iU l r=true:=List.any_eq_true.2 ⟨l[k],i_ h,e⟩
def uU :IC:=(zd_ [zz_ 2 (.box (.t 0)),zz_ 3 (.box (.t 1)),zj_ 4 false] (zd_ [zt_ 5 0 2,zs_ 6 1 5,zt_ 7 0 3,zs_ 8 1 7,zl_ 9 .eql 6 8,zw_ 10 9,zy_ 11 10 (.fad 1 (.t 2)),zy_ 12 10 (.load 1 false (.t 11)),zy_ 13 10 (.fad 1 (.t 3)),zy_ 14 10 (.load 1 false (.t 13)),zy_ 15 10 (.bin .eql (.t 12) (.t 14)),zh_ 16 10 15 false,zw_ 17 16,zy_ 18 17 (.fad 3 (.t 2)),zy_ 19 17 (.load 1 false (.t 18)),zy_ 20 17 (.fad 3 (.t 3)),zy_ 21 17 (.load 1 false (.t 20)),zy_ 22 17 (.bin .eql (.t 19) (.t 21)),zh_ 23 17 22 false,zw_ 24 23,zy_ 25 24 (.fad 2 (.t 2)),zy_ 26 24 (.load 1 false (.t 25)),zy_ 27 24 (.fad 2 (.t 3)),zy_ 28 24 (.load 1 false (.t 27)),zy_ 29 24 (.bin .eql (.t 26) (.t 28)),zh_ 30 24 29 false,zw_ 4 30] .ret))
theorem yS :au Try.prog (Try.f100.body.getD .skip)=some uU:=by kernel_rfl
theorem Eb(x y:GRead):aJ Try.prog 100 [x.toD,y.toD] (.c false [.raw (.bool (kC x y))]):=by
 have hr:∀{a b c d:Bool},(x.kind==y.kind)=a→(x.n==y.n)=b→(x.text.toList==y.text.toList)=c→(x.time==y.time)=d→kC x y=(a && b && c && d):=fun h1 h2 h3 h4=>by unfold kC;rw[h1,h2,h3,h4]
 refine gQ (fn:=Try.f100) (t:=4) (hc:=yS) (h:= ?_);unfold uU;refine zb_ ?_;change AWP _ _ _ (st0 31 _);refine sS trivial ?_;cases h1:(x.kind==y.kind)<;>cases h2:(x.n==y.n)<;>cases h3:(x.text.toList==y.text.toList)<;>cases h4:(x.time==y.time)
 all_goals
  rw[hr h1 h2 h3 h4]
  repeat' (first|(refine rg_ ?_;intro K hK)|(refine hq_ ?_;clear hK K)|refine ca_ ?_ ?_|refine gq_ ?_|(refine c2_ ?_ ?_<;>(intro hb hb';try(exfalso;omega)))|refine sz_ (a4_ h1 h2 h3 h4) ?_|refine nv ?_|(exact aC _)|(exact GRead.el _)|(exact aC [_])|(exact GTape.el _)|exact bq_|fail)
  exact bH ⟨_,rfl,rfl,trivial⟩
def uT :IC:=(zd_ [zz_ 2 (.box (.t 0)),zz_ 3 (.box (.t 1)),zj_ 4 false] (zd_ [zt_ 5 0 2,zs_ 6 1 5,zt_ 7 0 3,zs_ 8 1 7,zl_ 9 .eql 6 8,zw_ 10 9,zy_ 11 10 (.fad 1 (.t 2)),zy_ 12 10 (.load 1 false (.t 11)),zy_ 13 10 (.fad 1 (.t 3)),zy_ 14 10 (.load 1 false (.t 13)),zy_ 15 10 (.bin .eql (.t 12) (.t 14)),zh_ 16 10 15 false,zw_ 17 16,zy_ 18 17 (.fad 3 (.t 2)),zy_ 19 17 (.load 1 false (.t 18)),zy_ 20 17 (.fad 3 (.t 3)),zy_ 21 17 (.load 1 false (.t 20)),zy_ 22 17 (.bin .eql (.t 19) (.t 21)),zh_ 23 17 22 false,zw_ 24 23,zy_ 25 24 (.fad 2 (.t 2)),zy_ 26 24 (.load 1 false (.t 25)),zy_ 27 24 (.fad 2 (.t 3)),zy_ 28 24 (.load 1 false (.t 27)),zy_ 29 24 (.bin .eql (.t 26) (.t 28)),zh_ 30 24 29 false,zw_ 4 30] .ret))
theorem yR :au Try.prog (Try.f99.body.getD .skip)=some uT:=by kernel_rfl
theorem Ea(x y:GRead):aJ Try.prog 99 [x.toD,y.toD] (.c false [.raw (.bool (kC x y))]):=by
 have hr:∀{a b c d:Bool},(x.kind==y.kind)=a→(x.n==y.n)=b→(x.text.toList==y.text.toList)=c→(x.time==y.time)=d→kC x y=(a && b && c && d):=fun h1 h2 h3 h4=>by unfold kC;rw[h1,h2,h3,h4]
 refine gQ (fn:=Try.f99) (t:=4) (hc:=yR) (h:= ?_);unfold uT;refine zb_ ?_;change AWP _ _ _ (st0 31 _);refine sS trivial ?_;cases h1:(x.kind==y.kind)<;>cases h2:(x.n==y.n)<;>cases h3:(x.text.toList==y.text.toList)<;>cases h4:(x.time==y.time)
 all_goals
  rw[hr h1 h2 h3 h4]
  repeat' (first|(refine rg_ ?_;intro K hK)|(refine hq_ ?_;clear hK K)|refine ca_ ?_ ?_|refine gq_ ?_|(refine c2_ ?_ ?_<;>(intro hb hb';try(exfalso;omega)))|refine sz_ (a4_ h1 h2 h3 h4) ?_|refine nv ?_|(exact aC _)|(exact GRead.el _)|(exact aC [_])|(exact GTape.el _)|exact bq_|fail)
  exact bH ⟨_,rfl,rfl,trivial⟩
def uY :IC:=(zd_ [zz_ 3 (.box (.t 1)),zz_ 4 (.alloc [(.int .i64 0),(.int .i64 0),(.int .i64 0),(.string ⟨#[]⟩),(.slice none 0 0),(.slice none 0 0),(.slice none 0 0)]),zj_ 5 false] (.seq (zd_ [zw_ 8 0,zf_ 9 false 8,zk_ 10 0] (.block 0 (.loop (zd_ [zl_ 11 .lss 10 9] (.seq (.cond (.t 11) .skip (.exit 0)) (.seq (.block 1 (zd_ [ze_ 12 11 8 10,zr_ 13 11 12,zz_ 7 (.alloc [(.int .i64 0),(.int .i64 0),(.int .i64 0),(.string ⟨#[]⟩),(.int .i64 0),(.int .i64 0),(.int .i64 0),(.string ⟨#[]⟩),(.slice none 0 0),(.slice none 0 0),(.slice none 0 0)]),⟨none,none,.store 11 (.t 7) (.t 13)⟩] (zd_ [zr_ 14 11 7,zr_ 15 11 3,zp_ 16 100 14 15] (.cond (.t 16) (zd_ [zt_ 17 4 7,zr_ 18 7 17,zq_ 19 59 18,⟨none,none,.store 7 (.t 4) (.t 19)⟩,zj_ 5 true] .ret) .skip)))) (.reg false [zm_ 20 .add 10 1,zw_ 10 20]))))))) (zd_ [zz_ 21 (.bld [(.int .i64 0),(.int .i64 0),(.int .i64 0),(.string ⟨#[]⟩),(.slice none 0 0),(.slice none 0 0),(.slice none 0 0)] []),⟨none,none,.store 7 (.t 4) (.t 21)⟩,zj_ 5 false] .ret)))
theorem yV :au Try.prog (Try.f91.body.getD .skip)=some uY:=by kernel_rfl
theorem EJ(l:List GRead)(r:GRead)(hn:l.length≤4194304)(hw:∀x∈l,x.result.toD.wt≤1048576):aJ Try.prog 91 [.sl (l.map GRead.toD),r.toD] (.tup [(true,(qQ l r).toD.acs true),(false,[.raw (.bool (iU l r))])]):=by
 rw[GVal.aK];refine Dz (fn:=Try.f91) (r:= .cell 4 41) (q:= .tmp 5) (hc:=yV) (h:= ?_);unfold uY;refine zb_ ?_;change AWP _ _ _ (st0 22 _);refine sS trivial ?_
 repeat' (first|(refine rg_ ?_;intro K hK)|(refine hq_ ?_;clear hK K)|refine ca_ ?_ ?_|refine sz_ trivial ?_|refine nv ?_|(refine c2_ ?_ ?_<;>(intro hb hb';try(exfalso;omega)))|(exact aC _)|(exact GRead.el _)|(exact aC [_])|(exact GTape.el _)|exact bq_|fail)
 refine dN (X:=Nat) (fun q=> [.d,.d,.d,.k,.k,.d,.d,.d,.k,.k,.v (.c false [.raw (.int .i64 (q:Nat))])]) (fun q=> []) (fun q bs=> [[.raw (.int .i64 r.kind),.raw (.int .i64 r.n),.raw (.int .i64 r.time),.raw (.string r.text),.raw (.int .i64 r.result.kind),.raw (.int .i64 r.result.n),.raw (.int .i64 r.result.step),.raw (.string r.result.text),.sl false (r.result.list.map GVal.toD),.sl false (r.result.cols.map ls),.sl false (r.result.rows.map GRow.toD)],[.raw (.int .i64 0),.raw (.int .i64 0),.raw (.int .i64 0),.raw (.string ⟨#[]⟩),.raw (.slice none 0 0),.raw (.slice none 0 0),.raw (.slice none 0 0)]]) (fun q=>q≤l.length∧iU (l.take q) r=false) (fun q=>l.length - q) 0 ⟨j_ _,rfl⟩ ?_ ?_
 ·simp[dF,gJ,dG,dI,AV.fits,AC.fits,FB,dD]
 rintro k ⟨hk,hf⟩;simp only[FB,dD];by_cases hlk:k<l.length
 ·have hg:=dJ GRead.toD l hlk;have hs:=Eb l[k] r;have ht:=AP (r:=r) hlk;cases he:kC l[k] r with
  | false=>
    rw[he]at hs;rw[hf,he]at ht
    repeat' (first|(refine rg_ ?_;intro K hK)|(refine hq_ ?_;clear hK K)|refine ca_ ?_ ?_|(refine cg_ ?_;first|refine cT_ hs ?_)|refine sz_ (UZ hg @aW.eq_1) ?_|refine nv ?_|(refine c2_ ?_ ?_<;>(intro hb hb';try(exfalso;omega)))|(exact aC _)|(exact GRead.el _)|(exact aC [_])|(exact GTape.el _)|exact bq_|fail)
    refine eX (k+1) ?_ ⟨by omega,ht⟩ (show l.length - (k+1)<l.length - k by omega);simp[dF,gJ,dG,dI,AV.fits,AC.fits,FB,dD]
  | true=>
    rw[he]at hs;have hr:=Ho hlk he;have hc:=vJ l[k].result (hw _ (i_ hlk));rw[GVal.aK]at hc;rw[hr,Dp hlk hf he]
    repeat' (first|(refine rg_ ?_;intro K hK)|(refine hq_ ?_;clear hK K)|refine ca_ ?_ ?_|(refine cg_ ?_;first|refine cT_ hs ?_|refine cT_ hc ?_|refine cT_ hc ?_)|refine sz_ (UZ hg @aW.eq_1) ?_|refine nv ?_|(refine c2_ ?_ ?_<;>(intro hb hb';try(exfalso;omega)))|(exact aC _)|(exact GRead.el _)|(exact aC [_])|(exact GTape.el _)|exact bq_|fail)
    exact bH ⟨⟨1,_,rfl,rfl,by simp[eP,jk,GVal.kind,GVal.n,GVal.step,GVal.text,GVal.list,GVal.cols,GVal.rows]⟩,⟨_,rfl,by simp[eP,jk]⟩⟩
 ·have hkl:k=l.length:=by omega
  subst hkl;rw[p_]at hf;rw[hf,yD hf]
  repeat' (first|(refine rg_ ?_;intro K hK)|(refine hq_ ?_;clear hK K)|refine ca_ ?_ ?_|refine sz_ trivial ?_|refine nv ?_|(refine c2_ ?_ ?_<;>(intro hb hb';try(exfalso;omega)))|(exact aC _)|(exact GRead.el _)|(exact aC [_])|(exact GTape.el _)|exact bq_|fail)
  exact bH ⟨⟨1,_,rfl,rfl,by simp[eP,jk,GVal.kind,GVal.n,GVal.step,GVal.text,GVal.list,GVal.cols,GVal.rows]⟩,⟨_,rfl,by simp[eP,jk]⟩⟩
def uX :IC:=(zd_ [zz_ 3 (.box (.t 1)),zz_ 4 (.alloc [(.int .i64 0),(.int .i64 0),(.int .i64 0),(.string ⟨#[]⟩),(.slice none 0 0),(.slice none 0 0),(.slice none 0 0)]),zj_ 5 false] (.seq (zd_ [zk_ 6 0] (.block 0 (.loop (.seq (zd_ [zw_ 7 6,zw_ 8 0,zf_ 9 false 8,zl_ 10 .lss 7 9] (.cond (.t 10) .skip (.exit 0))) (.seq (.block 1 (.seq (.regN true false [] [zw_ 13 0,zw_ 14 6,ze_ 15 11 13 14,zr_ 16 11 15,zr_ 17 11 3,zp_ 18 99 16 17]) (.cond (.t 18) (zd_ [zw_ 19 0,zw_ 20 6,ze_ 21 11 19 20,zt_ 22 4 21,zr_ 23 7 22,zq_ 24 54 23,⟨none,none,.store 7 (.t 4) (.t 24)⟩,zj_ 5 true] .ret) .skip))) (.reg false [zw_ 11 6,zm_ 12 .add 11 1,zw_ 6 12])))))) (zd_ [zz_ 25 (.bld [(.int .i64 0),(.int .i64 0),(.int .i64 0),(.string ⟨#[]⟩),(.slice none 0 0),(.slice none 0 0),(.slice none 0 0)] []),⟨none,none,.store 7 (.t 4) (.t 25)⟩,zj_ 5 false] .ret)))
theorem yU :au Try.prog (Try.f90.body.getD .skip)=some uX:=by kernel_rfl
theorem EI(l:List GRead)(r:GRead)(hn:l.length≤4194304)(hw:∀x∈l,x.result.toD.wt≤1048576):aJ Try.prog 90 [.sl (l.map GRead.toD),r.toD] (.tup [(true,(qQ l r).toD.acs true),(false,[.raw (.bool (iU l r))])]):=by
 rw[GVal.aK];refine Dz (fn:=Try.f90) (r:= .cell 4 41) (q:= .tmp 5) (hc:=yU) (h:= ?_);unfold uX;refine zb_ ?_;change AWP _ _ _ (st0 26 _);refine sS trivial ?_
 repeat' (first|(refine hq_ ?_;clear hK K)|refine ca_ ?_ ?_|refine sz_ trivial ?_|refine nv ?_|(refine rD ?_;intro K hK)|(refine c2_ ?_ ?_<;>(intro hb hb';try(exfalso;omega)))|(exact aC _)|(exact GRead.el _)|(exact aC [_])|(exact GTape.el _)|exact bq_|fail)
 refine dN (X:=Nat) (fun q=> [.k,.d,.d,.k,.k,.d,.v (.c false [.raw (.int .i64 (q:Nat))])]) (fun q=> []) (fun q bs=> [[.raw (.int .i64 r.kind),.raw (.int .i64 r.n),.raw (.int .i64 r.time),.raw (.string r.text),.raw (.int .i64 r.result.kind),.raw (.int .i64 r.result.n),.raw (.int .i64 r.result.step),.raw (.string r.result.text),.sl false (r.result.list.map GVal.toD),.sl false (r.result.cols.map ls),.sl false (r.result.rows.map GRow.toD)],[.raw (.int .i64 0),.raw (.int .i64 0),.raw (.int .i64 0),.raw (.string ⟨#[]⟩),.raw (.slice none 0 0),.raw (.slice none 0 0),.raw (.slice none 0 0)]]) (fun q=>q≤l.length∧iU (l.take q) r=false) (fun q=>l.length - q) 0 ⟨j_ _,rfl⟩ ?_ ?_
 ·simp[dF,gJ,dG,dI,AV.fits,AC.fits,FB,dD]
 rintro k ⟨hk,hf⟩;simp only[FB,dD];by_cases hlk:k<l.length
 ·have hg:=dJ GRead.toD l hlk;have hs:=Ea l[k] r;have ht:=AP (r:=r) hlk;cases he:kC l[k] r with
  | false=>
    rw[he]at hs;rw[hf,he]at ht
    repeat' (first|(refine hq_ ?_;clear hK K)|refine ca_ ?_ ?_|(refine cg_ ?_;first|refine cT_ hs ?_)|refine sz_ (UZ hg @aW.eq_1) ?_|refine nv ?_|(refine rD ?_;intro K hK)|(refine c2_ ?_ ?_<;>(intro hb hb';try(exfalso;omega)))|(exact aC _)|(exact GRead.el _)|(exact aC [_])|(exact GTape.el _)|exact bq_|fail)
    refine eX (k+1) ?_ ⟨by omega,ht⟩ (show l.length - (k+1)<l.length - k by omega);simp[dF,gJ,dG,dI,AV.fits,AC.fits,FB,dD]
  | true=>
    rw[he]at hs;have hr:=Ho hlk he;have hc:=ou l[k].result (hw _ (i_ hlk));rw[GVal.aK]at hc;rw[hr,Dp hlk hf he]
    repeat' (first|(refine hq_ ?_;clear hK K)|refine ca_ ?_ ?_|(refine cg_ ?_;first|refine cT_ hs ?_|refine cT_ hc ?_|refine cT_ hc ?_)|refine sz_ (UZ hg @aW.eq_1) ?_|refine nv ?_|(refine rD ?_;intro K hK)|(refine c2_ ?_ ?_<;>(intro hb hb';try(exfalso;omega)))|(exact aC _)|(exact GRead.el _)|(exact aC [_])|(exact GTape.el _)|exact bq_|fail)
    exact bH ⟨⟨1,_,rfl,rfl,by simp[eP,jk,GVal.kind,GVal.n,GVal.step,GVal.text,GVal.list,GVal.cols,GVal.rows]⟩,⟨_,rfl,by simp[eP,jk]⟩⟩
 ·have hkl:k=l.length:=by omega
  subst hkl;rw[p_]at hf;rw[hf,yD hf]
  repeat' (first|(refine hq_ ?_;clear hK K)|refine ca_ ?_ ?_|refine sz_ trivial ?_|refine nv ?_|(refine rD ?_;intro K hK)|(refine c2_ ?_ ?_<;>(intro hb hb';try(exfalso;omega)))|(exact aC _)|(exact GRead.el _)|(exact aC [_])|(exact GTape.el _)|exact bq_|fail)
  exact bH ⟨⟨1,_,rfl,rfl,by simp[eP,jk,GVal.kind,GVal.n,GVal.step,GVal.text,GVal.list,GVal.cols,GVal.rows]⟩,⟨_,rfl,by simp[eP,jk]⟩⟩
def uV :IC:=(zd_ [zz_ 2 (.mov (.k (.slice none 0 0)))] (zd_ [zz_ 5 (.brow true 70 11 0 false []),zw_ 3 5] (.seq (zd_ [zk_ 4 0] (.block 0 (.loop (.seq (zd_ [zw_ 6 4,zw_ 7 0,zf_ 8 false 7,zl_ 9 .lss 6 8] (.cond (.t 9) .skip (.exit 0))) (.seq (.block 1 (.reg false [zw_ 12 3,zw_ 13 0,zw_ 14 4,ze_ 15 11 13 14,zr_ 16 11 15,zq_ 17 72 16,zz_ 18 (.brow false 70 11 1 false [(.t 17)]),zz_ 19 (.app 70 11 (.t 12) (.t 18)),zw_ 3 19])) (.reg false [zw_ 10 4,zm_ 11 .add 10 1,zw_ 4 11])))))) (zd_ [zw_ 20 3,zw_ 2 20] .ret))))
theorem yT :au Try.prog (Try.f38.body.getD .skip)=some uV:=by kernel_rfl
theorem Ew(l:List GRead)(hn:l.length≤1048576)(hw:D.wts (l.map GRead.toD)≤1048576):mD Try.prog 38 [.sl (l.map GRead.toD)] (l.map rdF) 70 11:=by
 refine xG (fn:=Try.f38) (t:=2) (hc:=yT) (h:= ?_);unfold uV;refine zb_ ?_;change AWP _ _ _ (st0 21 _);refine sS trivial ?_
 repeat' (first|(refine rg_ ?_;intro K hK)|(refine hq_ ?_;clear hK K)|refine ca_ ?_ ?_|refine sz_ trivial ?_|refine nv ?_|(refine c2_ ?_ ?_<;>(intro hb hb';try(exfalso;omega)))|(exact GTape.el _)|exact bq_|fail)
 refine dN (X:=Nat×Nat) (fun q=> [.k,.d,.d,.v (.c false [.own 0 q.2]),.v (.c false [.raw (.int .i64 (q.1:Nat))])]) (fun q=> [⟨(l.take q.1).map rdF,70,11,q.2,true⟩]) (fun q bs=> []) (fun q=>q.1≤l.length) (fun q=>l.length - q.1) (0,0) (j_ _) ?_ ?_
 ·simp[dF,gJ,dG,dI,AV.fits,AC.fits,FB,dD]
 rintro⟨k,v⟩ hk;have hk':k≤l.length:=hk;clear hk;simp only[FB,dD];by_cases hlk:k<l.length
 ·have hc:=tK l[k] (nU (i_ hlk) hw);rw[GRead.aK]at hc;have hs:=eU l hlk;have hg:=dJ GRead.toD l hlk
  repeat' (first|(refine rg_ ?_;intro K hK)|(refine hq_ ?_;clear hK K)|refine ca_ ?_ ?_|(refine cg_ ?_;first|refine cT_ hc ?_)|refine sz_ hg ?_|refine nv ?_|(refine c2_ ?_ ?_<;>(intro hb hb';try(exfalso;omega)))|(exact GTape.el _)|exact bq_|fail)
  all_goals first
   |exact aC _
   |exact GRead.el _
   |(simp only[b_,f_,a_,g_,c_];omega)
   | (refine eX (k+1,v+1) ?_ (show k+1≤l.length by omega) (show l.length - (k+1)<l.length - k by omega)
      simp[dF,gJ,dG,dI,AV.fits,AC.fits,FB,dD,hs,pF, -w_])
 ·obtain rfl:k=l.length:=by omega
  rw[p_]
  repeat' (first|(refine rg_ ?_;intro K hK)|(refine hq_ ?_;clear hK K)|refine ca_ ?_ ?_|refine sz_ trivial ?_|refine nv ?_|(refine c2_ ?_ ?_<;>(intro hb hb';try(exfalso;omega)))|(exact GTape.el _)|exact bq_|fail)
  exact bH ⟨0,_,_,rfl,rfl,rfl,rfl,rfl,rfl,m_ rfl⟩
def sN :IC:=(zd_ [zz_ 4 (.mov (.k (.slice none 0 0)))] (zd_ [zw_ 10 0,zq_ 11 41 10,zw_ 5 11] (.seq (zd_ [zw_ 12 1,zf_ 13 false 12,zk_ 14 0] (.block 0 (.loop (zd_ [zl_ 15 .lss 14 13] (.seq (.cond (.t 15) .skip (.exit 0)) (.seq (.block 1 (zd_ [ze_ 16 11 12 14,zr_ 17 11 16,zz_ 7 (.alloc [(.int .i64 0),(.int .i64 0),(.int .i64 0),(.string ⟨#[]⟩),(.int .i64 0),(.int .i64 0),(.int .i64 0),(.string ⟨#[]⟩),(.slice none 0 0),(.slice none 0 0),(.slice none 0 0)]),⟨none,none,.store 11 (.t 7) (.t 17)⟩] (zd_ [zw_ 19 5,zr_ 20 11 7,zp_ 21 91 19 20,zw_ 18 21,zz_ 22 (.ext 0 (.t 18)),zz_ 23 (.ext 1 (.t 18)),zz_ 8 (.alloc [(.int .i64 0),(.int .i64 0),(.int .i64 0),(.string ⟨#[]⟩),(.slice none 0 0),(.slice none 0 0),(.slice none 0 0)]),⟨none,none,.store 7 (.t 8) (.t 22)⟩,zw_ 9 23] (zd_ [zw_ 24 9,zz_ 25 (.not (.t 24))] (.cond (.t 25) (.reg false [zw_ 26 5,zr_ 27 11 7,zz_ 28 (.brow false 70 11 1 false [(.t 27)]),zq_ 29 41 28,zz_ 30 (.app 70 11 (.t 26) (.t 29)),zw_ 5 30]) .skip))))) (.reg false [zm_ 31 .add 14 1,zw_ 14 31]))))))) (zd_ [zw_ 32 5,zw_ 4 32] .ret))))
theorem xg :au Try.prog (Try.f70.body.getD .skip)=some sN:=by kernel_rfl
theorem uM(tape reads:List GRead)(hn:tape.length≤1048576)(hw:D.wts (tape.map GRead.toD)≤1048576)(hm:reads.length≤1048576)(hv:D.wts (reads.map GRead.toD)≤1048576):dH Try.prog 70 [.sl (tape.map GRead.toD),.sl (reads.map GRead.toD)] (.c false [.own 0 0]) [⟨(bK tape reads).map GRead.toD,70,11,0,⟨true,true⟩⟩]:=by
 have hc0:=oC tape hn hw;have hb:∀k,(bK tape (reads.take k)).length≤2097152:=fun k=>by
  have h2:=Ag (reads.take k) tape;rw[c_]at h2;omega
 have hbw:∀k,∀x∈bK tape (reads.take k),x.result.toD.wt≤1048576:=fun k x hx=>by
  rcases Af hx with h|h
  ·exact nU h hw
  ·exact nU (e_ h) hv
 refine gu (fn:=Try.f70) (r:= .tmp 4) (hc:=xg) (h:= ?_);unfold sN;refine zb_ ?_;change AWP _ _ _ (st0 33 _);refine sS trivial ?_
 repeat' (first|(refine rg_ ?_;intro K hK)|(refine hq_ ?_;clear hK K)|refine ca_ ?_ ?_|(refine cg_ ?_;first|(refine gW hc0 rfl (by simp) ?_ ?_))|refine sz_ @aW.eq_1 ?_|refine nv ?_|(refine c2_ ?_ ?_<;>(intro hb hb';try(exfalso;omega)))|(exact aC _)|(exact GRead.el _)|(exact aC [_])|(exact GTape.el _)|exact bq_|fail)
 refine dN (X:=Nat×Nat) (fun q=> [.d,.d,.d,.d,.d,.v (.c false [.own 0 q.2]),.d,.d,.d,.d,.d,.d,.k,.k,.v (.c false [.raw (.int .i64 (q.1:Nat))])]) (fun q=> [⟨(bK tape (reads.take q.1)).map GRead.toD,70,11,q.2,⟨true,true⟩⟩]) (fun q bs=> []) (fun q=>q.1≤reads.length) (fun q=>reads.length - q.1) (0,0) (j_ _) ?_ ?_
 ·simp[dF,gJ,dG,dI,AV.fits,AC.fits,FB,dD]
  try rfl
 rintro⟨k,v⟩ hk;have hk':k≤reads.length:=hk;clear hk;simp only[FB,dD];by_cases hlk:k<reads.length
 ·have hg:=dJ GRead.toD reads hlk;have hfd:aJ Try.prog 91 [.sl ((bK tape (reads.take k)).map GRead.toD),reads[k].toD] (.tup [(true,(qQ (bK tape (reads.take k)) reads[k]).toD.acs true),(false,[.raw (.bool (iU (bK tape (reads.take k)) reads[k]))])]):=EJ (bK tape (reads.take k)) reads[k] (by have:=hb k;omega) (hbw k);rw[GVal.aK]at hfd;have hc1:=(oC [reads[k]] (by simp) (by simp only[y_,s_,D.wts];have:=D.jW (List.mem_map_of_mem (f:=GRead.toD) (i_ hlk));omega)).args (ds':= [.sl ([reads[k]].map rdF)]) (fun w vs h=>Oy h);simp only[y_,s_,pF]at hc1;have hmt:=yu (tape:=tape) hlk;have hbk:=hb k;cases hf:iU (bK tape (reads.take k)) reads[k]with
  | true=>
    rw[hf]at hfd;rw[hf,if_pos rfl]at hmt
    repeat' (first|(refine rg_ ?_;intro K hK)|(refine hq_ ?_;clear hK K)|refine ca_ ?_ ?_|(refine cg_ ?_;first|refine cT_ hfd ?_|(refine gW hc1 rfl (by simp) ?_ ?_))|refine sz_ (a3_ hg hfd @aW.eq_1) ?_|refine nv ?_|(refine c2_ ?_ ?_<;>(intro hb hb';try(exfalso;omega)))|(exact aC _)|(exact GRead.el _)|(exact aC [_])|(exact GTape.el _)|exact bq_|fail)
    all_goals first
     |(simp only[b_,f_,a_,g_,c_];omega)
     | (refine eX (k+1,v) ?_ (show k+1≤reads.length by omega) (show reads.length - (k+1)<reads.length - k by omega)
        simp[dF,gJ,dG,dI,AV.fits,AC.fits,FB,dD,hmt])
  | false=>
    rw[hf]at hfd;rw[hf]at hmt;simp only[Bool.false_eq_true,if_false]at hmt
    repeat' (first|(refine rg_ ?_;intro K hK)|(refine hq_ ?_;clear hK K)|refine ca_ ?_ ?_|(refine cg_ ?_;first|refine cT_ hfd ?_|(refine gW hc1 rfl (by simp) ?_ ?_))|refine sz_ (a3_ hg hfd @aW.eq_1) ?_|refine nv ?_|(refine c2_ ?_ ?_<;>(intro hb hb';try(exfalso;omega)))|(exact aC _)|(exact GRead.el _)|(exact aC [_])|(exact GTape.el _)|exact bq_|fail)
    all_goals first
     |(simp only[b_,f_,a_,g_,c_];omega)
     |exact aC _
     |exact GRead.fK _
     |exact GRead.sz_eq _
     |exact aC [_]
     |exact GRead.el _
     | (refine eX (k+1,v+1) ?_ (show k+1≤reads.length by omega) (show reads.length - (k+1)<reads.length - k by omega)
        simp[dF,gJ,dG,dI,AV.fits,AC.fits,FB,dD,hmt,pF,GRead.aj,li,ls])
 ·obtain rfl:k=reads.length:=by omega
  rw[p_]
  repeat' (first|(refine rg_ ?_;intro K hK)|(refine hq_ ?_;clear hK K)|refine ca_ ?_ ?_|refine sz_ @aW.eq_1 ?_|refine nv ?_|(refine c2_ ?_ ?_<;>(intro hb hb';try(exfalso;omega)))|(exact aC _)|(exact GRead.el _)|(exact aC [_])|(exact GTape.el _)|exact bq_|fail)
  exact bH ⟨[0],by simp,⟨⟨_,rfl,rfl,m_ ⟨rfl,rfl⟩⟩,trivial⟩,⟨_,rfl,by simp[gB,jy]⟩⟩
def sK :IC:=(zd_ [zz_ 4 (.mov (.k (.slice none 0 0)))] (zd_ [zw_ 9 0,zq_ 10 38 9,zw_ 5 10] (.seq (zd_ [zk_ 6 0] (.block 0 (.loop (.seq (zd_ [zw_ 11 6,zw_ 12 1,zf_ 13 false 12,zl_ 14 .lss 11 13] (.cond (.t 14) .skip (.exit 0))) (.seq (.block 1 (zd_ [zw_ 18 5,zw_ 19 1,zw_ 20 6,ze_ 21 11 19 20,zr_ 22 11 21,zp_ 23 90 18 22,zw_ 17 23,zz_ 24 (.ext 0 (.t 17)),zz_ 25 (.ext 1 (.t 17)),zz_ 7 (.alloc [(.int .i64 0),(.int .i64 0),(.int .i64 0),(.string ⟨#[]⟩),(.slice none 0 0),(.slice none 0 0),(.slice none 0 0)]),⟨none,none,.store 7 (.t 7) (.t 24)⟩,zw_ 8 25] (zd_ [zw_ 26 8,zz_ 27 (.not (.t 26))] (.cond (.t 27) (.reg false [zw_ 28 5,zw_ 29 1,zw_ 30 6,ze_ 31 11 29 30,zr_ 32 11 31,zq_ 33 72 32,zz_ 34 (.brow false 70 11 1 false [(.t 33)]),zz_ 35 (.app 70 11 (.t 28) (.t 34)),zw_ 5 35]) .skip)))) (.reg false [zw_ 15 6,zm_ 16 .add 15 1,zw_ 6 16])))))) (zd_ [zw_ 36 5,zw_ 4 36] .ret))))
theorem wZ :au Try.prog (Try.f66.body.getD .skip)=some sK:=by kernel_rfl
theorem uK(tape reads:List GRead)(hn:tape.length≤1048576)(hw:D.wts (tape.map GRead.toD)≤1048576)(hm:reads.length≤1048576)(hv:D.wts (reads.map GRead.toD)≤1048576):aJ Try.prog 66 [.sl (tape.map GRead.toD),.sl (reads.map GRead.toD)] (.c false [.sl true ((bK tape reads).map GRead.toD)]):=by
 have hc0:=Ew tape hn hw;have hb:∀k,(bK tape (reads.take k)).length≤2097152:=fun k=>by
  have h2:=Ag (reads.take k) tape;rw[c_]at h2;omega
 have hbw:∀k,∀x∈bK tape (reads.take k),x.result.toD.wt≤1048576:=fun k x hx=>by
  rcases Af hx with h|h
  ·exact nU h hw
  ·exact nU (e_ h) hv
 refine aJ.Q9 (g:=GRead.toD) (show aJ _ _ _ (.c false [.sl true ((bK tape reads).map rdF)]) from ?_);refine gQ (fn:=Try.f66) (t:=4) (hc:=wZ) (h:= ?_);unfold sK;refine zb_ ?_;change AWP _ _ _ (st0 37 _);refine sS trivial ?_
 repeat' (first|(refine rg_ ?_;intro K hK)|(refine hq_ ?_;clear hK K)|refine ca_ ?_ ?_|(refine cg_ ?_;first|(refine vN hc0 (aC _) ?_ ?_))|refine sz_ @aW.eq_1 ?_|refine nv ?_|(refine c2_ ?_ ?_<;>(intro hb hb';try(exfalso;omega)))|(exact aC _)|(exact GRead.el _)|(exact aC [_])|(exact GTape.el _)|exact bq_|fail)
 refine dN (X:=Nat×Nat) (fun q=> [.d,.k,.d,.d,.d,.v (.c false [.own 0 q.2]),.v (.c false [.raw (.int .i64 (q.1:Nat))])]) (fun q=> [⟨(bK tape (reads.take q.1)).map rdF,70,11,q.2,⟨true,false⟩⟩]) (fun q bs=> []) (fun q=>q.1≤reads.length) (fun q=>reads.length - q.1) (0,0) (j_ _) ?_ ?_
 ·simp[dF,gJ,dG,dI,AV.fits,AC.fits,FB,dD]
  try rfl
 rintro⟨k,v⟩ hk;have hk':k≤reads.length:=hk;clear hk;simp only[FB,dD];by_cases hlk:k<reads.length
 ·have hg:=dJ GRead.toD reads hlk;have hfd:aJ Try.prog 90 [.sl ((bK tape (reads.take k)).map rdF),reads[k].toD] (.tup [(true,(qQ (bK tape (reads.take k)) reads[k]).toD.acs true),(false,[.raw (.bool (iU (bK tape (reads.take k)) reads[k]))])]):=(EI (bK tape (reads.take k)) reads[k] (by have:=hb k;omega) (hbw k)).argsR (fun w vs h=>Oy h);rw[GVal.aK]at hfd;have hc1:=tK reads[k] (nU (i_ hlk) hv);rw[GRead.aK]at hc1;have hmt:=yu (tape:=tape) hlk;have hbk:=hb k;cases hf:iU (bK tape (reads.take k)) reads[k]with
  | true=>
    rw[hf]at hfd;rw[hf,if_pos rfl]at hmt
    repeat' (first|(refine rg_ ?_;intro K hK)|(refine hq_ ?_;clear hK K)|refine ca_ ?_ ?_|(refine cg_ ?_;first|refine cT_ hfd ?_|refine cT_ hc1 ?_)|refine sz_ (a3_ hg hfd @aW.eq_1) ?_|refine nv ?_|(refine c2_ ?_ ?_<;>(intro hb hb';try(exfalso;omega)))|(exact aC _)|(exact GRead.el _)|(exact aC [_])|(exact GTape.el _)|exact bq_|fail)
    all_goals first
     |(simp only[b_,f_,a_,g_,c_];omega)
     | (refine eX (k+1,v) ?_ (show k+1≤reads.length by omega) (show reads.length - (k+1)<reads.length - k by omega)
        simp[dF,gJ,dG,dI,AV.fits,AC.fits,FB,dD,hmt])
  | false=>
    rw[hf]at hfd;rw[hf]at hmt;simp only[Bool.false_eq_true,if_false]at hmt
    repeat' (first|(refine rg_ ?_;intro K hK)|(refine hq_ ?_;clear hK K)|refine ca_ ?_ ?_|(refine cg_ ?_;first|refine cT_ hfd ?_|refine cT_ hc1 ?_)|refine sz_ (a3_ hg hfd @aW.eq_1) ?_|refine nv ?_|(refine c2_ ?_ ?_<;>(intro hb hb';try(exfalso;omega)))|(exact aC _)|(exact GRead.el _)|(exact aC [_])|(exact GTape.el _)|exact bq_|fail)
    all_goals first
     |(simp only[b_,f_,a_,g_,c_];omega)
     |exact aC _
     |exact GRead.fK _
     |exact GRead.sz_eq _
     |exact aC [_]
     |exact GRead.el _
     | (refine eX (k+1,v+1) ?_ (show k+1≤reads.length by omega) (show reads.length - (k+1)<reads.length - k by omega)
        simp[dF,gJ,dG,dI,AV.fits,AC.fits,FB,dD,hmt,pF,GRead.aj,li,ls])
 ·obtain rfl:k=reads.length:=by omega
  rw[p_]
  repeat' (first|(refine rg_ ?_;intro K hK)|(refine hq_ ?_;clear hK K)|refine ca_ ?_ ?_|refine sz_ @aW.eq_1 ?_|refine nv ?_|(refine c2_ ?_ ?_<;>(intro hb hb';try(exfalso;omega)))|(exact aC _)|(exact GRead.el _)|(exact aC [_])|(exact GTape.el _)|exact bq_|fail)
  exact bH ⟨_,rfl,⟨_,rfl,rfl,rfl,m_ rfl⟩,trivial⟩
def xH(a b:GTape):Bool:=decide (a.cell<b.cell)||(a.cell==b.cell && decide (a.ver<b.ver))
def wY(x:GTape)(l:List GTape):Nat:=(l.takeWhile fun y=> !xH x y).length
theorem uO{x:GTape}:∀{l:List GTape} {k:Nat},k≤l.length→(∀(j:Nat) (h:j<l.length),j<k→xH x l[j]=false)→(∀h:k<l.length,xH x l[k]=true)→wY x l=k
 | [],k,hk,_,_=>by simp at hk;subst hk;rfl
 | y::l,0,_,_,h2=>by
   have h3:=h2 (by simp);simp at h3;unfold wY;rw[P_,h3];rfl
 | y::l,k+1,hk,h1,h2=>by
   have h3:=h1 0 (by simp) (by omega);simp at h3;have ih:=uO (x:=x) (l:=l) (k:=k) (by simpa using hk) (fun j h hj=>by have h9:=h1 (j+1) (by rw[a_];omega) (by omega);rw[L_]at h9;exact h9) (fun h=>by have h9:=h2 (by rw[a_];omega);rw[L_]at h9;exact h9);unfold wY at ih⊢;rw[P_,h3];simp[ih]
def uJ(c v:Int)(reads:List GRead):GTape:=⟨c,v,bK [] reads⟩
def lg(l:List GTape)(c v:Int)(reads:List GRead):List GTape:=match jR (tpP c v) l 0 with
 | .ofNat k=>(match l[k]? with|some t=>l.set k ⟨t.cell,t.ver,bK t.reads reads⟩|none=>l)
 | .negSucc _=>if reads.length=0 then l else l.take (wY (uJ c v reads) l)++ [uJ c v reads]++l.drop (wY (uJ c v reads) l)
theorem Jf{l:List GTape}{c v:Int}{reads:List GRead}{k:Nat}(h:k<l.length)(h1:jR (tpP c v) l 0=(k:Int)):lg l c v reads=l.set k ⟨l[k].cell,l[k].ver,bK l[k].reads reads⟩:=by
 unfold lg;rw[h1,show((k:Nat):Int)=Int.ofNat k from rfl];simp only[n_ h]
theorem Jg{l:List GTape}{c v:Int}{reads:List GRead}(h1:jR (tpP c v) l 0= -1)(h2:reads.length=0):lg l c v reads=l:=by
 unfold lg;rw[h1,show(-1:Int)=Int.negSucc 0 from rfl];simp only[h2,if_true]
theorem Je{l:List GTape}{c v:Int}{reads:List GRead}(h1:jR (tpP c v) l 0= -1)(h2:¬reads.length=0):lg l c v reads=l.take (wY (uJ c v reads) l)++ [uJ c v reads]++l.drop (wY (uJ c v reads) l):=by
 unfold lg;rw[h1,show(-1:Int)=Int.negSucc 0 from rfl];simp only[h2,if_false]
def vw :IC:=(zd_ [zz_ 2 (.box (.t 0)),zz_ 3 (.box (.t 1)),zj_ 4 false] (zd_ [zt_ 5 0 2,zs_ 6 1 5,zt_ 7 0 3,zs_ 8 1 7,zl_ 9 .lss 6 8,zw_ 10 9,zx_ 11 10 (.fad 0 (.t 2)),zx_ 12 10 (.load 1 false (.t 11)),zx_ 13 10 (.fad 0 (.t 3)),zx_ 14 10 (.load 1 false (.t 13)),zx_ 15 10 (.bin .eql (.t 12) (.t 14)),zu_ 16 10 15,zy_ 17 16 (.fad 1 (.t 2)),zy_ 18 16 (.load 1 false (.t 17)),zy_ 19 16 (.fad 1 (.t 3)),zy_ 20 16 (.load 1 false (.t 19)),zy_ 21 16 (.bin .lss (.t 18) (.t 20)),zx_ 22 10 (.pick (.t 16) (.t 21) (.k (.bool false))),zg_ 23 10 true 22,zw_ 4 23] .ret))
theorem yZ :au Try.prog (Try.f71.body.getD .skip)=some vw:=by kernel_rfl
theorem EW(x y:GTape):aJ Try.prog 71 [x.toD,y.toD] (.c false [.raw (.bool (xH x y))]):=by
 have hr:∀{a b c:Bool},decide (x.cell<y.cell)=a→(x.cell==y.cell)=b→decide (x.ver<y.ver)=c→xH x y=(a ||(b && c)):=fun h1 h2 h3=>by unfold xH;rw[h1,h2,h3]
 refine gQ (fn:=Try.f71) (t:=4) (hc:=yZ) (h:= ?_);unfold vw;refine zb_ ?_;change AWP _ _ _ (st0 24 _);refine sS trivial ?_;cases h1:decide (x.cell<y.cell)<;>cases h2:(x.cell==y.cell)<;>cases h3:decide (x.ver<y.ver)
 all_goals
  rw[hr h1 h2 h3]
  repeat' (first|(refine rg_ ?_;intro K hK)|(refine hq_ ?_;clear hK K)|refine ca_ ?_ ?_|refine gq_ ?_|(refine c2_ ?_ ?_<;>(intro hb hb';try(exfalso;omega)))|refine sz_ (a3_ h1 h2 h3) ?_|refine nv ?_|(exact aC _)|(exact GRead.el _)|(exact aC [_])|(exact GTape.el _)|exact bq_|fail)
  exact bH ⟨_,rfl,rfl,trivial⟩
def vg :IC:=(zd_ [zz_ 2 (.box (.t 0)),zz_ 3 (.box (.t 1)),zj_ 4 false] (zd_ [zt_ 5 0 2,zs_ 6 1 5,zt_ 7 0 3,zs_ 8 1 7,zl_ 9 .lss 6 8,zw_ 10 9,zx_ 11 10 (.fad 0 (.t 2)),zx_ 12 10 (.load 1 false (.t 11)),zx_ 13 10 (.fad 0 (.t 3)),zx_ 14 10 (.load 1 false (.t 13)),zx_ 15 10 (.bin .eql (.t 12) (.t 14)),zu_ 16 10 15,zy_ 17 16 (.fad 1 (.t 2)),zy_ 18 16 (.load 1 false (.t 17)),zy_ 19 16 (.fad 1 (.t 3)),zy_ 20 16 (.load 1 false (.t 19)),zy_ 21 16 (.bin .lss (.t 18) (.t 20)),zx_ 22 10 (.pick (.t 16) (.t 21) (.k (.bool false))),zg_ 23 10 true 22,zw_ 4 23] .ret))
theorem yY :au Try.prog (Try.f67.body.getD .skip)=some vg:=by kernel_rfl
theorem EU(x y:GTape):aJ Try.prog 67 [x.toD,y.toD] (.c false [.raw (.bool (xH x y))]):=by
 have hr:∀{a b c:Bool},decide (x.cell<y.cell)=a→(x.cell==y.cell)=b→decide (x.ver<y.ver)=c→xH x y=(a ||(b && c)):=fun h1 h2 h3=>by unfold xH;rw[h1,h2,h3]
 refine gQ (fn:=Try.f67) (t:=4) (hc:=yY) (h:= ?_);unfold vg;refine zb_ ?_;change AWP _ _ _ (st0 24 _);refine sS trivial ?_;cases h1:decide (x.cell<y.cell)<;>cases h2:(x.cell==y.cell)<;>cases h3:decide (x.ver<y.ver)
 all_goals
  rw[hr h1 h2 h3]
  repeat' (first|(refine rg_ ?_;intro K hK)|(refine hq_ ?_;clear hK K)|refine ca_ ?_ ?_|refine gq_ ?_|(refine c2_ ?_ ?_<;>(intro hb hb';try(exfalso;omega)))|refine sz_ (a3_ h1 h2 h3) ?_|refine nv ?_|(exact aC _)|(exact GRead.el _)|(exact aC [_])|(exact GTape.el _)|exact bq_|fail)
  exact bH ⟨_,rfl,rfl,trivial⟩
def yC :IC:=(zd_ [zz_ 2 (.mov (.k (.slice none 0 0)))] (zd_ [zz_ 6 (.brow true 66 3 0 false []),zw_ 3 6] (.seq (zd_ [zw_ 7 0,zf_ 8 false 7,zk_ 9 0] (.block 0 (.loop (zd_ [zl_ 10 .lss 9 8] (.seq (.cond (.t 10) .skip (.exit 0)) (.seq (.block 1 (zd_ [ze_ 11 3 7 9,zr_ 12 3 11,zz_ 5 (.alloc [(.int .i64 0),(.int .i64 0),(.slice none 0 0)]),⟨none,none,.store 3 (.t 5) (.t 12)⟩] (.regN true true [] [zw_ 13 3,zt_ 14 0 5,zs_ 15 1 14,zt_ 16 1 5,zs_ 17 1 16,zt_ 18 2 5,zs_ 19 1 18,zq_ 20 41 19,zz_ 21 (.bld [(.int .i64 0),(.int .i64 0),(.slice none 0 0)] [(0,1,(.t 15)),(1,1,(.t 17)),(2,1,(.t 20))]),zz_ 22 (.brow false 66 3 1 false [(.t 21)]),zz_ 23 (.app 66 3 (.t 13) (.t 22)),zw_ 3 23]))) (.reg false [zm_ 24 .add 9 1,zw_ 9 24]))))))) (zd_ [zw_ 25 3,zw_ 2 25] .ret))))
theorem Az :au Try.prog (Try.f69.body.getD .skip)=some yC:=by kernel_rfl
theorem tZ(l:List GTape)(hn:l.length≤1048576)(hw:D.wts (l.map GTape.toD)≤1048576):dH Try.prog 69 [.sl (l.map GTape.toD)] (.c false [.own 0 0]) [⟨l.map GTape.toD,66,3,0,⟨true,true⟩⟩]:=by
 refine gu (fn:=Try.f69) (r:= .tmp 2) (hc:=Az) (h:= ?_);unfold yC;refine zb_ ?_;change AWP _ _ _ (st0 26 _);refine sS trivial ?_
 repeat' (first|(refine hq_ ?_;clear hK K)|refine ca_ ?_ ?_|refine sz_ trivial ?_|refine nv ?_|(refine rD ?_;intro K hK)|(refine c2_ ?_ ?_<;>(intro hb hb';try(exfalso;omega)))|(exact aC _)|(exact GRead.el _)|(exact aC [_])|(exact GTape.el _)|exact bq_|fail)
 refine vP 0 (KP rfl wV) rfl ?_;simp only[Jk,I_,X_];refine dN (X:=Nat×Nat) (fun q=> [.d,.d,.d,.v (.c false [.own 0 q.2]),.d,.d,.d,.k,.k,.v (.c false [.raw (.int .i64 (q.1:Nat))])]) (fun q=> [⟨(l.take q.1).map GTape.toD,66,3,q.2,⟨true,true⟩⟩]) (fun q bs=> []) (fun q=>q.1≤l.length) (fun q=>l.length - q.1) (0,0) (j_ _) ?_ ?_
 ·simp[dF,gJ,dG,dI,AV.fits,AC.fits,FB,dD]
 rintro⟨k,v⟩ hk;have hk':k≤l.length:=hk;clear hk;simp only[FB,dD];by_cases hlk:k<l.length
 ·have htw:=nS (i_ hlk) hw;have hc:=oC l[k].reads (by omega) (by omega);have hs:=eU l hlk;have hg:=dJ GTape.toD l hlk
  repeat' (first|(refine rg_ ?_;intro K hK)|((first|(refine xI 100 (by simp[qE,St.ev]) ?_)|(with_reducible refine o7 100 true AU ?_)|(refine o7 100 true (by simp[qE,St.ev]) ?_));intro K hK)|refine nN ?_|(refine hq_ ?_;clear hK K)|refine ca_ ?_ ?_|(refine cg_ ?_;first|(refine QJ (h:=hc.xe) (hK:= ?_);rintro _ _ ⟨rfl,rfl⟩))|((with_reducible refine IY ?_);first|(refine Uj (h:=hc.xe) (hne:=⟨_,_,⟨rfl,rfl⟩,rfl⟩) (hr:= ?_);rintro _ _ ⟨rfl,rfl⟩))|refine sz_ (UZ hg @aW.eq_1) ?_|refine nv ?_|(refine c2_ ?_ ?_<;>(intro hb hb';try(exfalso;omega)))|(exact aC _)|(exact GRead.el _)|(exact aC [_])|(exact GTape.el _)|exact bq_|fail)
  all_goals first
   |exact GTape.el _
   |exact GTape.el [_]
   |(simp only[b_,f_,a_,g_,c_];omega)
   | (refine eX (k+1,v+1) ?_ (show k+1≤l.length by omega) (show l.length - (k+1)<l.length - k by omega)
      simp[dF,gJ,dG,dI,AV.fits,AC.fits,FB,dD,hs,GTape.aj,li,ls, -w_])
 ·obtain rfl:k=l.length:=by omega
  rw[p_]
  repeat' (first|(refine hq_ ?_;clear hK K)|refine ca_ ?_ ?_|refine sz_ trivial ?_|refine nv ?_|(refine rD ?_;intro K hK)|(refine c2_ ?_ ?_<;>(intro hb hb';try(exfalso;omega)))|(exact aC _)|(exact GRead.el _)|(exact aC [_])|(exact GTape.el _)|exact bq_|fail)
  exact bH ⟨[0],by simp,⟨⟨_,rfl,rfl,m_ ⟨rfl,rfl⟩⟩,trivial⟩,⟨_,rfl,by simp[gB,jy]⟩⟩
def yB :IC:=(zd_ [zz_ 2 (.mov (.k (.slice none 0 0)))] (zd_ [zz_ 5 (.brow true 66 3 0 false []),zw_ 3 5] (.seq (zd_ [zk_ 4 0] (.block 0 (.loop (.seq (zd_ [zw_ 6 4,zw_ 7 0,zf_ 8 false 7,zl_ 9 .lss 6 8] (.cond (.t 9) .skip (.exit 0))) (.seq (.block 1 (.regN true true [] [zw_ 12 3,zw_ 13 0,zw_ 14 4,ze_ 15 3 13 14,zt_ 16 0 15,zs_ 17 1 16,zw_ 18 0,zw_ 19 4,ze_ 20 3 18 19,zt_ 21 1 20,zs_ 22 1 21,zw_ 23 0,zw_ 24 4,ze_ 25 3 23 24,zt_ 26 2 25,zs_ 27 1 26,zq_ 28 38 27,zz_ 29 (.bld [(.int .i64 0),(.int .i64 0),(.slice none 0 0)] [(0,1,(.t 17)),(1,1,(.t 22)),(2,1,(.t 28))]),zz_ 30 (.brow false 66 3 1 false [(.t 29)]),zz_ 31 (.app 66 3 (.t 12) (.t 30)),zw_ 3 31])) (.reg false [zw_ 10 4,zm_ 11 .add 10 1,zw_ 4 11])))))) (zd_ [zw_ 32 3,zw_ 2 32] .ret))))
theorem Aw :au Try.prog (Try.f65.body.getD .skip)=some yB:=by kernel_rfl
theorem tY(l:List GTape)(hn:l.length≤1048576)(hw:D.wts (l.map GTape.toD)≤1048576):mD Try.prog 65 [.sl (l.map GTape.toD)] (l.map GTape.toD) 66 3:=by
 refine xG (fn:=Try.f65) (t:=2) (hc:=Aw) (h:= ?_);unfold yB;refine zb_ ?_;change AWP _ _ _ (st0 33 _);refine sS trivial ?_
 repeat' (first|(refine hq_ ?_;clear hK K)|refine ca_ ?_ ?_|refine sz_ trivial ?_|refine nv ?_|(refine rD ?_;intro K hK)|(refine c2_ ?_ ?_<;>(intro hb hb';try(exfalso;omega)))|(exact aC _)|(exact GRead.el _)|(exact aC [_])|(exact GTape.el _)|exact bq_|fail)
 refine dN (X:=Nat×Nat) (fun q=> [.k,.d,.d,.v (.c false [.own 0 q.2]),.v (.c false [.raw (.int .i64 (q.1:Nat))])]) (fun q=> [⟨(l.take q.1).map GTape.toD,66,3,q.2,true⟩]) (fun q bs=> []) (fun q=>q.1≤l.length) (fun q=>l.length - q.1) (0,0) (j_ _) ?_ ?_
 ·simp[dF,gJ,dG,dI,AV.fits,AC.fits,FB,dD]
 rintro⟨k,v⟩ hk;have hk':k≤l.length:=hk;clear hk;simp only[FB,dD];by_cases hlk:k<l.length
 ·have htw:=nS (i_ hlk) hw;have hc:=yx l[k].reads (by omega) (by omega);have hs:=eU l hlk;have hg:=dJ GTape.toD l hlk
  repeat' (first|(refine rg_ ?_;intro K hK)|((first|(refine xI 100 (by simp[qE,St.ev]) ?_)|(with_reducible refine o7 100 true AU ?_)|(refine o7 100 true (by simp[qE,St.ev]) ?_));intro K hK)|refine nN ?_|(refine hq_ ?_;clear hK K)|refine ca_ ?_ ?_|(refine cg_ ?_;first|refine cT_ hc ?_)|((with_reducible refine IY ?_);first|refine UO (hc:=hc) (h:= ?_))|refine sz_ (UZ hg @aW.eq_1) ?_|refine nv ?_|(refine c2_ ?_ ?_<;>(intro hb hb';try(exfalso;omega)))|(exact aC _)|(exact GRead.el _)|(exact aC [_])|(exact GTape.el _)|exact bq_|fail)
  all_goals first
   |exact GTape.el _
   |exact GTape.el [_]
   |(simp only[b_,f_,a_,g_,c_];omega)
   | (refine eX (k+1,v+1) ?_ (show k+1≤l.length by omega) (show l.length - (k+1)<l.length - k by omega)
      simp[dF,gJ,dG,dI,AV.fits,AC.fits,FB,dD,hs,GTape.aj,li,ls, -w_])
 ·obtain rfl:k=l.length:=by omega
  rw[p_]
  repeat' (first|(refine hq_ ?_;clear hK K)|refine ca_ ?_ ?_|refine sz_ trivial ?_|refine nv ?_|(refine rD ?_;intro K hK)|(refine c2_ ?_ ?_<;>(intro hb hb';try(exfalso;omega)))|(exact aC _)|(exact GRead.el _)|(exact aC [_])|(exact GTape.el _)|exact bq_|fail)
  exact bH ⟨0,_,_,rfl,rfl,rfl,rfl,rfl,rfl,m_ rfl⟩
def oJ :IC:=(.seq (.reg true [zz_ 56 (.brow true 66 3 0 false []),zw_ 57 9,zw_ 58 10,zz_ 59 (.lsl 3 (.t 57) none (some (.t 58))),zz_ 60 (.app 66 3 (.t 56) (.t 59)),zr_ 61 3 11,zz_ 62 (.brow false 66 3 1 false [(.t 61)]),zz_ 63 (.app 66 3 (.t 60) (.t 62)),zw_ 64 9,zw_ 65 10,zz_ 66 (.lsl 3 (.t 64) (some (.t 65)) none),zz_ 67 (.app 66 3 (.t 63) (.t 66)),zw_ 8 67]) .ret)
def oh :IC:=(zd_ [zz_ 8 (.mov (.k (.slice none 0 0)))] (zd_ [zw_ 12 0,zq_ 13 69 12,zw_ 9 13] (zd_ [zw_ 14 0,zw_ 15 1,zw_ 16 2,zo_ 17 40 14 15 16,zw_ 10 17] (.seq (zd_ [zw_ 18 10,zm_ 19 .geq 18 0] (.cond (.t 19) (zd_ [zw_ 20 9,zw_ 21 10,zw_ 22 9,zw_ 23 10,ze_ 24 3 22 23,zt_ 25 2 24,zs_ 26 1 25,zw_ 27 3,zp_ 28 70 26 27,ze_ 29 3 20 21,zt_ 30 2 29,⟨none,none,.store 1 (.t 30) (.t 28)⟩] (zd_ [zw_ 31 9,zw_ 8 31] .ret)) .skip)) (.seq (zd_ [zw_ 32 3,zf_ 33 false 32,zm_ 34 .eql 33 0] (.cond (.t 34) (zd_ [zw_ 35 9,zw_ 8 35] .ret) .skip)) (zd_ [zw_ 36 1,zw_ 37 2,zw_ 38 3,zz_ 39 (.call 70 [(.k (.slice none 0 0)),(.t 38)]),zz_ 40 (.bld [(.int .i64 0),(.int .i64 0),(.slice none 0 0)] [(0,1,(.t 36)),(1,1,(.t 37)),(2,1,(.t 39))]),zz_ 11 (.alloc [(.int .i64 0),(.int .i64 0),(.slice none 0 0)]),⟨none,none,.store 3 (.t 11) (.t 40)⟩] (zd_ [zk_ 10 0] (.seq (.block 0 (.loop (.seq (.seq (.regN true false [] [zw_ 41 10,zw_ 42 9,zf_ 43 false 42,zl_ 44 .lss 41 43,zw_ 45 44,zy_ 46 45 (.load 3 true (.t 11)),zv_ 47 45 9,zv_ 48 45 10,zy_ 49 45 (.iad 3 (.t 47) (.t 48)),zy_ 50 45 (.load 3 true (.t 49)),zy_ 51 45 (.call 71 [(.t 46),(.t 50)]),zy_ 52 45 (.not (.t 51)),zh_ 53 45 52 false]) (.cond (.t 53) .skip (.exit 0))) (.block 1 (.reg false [zw_ 54 10,zm_ 55 .add 54 1,zw_ 10 55]))))) oJ))))))))
theorem nJ :au Try.prog (Try.f32.body.getD .skip)=some oh:=by kernel_rfl
theorem Jc(l:List GTape)(c v:Int)(reads:List GRead)(hn:l.length≤1048576)(hw:D.wts (l.map GTape.toD)≤1048576)(hm:reads.length≤1048576)(hv:D.wts (reads.map GRead.toD)≤1048576){k:Nat}(h:k<l.length)(h1:jR (tpP c v) l 0=(k:Int)):dH Try.prog 32 [.sl (l.map GTape.toD),li c,li v,.sl (reads.map GRead.toD)] (.c false [.own 0 0]) [⟨(lg l c v reads).map GTape.toD,66,3,0,⟨true,true⟩⟩]:=by
 have hi:=kR l c v hn;rw[h1]at hi;have hcp:=tZ l hn hw;have hput:=Jf (reads:=reads) h h1;have htw:=nS (i_ h) hw;have hmg:=uM l[k].reads reads (by omega) (by omega) hm hv;have hz:decide ((k:Int)≥0)=true:=decide_eq_true (by omega);have hg:=dJ GTape.toD l h;refine gu (fn:=Try.f32) (r:= .tmp 8) (hc:=nJ) (h:= ?_);unfold oh;refine zb_ ?_;change AWP _ _ _ (st0 68 _);refine sS trivial ?_
 repeat' (first|(refine hq_ ?_;clear hK K)|refine ca_ ?_ ?_|refine gq_ ?_|(refine c2_ ?_ ?_<;>(intro hb hb';try(exfalso;omega)))|(refine cg_ ?_;first|refine cT_ hi ?_|(refine gW hcp rfl (by simp) ?_ ?_)|(refine gW hmg rfl (by simp) ?_ ?_))|refine sz_ (a5_ hz hg @aW.eq_1 @D.patch.eq_1 @pF) ?_|refine nv ?_|(refine rD ?_;intro K hK)|(exact aC _)|(exact GRead.el _)|(exact aC [_])|(exact GTape.el _)|exact bq_|fail)
 all_goals first
  |(simp only[b_];omega)
  |exact bH ⟨[0],by simp,⟨⟨_,rfl,by simp[hput,GTape.aj,li,D.flat,D.iM],m_ ⟨rfl,rfl⟩⟩,trivial⟩,⟨_,rfl,by simp[gB,jy]⟩⟩
theorem Jd(l:List GTape)(c v:Int)(reads:List GRead)(hn:l.length≤1048576)(hw:D.wts (l.map GTape.toD)≤1048576)(hm:reads.length≤1048576)(hv:D.wts (reads.map GRead.toD)≤1048576)(h1:jR (tpP c v) l 0= -1)(h2:reads.length=0):dH Try.prog 32 [.sl (l.map GTape.toD),li c,li v,.sl (reads.map GRead.toD)] (.c false [.own 0 0]) [⟨(lg l c v reads).map GTape.toD,66,3,0,⟨true,true⟩⟩]:=by
 have hi:=kR l c v hn;rw[h1]at hi;have hcp:=tZ l hn hw;have hput:=Jg h1 h2;have hz:decide ((-1:Int)≥0)=false:=rfl;have hr0:((reads.length:Int)==0)=true:=by rw[beq_iff_eq];omega
 refine gu (fn:=Try.f32) (r:= .tmp 8) (hc:=nJ) (h:= ?_);unfold oh;refine zb_ ?_;change AWP _ _ _ (st0 68 _);refine sS trivial ?_
 repeat' (first|(refine hq_ ?_;clear hK K)|refine ca_ ?_ ?_|refine gq_ ?_|(refine c2_ ?_ ?_<;>(intro hb hb';try(exfalso;omega)))|(refine cg_ ?_;first|refine cT_ hi ?_|(refine gW hcp rfl (by simp) ?_ ?_))|refine sz_ (a3_ hz hr0 @aW.eq_1) ?_|refine nv ?_|(refine rD ?_;intro K hK)|(exact aC _)|(exact GRead.el _)|(exact aC [_])|(exact GTape.el _)|exact bq_|fail)
 all_goals first
  |(simp only[b_];omega)
  |exact bH ⟨[0],by simp,⟨⟨_,rfl,by simp[hput,GTape.aj,li,D.flat,D.iM],m_ ⟨rfl,rfl⟩⟩,trivial⟩,⟨_,rfl,by simp[gB,jy]⟩⟩
theorem Jb(l:List GTape)(c v:Int)(reads:List GRead)(hn:l.length≤1048576)(hw:D.wts (l.map GTape.toD)≤1048576)(hm:reads.length≤1048576)(hv:D.wts (reads.map GRead.toD)≤1048576)(h1:jR (tpP c v) l 0= -1)(h2:¬reads.length=0):dH Try.prog 32 [.sl (l.map GTape.toD),li c,li v,.sl (reads.map GRead.toD)] (.c false [.own 0 0]) [⟨(lg l c v reads).map GTape.toD,66,3,0,⟨true,true⟩⟩]:=by
 have hi:=kR l c v hn;rw[h1]at hi;have hcp:=tZ l hn hw;have hput:=Je h1 h2;have hz:decide ((-1:Int)≥0)=false:=rfl;have hr0:((reads.length:Int)==0)=false:=by rw[beq_eq_false_iff_ne];omega
 have hmg:=uM [] reads (j_ _) (j_ _) hm hv;obtain⟨m,hmr⟩:∃m,bK [] reads=m:=⟨_,rfl⟩
 have hnt:uJ c v reads=⟨c,v,m⟩:=by unfold uJ;rw[hmr]
 have hml:m.length≤2097152:=by
  have h9:=pO (tape:= []) (reads:=reads);rw[hmr]at h9;simp only[g_,s_,D.wts]at h9;omega
 have hne:m≠[]:=by rw[← hmr];exact Dj (fun e=>h2 (by rw[e];rfl))
 rw[hmr]at hmg;rw[hnt]at hput;refine gu (fn:=Try.f32) (r:= .tmp 8) (hc:=nJ) (h:= ?_);unfold oh;refine zb_ ?_;change AWP _ _ _ (st0 68 _);refine sS trivial ?_
 repeat' (first|(refine hq_ ?_;clear hK K)|refine ca_ ?_ ?_|refine gq_ ?_|(refine c2_ ?_ ?_<;>(intro hb hb';try(exfalso;omega)))|(refine cg_ ?_;first|refine cT_ hi ?_|(refine gW hcp rfl (by simp) ?_ ?_)|(refine gW hmg rfl (by simp) ?_ ?_))|refine sz_ (a3_ hz hr0 @aW.eq_1) ?_|refine nv ?_|(refine rD ?_;intro K hK)|(exact aC _)|(exact GRead.el _)|(exact aC [_])|(exact GTape.el _)|exact bq_|fail)
 all_goals try(simp only[b_];omega)
 refine dN (X:=Nat) (fun q=> [.d,.d,.d,.d,.d,.d,.d,.d,.d,.k,.v (.c false [.raw (.int .i64 (q:Nat))]),.k]) (fun q=> [⟨l.map GTape.toD,66,3,0,⟨true,true⟩⟩,⟨m.map GRead.toD,70,11,0,⟨true,true⟩⟩]) (fun q bs=> [[.raw (.int .i64 c),.raw (.int .i64 v),.own 1 0]]) (fun q=>q≤l.length∧∀(j:Nat) (h:j<l.length),j<q→xH ⟨c,v,m⟩ l[j]=false) (fun q=>l.length - q) 0 ⟨j_ _,fun j h hj=>absurd hj (a_b _)⟩ ?_ ?_
 ·simp[dF,gJ,dG,dI,AV.fits,AC.fits,FB,dD]
 rintro k ⟨hk,hf⟩;simp only[FB,dD];by_cases hlk:k<l.length
 ·have hT:decide ((k:Int)<(l.length:Int))=true:=decide_eq_true (by omega);have hg:=dJ GTape.toD l hlk;have hbt:=EW ⟨c,v,m⟩ l[k];have hw1:(k:Int)+1=((k+1:Nat):Int):=by omega
  cases he:xH ⟨c,v,m⟩ l[k]with
  | false=>
    rw[he]at hbt
    repeat' (first|(refine hq_ ?_;clear hK K)|refine ca_ ?_ ?_|refine gq_ ?_|(refine cg_ ?_;first|refine cT_ hbt ?_)|refine sz_ (a4_ hT hg hw1 @aW.eq_1) ?_|refine nv ?_|(refine rD ?_;intro K hK)|(exact aC _)|(exact GRead.el _)|(exact aC [_])|(exact GTape.el _)|exact bq_|fail)
    all_goals first
     |omega
     | (refine eX (k+1) ?_ ⟨by omega,fun j h hj=>(G_.1 hj).elim (fun h9=>hf j h h9) (fun h9=>by subst h9;exact he)⟩ (show l.length - (k+1)<l.length - k by omega)
        simp[dF,gJ,dG,dI,AV.fits,AC.fits,FB,dD])
  | true=>
    rw[he]at hbt;have hins:wY ⟨c,v,m⟩ l=k:=uO hk hf (fun _=>he)
    repeat' (first|(refine hq_ ?_;clear hK K)|refine ca_ ?_ ?_|refine gq_ ?_|(refine cg_ ?_;first|refine cT_ hbt ?_)|refine sz_ (a4_ hT hg hw1 @aW.eq_1) ?_|refine nv ?_|(refine rD ?_;intro K hK)|(exact aC _)|(exact GRead.el _)|(exact aC [_])|(exact GTape.el _)|exact bq_|fail)
    refine Ba 0 1 0 8 k (us:= [.int .i64 c,.int .i64 v]) (by rfl) (by rfl) (by decide) (by rfl) (by rfl) (by intro x hx;simp at hx;rcases hx with rfl|rfl<;>rfl) (show k≤(l.map GTape.toD).length by rw[b_];omega) (fun e=>hne (Q_.1 e)) ?_ ?_
    ·intro raws ad n2 c2 hrl hrel hrf;simp[St.rel,AV.rel,AC.rel,aP];have hns:yO (.slice (some ad) n2 c2)=false:=rfl;have hrl2:raws.length=l.length:=by simpa using hrl
     have hsb1:jr none (some (k:Int)) raws.length=some (0,k):=rE (by omega);have hsb2:jr (some (k:Int)) none raws.length=some (k,raws.length):=lD (by omega);unfold oJ;refine zb_ ?_
     repeat' (first|(refine hq_ ?_;clear hK K)|refine ca_ ?_ ?_|refine gq_ ?_|(refine c2_ ?_ ?_<;>(intro hb hb';try(exfalso;omega)))|(with_reducible refine zH ?_)|refine sz_ (a5_ hns hrl2 hsb1 hsb2 @aW.eq_1) ?_|refine nv ?_|(refine rD ?_;intro K hK)|(exact aC _)|(exact GRead.el _)|(exact aC [_])|(exact GTape.el _)|exact bq_|fail)
     all_goals first
      |omega
      |exact hrel
      |exact fun d hd=>hrel d (e_ hd)
      |exact fun d hd=>hrel d (l_ hd)
      |exact fun d hd=>hrel d (e_ (l_ hd))
      |(simp only[f_,a_,g_,c_,k_];omega)
      |exact⟨rfl,_,_,_,rfl,by rw[t_ (S_ hrl2)];rfl⟩
    ·intro n hn;exact bH ⟨[0],by simp,⟨⟨_,rfl,by rw[hput,hins];simp[GTape.aj,li],m_ ⟨rfl,rfl⟩⟩,trivial⟩,⟨_,vF hn,by simp[gB,jy]⟩⟩
 ·have hT:decide ((k:Int)<(l.length:Int))=false:=decide_eq_false (by omega);have hins:wY ⟨c,v,m⟩ l=k:=uO hk hf (fun h=>absurd h hlk)
  repeat' (first|(refine hq_ ?_;clear hK K)|refine ca_ ?_ ?_|refine gq_ ?_|refine sz_ (UZ hT @aW.eq_1) ?_|refine nv ?_|(refine rD ?_;intro K hK)|(exact aC _)|(exact GRead.el _)|(exact aC [_])|(exact GTape.el _)|exact bq_|fail)
  refine Ba 0 1 0 8 k (us:= [.int .i64 c,.int .i64 v]) (by rfl) (by rfl) (by decide) (by rfl) (by rfl) (by intro x hx;simp at hx;rcases hx with rfl|rfl<;>rfl) (show k≤(l.map GTape.toD).length by rw[b_];omega) (fun e=>hne (Q_.1 e)) ?_ ?_
  ·intro raws ad n2 c2 hrl hrel hrf;simp[St.rel,AV.rel,AC.rel,aP];have hns:yO (.slice (some ad) n2 c2)=false:=rfl;have hrl2:raws.length=l.length:=by simpa using hrl
   have hsb1:jr none (some (k:Int)) raws.length=some (0,k):=rE (by omega);have hsb2:jr (some (k:Int)) none raws.length=some (k,raws.length):=lD (by omega);unfold oJ;refine zb_ ?_
   repeat' (first|(refine hq_ ?_;clear hK K)|refine ca_ ?_ ?_|refine gq_ ?_|(refine c2_ ?_ ?_<;>(intro hb hb';try(exfalso;omega)))|(with_reducible refine zH ?_)|refine sz_ (a5_ hns hrl2 hsb1 hsb2 @aW.eq_1) ?_|refine nv ?_|(refine rD ?_;intro K hK)|(exact aC _)|(exact GRead.el _)|(exact aC [_])|(exact GTape.el _)|exact bq_|fail)
   all_goals first
    |omega
    |exact hrel
    |exact fun d hd=>hrel d (e_ hd)
    |exact fun d hd=>hrel d (l_ hd)
    |exact fun d hd=>hrel d (e_ (l_ hd))
    |(simp only[f_,a_,g_,c_,k_];omega)
    |exact⟨rfl,_,_,_,rfl,by rw[t_ (S_ hrl2)];rfl⟩
  ·intro n hn;exact bH ⟨[0],by simp,⟨⟨_,rfl,by rw[hput,hins];simp[GTape.aj,li],m_ ⟨rfl,rfl⟩⟩,trivial⟩,⟨_,vF hn,by simp[gB,jy]⟩⟩
theorem tq(l:List GTape)(c v:Int)(reads:List GRead)(hn:l.length≤1048576)(hw:D.wts (l.map GTape.toD)≤1048576)(hm:reads.length≤1048576)(hv:D.wts (reads.map GRead.toD)≤1048576):dH Try.prog 32 [.sl (l.map GTape.toD),li c,li v,.sl (reads.map GRead.toD)] (.c false [.own 0 0]) [⟨(lg l c v reads).map GTape.toD,66,3,0,⟨true,true⟩⟩]:=by
 rcases mY (p:=tpP c v) l 0 with⟨h1,_⟩|⟨i,h,h1,_⟩
 ·by_cases h2:reads.length=0
  ·exact Jd l c v reads hn hw hm hv h1 h2
  ·exact Jb l c v reads hn hw hm hv h1 h2
 ·rw[H_]at h1;exact Jc l c v reads hn hw hm hv h h1
def og :IC:=(zd_ [zz_ 8 (.mov (.k (.slice none 0 0)))] (zd_ [zw_ 14 0,zq_ 15 65 14,zw_ 9 15] (zd_ [zw_ 16 0,zw_ 17 1,zw_ 18 2,zo_ 19 37 16 17 18,zw_ 10 19] (.seq (zd_ [zw_ 20 10,zm_ 21 .geq 20 0] (.cond (.t 21) (zd_ [zw_ 22 9,zw_ 23 10,zw_ 24 9,zw_ 25 10,ze_ 26 3 24 25,zt_ 27 2 26,zs_ 28 1 27,zw_ 29 3,zp_ 30 66 28 29,ze_ 31 3 22 23,zt_ 32 2 31,⟨none,none,.store 1 (.t 32) (.t 30)⟩] (zd_ [zw_ 33 9,zw_ 8 33] .ret)) .skip)) (.seq (zd_ [zw_ 34 3,zf_ 35 false 34,zm_ 36 .eql 35 0] (.cond (.t 36) (zd_ [zw_ 37 9,zw_ 8 37] .ret) .skip)) (zd_ [zw_ 38 1,zw_ 39 2,zz_ 40 (.brow false 70 11 0 false []),zw_ 41 3,zp_ 42 66 40 41,zz_ 43 (.bld [(.int .i64 0),(.int .i64 0),(.slice none 0 0)] [(0,1,(.t 38)),(1,1,(.t 39)),(2,1,(.t 42))]),zz_ 11 (.alloc [(.int .i64 0),(.int .i64 0),(.slice none 0 0)]),⟨none,none,.store 3 (.t 11) (.t 43)⟩] (zd_ [zk_ 12 0] (.seq (.block 0 (.loop (.seq (.seq (.regN true false [] [zw_ 44 12,zw_ 45 9,zf_ 46 false 45,zl_ 47 .lss 44 46,zw_ 48 47,zy_ 49 48 (.load 3 true (.t 11)),zv_ 50 48 9,zv_ 51 48 12,zy_ 52 48 (.iad 3 (.t 50) (.t 51)),zy_ 53 48 (.load 3 true (.t 52)),zy_ 54 48 (.call 67 [(.t 49),(.t 53)]),zy_ 55 48 (.not (.t 54)),zh_ 56 48 55 false]) (.cond (.t 56) .skip (.exit 0))) (.block 1 (.reg false [zw_ 57 12,zm_ 58 .add 57 1,zw_ 12 58]))))) (zd_ [zz_ 59 (.brow true 66 3 0 false []),zw_ 60 9,zw_ 61 12,zz_ 62 (.lsl 3 (.t 60) none (some (.t 61))),zz_ 63 (.app 66 3 (.t 59) (.t 62)),zw_ 13 63] (zd_ [zw_ 64 13,zr_ 65 3 11,zz_ 66 (.brow false 66 3 1 false [(.t 65)]),zz_ 67 (.app 66 3 (.t 64) (.t 66)),zw_ 13 67] (zd_ [zw_ 68 13,zw_ 69 9,zw_ 70 12,zz_ 71 (.lsl 3 (.t 69) (some (.t 70)) none),zz_ 72 (.app 66 3 (.t 68) (.t 71)),zw_ 8 72] .ret)))))))))))
theorem nI :au Try.prog (Try.f30.body.getD .skip)=some og:=by kernel_rfl
theorem I9(l:List GTape)(c v:Int)(reads:List GRead)(hn:l.length≤1048576)(hw:D.wts (l.map GTape.toD)≤1048576)(hm:reads.length≤1048576)(hv:D.wts (reads.map GRead.toD)≤1048576){k:Nat}(h:k<l.length)(h1:jR (tpP c v) l 0=(k:Int)):aJ Try.prog 30 [.sl (l.map GTape.toD),li c,li v,.sl (reads.map GRead.toD)] (.c false [.sl true ((lg l c v reads).map GTape.toD)]):=by
 have hi:=mV l c v hn;rw[h1]at hi;have hcp:=tY l hn hw;have hput:=Jf (reads:=reads) h h1;have htw:=nS (i_ h) hw;have hmg:=uK l[k].reads reads (by omega) (by omega) hm hv;have hz:decide ((k:Int)≥0)=true:=decide_eq_true (by omega);have hg:=dJ GTape.toD l h;refine gQ (fn:=Try.f30) (t:=8) (hc:=nI) (h:= ?_);unfold og;refine zb_ ?_;change AWP _ _ _ (st0 73 _);refine sS trivial ?_
 repeat' (first|(refine hq_ ?_;clear hK K)|refine ca_ ?_ ?_|refine gq_ ?_|(refine c2_ ?_ ?_<;>(intro hb hb';try(exfalso;omega)))|(refine cg_ ?_;first|refine cT_ hi ?_|(refine vN hcp (GTape.el _) ?_ ?_)|refine cT_ hmg ?_)|refine sz_ (a5_ hz hg @aW.eq_1 @D.patch.eq_1 @pF) ?_|refine nv ?_|(refine rD ?_;intro K hK)|(exact aC _)|(exact GRead.el _)|(exact aC [_])|(exact GTape.el _)|exact bq_|fail)
 all_goals first
  |(simp only[b_];omega)
  |exact bH ⟨_,rfl,⟨_,rfl,rfl,by simp[hput,GTape.aj,li,D.flat,D.iM],m_ rfl⟩,trivial⟩
theorem Ja(l:List GTape)(c v:Int)(reads:List GRead)(hn:l.length≤1048576)(hw:D.wts (l.map GTape.toD)≤1048576)(hm:reads.length≤1048576)(hv:D.wts (reads.map GRead.toD)≤1048576)(h1:jR (tpP c v) l 0= -1)(h2:reads.length=0):aJ Try.prog 30 [.sl (l.map GTape.toD),li c,li v,.sl (reads.map GRead.toD)] (.c false [.sl true ((lg l c v reads).map GTape.toD)]):=by
 have hi:=mV l c v hn;rw[h1]at hi;have hcp:=tY l hn hw;have hput:=Jg h1 h2;have hz:decide ((-1:Int)≥0)=false:=rfl;have hr0:((reads.length:Int)==0)=true:=by rw[beq_iff_eq];omega
 refine gQ (fn:=Try.f30) (t:=8) (hc:=nI) (h:= ?_);unfold og;refine zb_ ?_;change AWP _ _ _ (st0 73 _);refine sS trivial ?_
 repeat' (first|(refine hq_ ?_;clear hK K)|refine ca_ ?_ ?_|refine gq_ ?_|(refine c2_ ?_ ?_<;>(intro hb hb';try(exfalso;omega)))|(refine cg_ ?_;first|refine cT_ hi ?_|(refine vN hcp (GTape.el _) ?_ ?_))|refine sz_ (a3_ hz hr0 @aW.eq_1) ?_|refine nv ?_|(refine rD ?_;intro K hK)|(exact aC _)|(exact GRead.el _)|(exact aC [_])|(exact GTape.el _)|exact bq_|fail)
 all_goals first
  |(simp only[b_];omega)
  |exact bH ⟨_,rfl,⟨_,rfl,rfl,by simp[hput,GTape.aj,li,D.flat,D.iM],m_ rfl⟩,trivial⟩
theorem I8(l:List GTape)(c v:Int)(reads:List GRead)(hn:l.length≤1048576)(hw:D.wts (l.map GTape.toD)≤1048576)(hm:reads.length≤1048576)(hv:D.wts (reads.map GRead.toD)≤1048576)(h1:jR (tpP c v) l 0= -1)(h2:¬reads.length=0):aJ Try.prog 30 [.sl (l.map GTape.toD),li c,li v,.sl (reads.map GRead.toD)] (.c false [.sl true ((lg l c v reads).map GTape.toD)]):=by
 have hi:=mV l c v hn;rw[h1]at hi;have hcp:=tY l hn hw;have hput:=Je h1 h2;have hz:decide ((-1:Int)≥0)=false:=rfl;have hr0:((reads.length:Int)==0)=false:=by rw[beq_eq_false_iff_ne];omega
 have hmg:=uK [] reads (j_ _) (j_ _) hm hv;obtain⟨m,hmr⟩:∃m,bK [] reads=m:=⟨_,rfl⟩
 have hnt:uJ c v reads=⟨c,v,m⟩:=by unfold uJ;rw[hmr]
 have hml:m.length≤2097152:=by
  have h9:=pO (tape:= []) (reads:=reads);rw[hmr]at h9;simp only[g_,s_,D.wts]at h9;omega
 have hne:m≠[]:=by rw[← hmr];exact Dj (fun e=>h2 (by rw[e];rfl))
 rw[hmr]at hmg;rw[hnt]at hput;refine gQ (fn:=Try.f30) (t:=8) (hc:=nI) (h:= ?_);unfold og;refine zb_ ?_;change AWP _ _ _ (st0 73 _);refine sS trivial ?_
 repeat' (first|(refine hq_ ?_;clear hK K)|refine ca_ ?_ ?_|refine gq_ ?_|(refine c2_ ?_ ?_<;>(intro hb hb';try(exfalso;omega)))|(refine cg_ ?_;first|refine cT_ hi ?_|(refine vN hcp (GTape.el _) ?_ ?_)|refine cT_ hmg ?_)|refine sz_ (a3_ hz hr0 @aW.eq_1) ?_|refine nv ?_|(refine rD ?_;intro K hK)|(exact aC _)|(exact GRead.el _)|(exact aC [_])|(exact GTape.el _)|exact bq_|fail)
 all_goals try(simp only[b_];omega)
 refine dN (X:=Nat) (fun q=> [.d,.d,.d,.d,.d,.d,.d,.d,.d,.k,.d,.k,.v (.c false [.raw (.int .i64 (q:Nat))])]) (fun q=> [⟨l.map GTape.toD,66,3,0,true⟩]) (fun q bs=> [[.raw (.int .i64 c),.raw (.int .i64 v),.sl true (m.map GRead.toD)]]) (fun q=>q≤l.length∧∀(j:Nat) (h:j<l.length),j<q→xH ⟨c,v,m⟩ l[j]=false) (fun q=>l.length - q) 0 ⟨j_ _,fun j h hj=>absurd hj (a_b _)⟩ ?_ ?_
 ·simp[dF,gJ,dG,dI,AV.fits,AC.fits,FB,dD]
 rintro k ⟨hk,hf⟩;simp only[FB,dD];by_cases hlk:k<l.length
 ·have hT:decide ((k:Int)<(l.length:Int))=true:=decide_eq_true (by omega);have hg:=dJ GTape.toD l hlk;have hbt:=EU ⟨c,v,m⟩ l[k];have hw1:(k:Int)+1=((k+1:Nat):Int):=by omega
  cases he:xH ⟨c,v,m⟩ l[k]with
  | false=>
    rw[he]at hbt
    repeat' (first|(refine hq_ ?_;clear hK K)|refine ca_ ?_ ?_|refine gq_ ?_|(refine cg_ ?_;first|refine cT_ hbt ?_)|refine sz_ (a4_ hT hg hw1 @aW.eq_1) ?_|refine nv ?_|(refine rD ?_;intro K hK)|(exact aC _)|(exact GRead.el _)|(exact aC [_])|(exact GTape.el _)|exact bq_|fail)
    all_goals first
     |omega
     | (refine eX (k+1) ?_ ⟨by omega,fun j h hj=>(G_.1 hj).elim (fun h9=>hf j h h9) (fun h9=>by subst h9;exact he)⟩ (show l.length - (k+1)<l.length - k by omega)
        simp[dF,gJ,dG,dI,AV.fits,AC.fits,FB,dD])
  | true=>
    rw[he]at hbt;have hins:wY ⟨c,v,m⟩ l=k:=uO hk hf (fun _=>he)
    repeat' (first|(refine hq_ ?_;clear hK K)|refine ca_ ?_ ?_|refine gq_ ?_|(refine cg_ ?_;first|refine cT_ hbt ?_)|refine sz_ (a4_ hT hg hw1 @aW.eq_1) ?_|refine nv ?_|(refine rD ?_;intro K hK)|(exact aC _)|(exact GRead.el _)|(exact aC [_])|(exact GTape.el _)|exact bq_|fail)
    have htl:(l.map GTape.toD).take l.length=l.map GTape.toD:=t_ (by simp);have hsb1:jr none (some (k:Int)) l.length=some (0,k):=rE (by omega);have hsb2:jr (some (k:Int)) none l.length=some (k,l.length):=lD (by omega)
    repeat' (first|(refine hq_ ?_;clear hK K)|refine ca_ ?_ ?_|refine gq_ ?_|(refine c2_ ?_ ?_<;>(intro hb hb';try(exfalso;omega)))|(with_reducible refine zH ?_)|refine sz_ (a3_ hsb1 hsb2 @aW.eq_1) ?_|refine nv ?_|(refine rD ?_;intro K hK)|(exact aC _)|(exact GRead.el _)|(exact aC [_])|(exact GTape.el _)|exact bq_|fail)
    all_goals first
     |omega
     |exact GTape.el _
     |exact GTape.el [⟨c,v,m⟩]
     |exact fun d hd=>GTape.el l d (e_ hd)
     |exact fun d hd=>GTape.el l d (e_ (l_ hd))
     |exact GTape.fK ⟨c,v,m⟩
     |exact GTape.sz_eq ⟨c,v,m⟩
     |(simp only[b_,f_,a_,g_,c_,k_];omega)
     |exact bH ⟨_,rfl,⟨_,rfl,rfl,by rw[hput,hins];simp[GTape.aj,li,a_d,a_e,htl],m_ rfl⟩,trivial⟩
 ·have hT:decide ((k:Int)<(l.length:Int))=false:=decide_eq_false (by omega);have hins:wY ⟨c,v,m⟩ l=k:=uO hk hf (fun h=>absurd h hlk)
  repeat' (first|(refine hq_ ?_;clear hK K)|refine ca_ ?_ ?_|refine gq_ ?_|refine sz_ (UZ hT @aW.eq_1) ?_|refine nv ?_|(refine rD ?_;intro K hK)|(exact aC _)|(exact GRead.el _)|(exact aC [_])|(exact GTape.el _)|exact bq_|fail)
  have htl:(l.map GTape.toD).take l.length=l.map GTape.toD:=t_ (by simp);have hsb1:jr none (some (k:Int)) l.length=some (0,k):=rE (by omega);have hsb2:jr (some (k:Int)) none l.length=some (k,l.length):=lD (by omega)
  repeat' (first|(refine hq_ ?_;clear hK K)|refine ca_ ?_ ?_|refine gq_ ?_|(refine c2_ ?_ ?_<;>(intro hb hb';try(exfalso;omega)))|(with_reducible refine zH ?_)|refine sz_ (a3_ hsb1 hsb2 @aW.eq_1) ?_|refine nv ?_|(refine rD ?_;intro K hK)|(exact aC _)|(exact GRead.el _)|(exact aC [_])|(exact GTape.el _)|exact bq_|fail)
  all_goals first
   |omega
   |exact GTape.el _
   |exact GTape.el [⟨c,v,m⟩]
   |exact fun d hd=>GTape.el l d (e_ hd)
   |exact fun d hd=>GTape.el l d (e_ (l_ hd))
   |exact GTape.fK ⟨c,v,m⟩
   |exact GTape.sz_eq ⟨c,v,m⟩
   |(simp only[b_,f_,a_,g_,c_,k_];omega)
   |exact bH ⟨_,rfl,⟨_,rfl,rfl,by rw[hput,hins];simp[GTape.aj,li,a_d,a_e,htl],m_ rfl⟩,trivial⟩
theorem zV(l:List GTape)(c v:Int)(reads:List GRead)(hn:l.length≤1048576)(hw:D.wts (l.map GTape.toD)≤1048576)(hm:reads.length≤1048576)(hv:D.wts (reads.map GRead.toD)≤1048576):aJ Try.prog 30 [.sl (l.map GTape.toD),li c,li v,.sl (reads.map GRead.toD)] (.c false [.sl true ((lg l c v reads).map GTape.toD)]):=by
 rcases mY (p:=tpP c v) l 0 with⟨h1,_⟩|⟨i,h,h1,_⟩
 ·by_cases h2:reads.length=0
  ·exact Ja l c v reads hn hw hm hv h1 h2
  ·exact I8 l c v reads hn hw hm hv h1 h2
 ·rw[H_]at h1;exact I9 l c v reads hn hw hm hv h h1
theorem uo(l:List GTape)(c v:Int)(hw:D.wts (l.map GTape.toD)≤1048576):(lQ l c v).length≤1048576∧D.wts ((lQ l c v).map GRead.toD)≤1048576:=by
 have h9:(lQ l c v).length+D.wts ((lQ l c v).map GRead.toD)≤1048576:=by
  unfold lQ;cases h:l.find? (tpP c v)with
  |none=>simp[D.wts]
  |some t=>exact nS (List.mem_of_find?_eq_some h) hw
 omega
def lY(l:List GTape)(c a b:Int):List GTape:=lg l c b (lQ l c a)
def pU :IC:=(zd_ [zz_ 8 (.mov (.k (.slice none 0 0)))] (zd_ [zw_ 9 0,zw_ 10 1,zw_ 11 3,zw_ 12 0,zw_ 13 1,zw_ 14 2,zo_ 15 10 12 13 14,zz_ 16 (.call 32 [(.t 9),(.t 10),(.t 11),(.t 15)]),zw_ 8 16] .ret))
theorem qA :au Try.prog (Try.f35.body.getD .skip)=some pU:=by kernel_rfl
theorem Cc(l:List GTape)(c a b:Int)(hn:l.length≤1048576)(hw:D.wts (l.map GTape.toD)≤1048576)(h1:jR (tpP c a) l 0= -1)(h2:lQ l c a= []):dH Try.prog 35 [.sl (l.map GTape.toD),li c,li a,li b] (.c false [.own 0 0]) [⟨(lY l c a b).map GTape.toD,66,3,0,⟨true,true⟩⟩]:=by
 have hb:=uo l c a hw;have ht:=yN l c a hn hw h1;have hp:=tq l c b [] hn hw (j_ _) (j_ _);unfold lY;rw[h2];refine gu (fn:=Try.f35) (r:= .tmp 8) (hc:=qA) (h:= ?_);unfold pU;refine zb_ ?_;change AWP _ _ _ (st0 17 _);refine sS trivial ?_
 repeat' (first|(refine rg_ ?_;intro K hK)|(refine hq_ ?_;clear hK K)|refine ca_ ?_ ?_|(refine cg_ ?_;first|refine cT_ ht ?_|(refine gW hp rfl (by simp) ?_ ?_))|refine sz_ @aW.eq_1 ?_|refine nv ?_|(refine c2_ ?_ ?_<;>(intro hb hb';try(exfalso;omega)))|(exact aC _)|(exact GRead.el _)|(exact aC [_])|(exact GTape.el _)|exact bq_|fail)
 exact bH ⟨[0],by simp,⟨⟨_,rfl,rfl,m_ ⟨rfl,rfl⟩⟩,trivial⟩,⟨_,rfl,by simp[gB,jy]⟩⟩
theorem Ia(l:List GTape)(c a b:Int)(hn:l.length≤1048576)(hw:D.wts (l.map GTape.toD)≤1048576){i:Nat}(h:i<l.length)(h1:jR (tpP c a) l 0=(i:Int))(h2:lQ l c a=l[i].reads):dH Try.prog 35 [.sl (l.map GTape.toD),li c,li a,li b] (.c false [.own 0 0]) [⟨(lY l c a b).map GTape.toD,66,3,0,⟨true,true⟩⟩]:=by
 have hb:=uo l c a hw;have ht:=BP l c a hn hw h h1;have hp:=tq l c b l[i].reads hn hw (by rw[← h2];exact hb.1) (by rw[← h2];exact hb.2);unfold lY;rw[h2];refine gu (fn:=Try.f35) (r:= .tmp 8) (hc:=qA) (h:= ?_);unfold pU;refine zb_ ?_;change AWP _ _ _ (st0 17 _);refine sS trivial ?_
 repeat' (first|(refine rg_ ?_;intro K hK)|(refine hq_ ?_;clear hK K)|refine ca_ ?_ ?_|(refine cg_ ?_;first|(refine gW ht rfl (by simp) ?_ ?_)|(refine gW hp rfl (by simp) ?_ ?_))|refine sz_ @aW.eq_1 ?_|refine nv ?_|(refine c2_ ?_ ?_<;>(intro hb hb';try(exfalso;omega)))|(exact aC _)|(exact GRead.el _)|(exact aC [_])|(exact GTape.el _)|exact bq_|fail)
 exact bH ⟨[1],by simp,⟨⟨_,rfl,rfl,m_ ⟨rfl,rfl⟩⟩,trivial⟩,⟨_,rfl,by simp[gB,jy]⟩⟩
theorem Ce(l:List GTape)(c a b:Int)(hn:l.length≤1048576)(hw:D.wts (l.map GTape.toD)≤1048576):dH Try.prog 35 [.sl (l.map GTape.toD),li c,li a,li b] (.c false [.own 0 0]) [⟨(lY l c a b).map GTape.toD,66,3,0,⟨true,true⟩⟩]:=by
 rcases mY (p:=tpP c a) l 0 with⟨h1,h2⟩|⟨i,h,h1,h2⟩
 ·exact Cc l c a b hn hw h1 (by unfold lQ;rw[h2])
 ·rw[H_]at h1;exact Ia l c a b hn hw h h1 (by unfold lQ;rw[h2])
def uZ :IC:=(zd_ [zz_ 8 (.mov (.k (.slice none 0 0)))] (zd_ [zw_ 9 0,zw_ 10 1,zw_ 11 3,zw_ 12 0,zw_ 13 1,zw_ 14 2,zo_ 15 8 12 13 14,zz_ 16 (.call 30 [(.t 9),(.t 10),(.t 11),(.t 15)]),zw_ 8 16] .ret))
theorem yX :au Try.prog (Try.f34.body.getD .skip)=some uZ:=by kernel_rfl
theorem H9(l:List GTape)(c a b:Int)(hn:l.length≤1048576)(hw:D.wts (l.map GTape.toD)≤1048576):aJ Try.prog 34 [.sl (l.map GTape.toD),li c,li a,li b] (.c false [.sl true ((lY l c a b).map GTape.toD)]):=by
 have hb:=uo l c a hw;have ht:=zM l c a hn hw;have hp:=zV l c b (lQ l c a) hn hw hb.1 hb.2;refine gQ (fn:=Try.f34) (t:=8) (hc:=yX) (h:= ?_);unfold uZ;refine zb_ ?_;change AWP _ _ _ (st0 17 _);refine sS trivial ?_
 repeat' (first|(refine rg_ ?_;intro K hK)|(refine hq_ ?_;clear hK K)|refine ca_ ?_ ?_|(refine cg_ ?_;first|refine cT_ ht ?_|refine cT_ hp ?_)|refine sz_ @aW.eq_1 ?_|refine nv ?_|(refine c2_ ?_ ?_<;>(intro hb hb';try(exfalso;omega)))|(exact aC _)|(exact GRead.el _)|(exact aC [_])|(exact GTape.el _)|exact bq_|fail)
 exact bH ⟨_,rfl,by simp[eP,jk,lY]⟩
theorem JL :∀(l:List D) (k:Nat) (d:D),D.wts (l.set k d)≤D.wts l+d.wt
 | [],_,_=>by simp[D.wts]
 |x::l,0,d=>by rw[X_,D.wts,D.wts];omega
 | x::l,k+1,d=>by
   have:=JL l k d;rw[R_,D.wts,D.wts];omega
theorem F5(l:List GTape)(c v:Int)(reads:List GRead)(hn:l.length≤1048576)(hw:D.wts (l.map GTape.toD)≤1048576)(hm:reads.length≤1048576)(hv:D.wts (reads.map GRead.toD)≤1048576):D.cnts ((lg l c v reads).map GTape.toD)≤4611686018427387:=by
 have h1:(lg l c v reads).length+D.wts ((lg l c v reads).map GTape.toD)≤16777216:=by
  rcases mY (p:=tpP c v) l 0 with⟨h1,_⟩|⟨i,h,h1,_⟩
  ·by_cases h2:reads.length=0
   ·rw[Jg h1 h2];omega
   ·rw[Je h1 h2];have h3:=pO (tape:= []) (reads:=reads);have h4:=GTape.gZ (uJ c v reads);have h5:D.wts (l.map GTape.toD)=D.wts ((l.take (wY (uJ c v reads) l)).map GTape.toD)+D.wts ((l.drop (wY (uJ c v reads) l)).map GTape.toD):=by
     rw[← uj,← K_,q_]
    have h6:(uJ c v reads).reads=bK [] reads:=rfl;rw[h6]at h4;simp only[g_,s_,D.wts]at h3;rw[b_]at h4;simp only[K_,uj,y_,s_,D.wts,f_,a_,g_,c_,k_];omega
  ·rw[H_]at h1;rw[Jf h h1,List.map_set,J_];have h2:=JL (l.map GTape.toD) i (GTape.toD ⟨l[i].cell,l[i].ver,bK l[i].reads reads⟩);have h3:=pO (tape:=l[i].reads) (reads:=reads);have h4:=GTape.gZ ⟨l[i].cell,l[i].ver,bK l[i].reads reads⟩;have h5:=nS (i_ h) hw;rw[b_]at h4;simp only at h4;omega
 have:=D.rW _ (GTape.fQ (lg l c v reads));rw[b_]at this;omega
theorem oQ(l:List GTape)(c v:Int)(reads:List GRead)(fp:List Nat)(u:Value)(fq:List Nat)(r:Value)(w:World)(hS:Sl w (l.map GTape.toD) fp u)(hR:Sl w (reads.map GRead.toD) fq r)(hn:l.length≤1048576)(hw:D.wts (l.map GTape.toD)≤1048576)(hm:reads.length≤1048576)(hv:D.wts (reads.map GRead.toD)≤1048576)(ht:nM w:=by exact trivial):Calls Try.prog 32 #[u,.int .i64 c,.int .i64 v,r] w (JI ((lg l c v reads).map GTape.toD) w):=
 Gm (vs:= [u,.int .i64 c,.int .i64 v,r]) (tq l c v reads hn hw hm hv) ⟨oP hS,iT _,iT _,oP hR,trivial⟩ ht
theorem wS(l:List GTape)(c v:Int)(reads:List GRead)(fp:List Nat)(u:Value)(fq:List Nat)(r:Value)(w:World)(hS:Sl w (l.map GTape.toD) fp u)(hR:Sl w (reads.map GRead.toD) fq r)(hn:l.length≤1048576)(hw:D.wts (l.map GTape.toD)≤1048576)(hm:reads.length≤1048576)(hv:D.wts (reads.map GRead.toD)≤1048576)(ht:nM w:=by exact trivial):Calls Try.prog 30 #[u,.int .i64 c,.int .i64 v,r] w (EY ((lg l c v reads).map GTape.toD) w):=
 PL (zV l c v reads hn hw hm hv) (vs:= [u,.int .i64 c,.int .i64 v,r]) ⟨oP hS,iT _,iT _,oP hR,trivial⟩ ht
theorem Nu(l:List GTape)(c a b:Int)(hn:l.length≤1048576)(hw:D.wts (l.map GTape.toD)≤1048576):D.cnts ((lY l c a b).map GTape.toD)≤4611686018427387:=by
 have hb:=uo l c a hw;exact F5 l c b (lQ l c a) hn hw hb.1 hb.2
theorem oz(l:List GTape)(c a b:Int)(fp:List Nat)(u:Value)(w:World)(hS:Sl w (l.map GTape.toD) fp u)(hn:l.length≤1048576)(hw:D.wts (l.map GTape.toD)≤1048576)(ht:nM w:=by exact trivial):Calls Try.prog 35 #[u,.int .i64 c,.int .i64 a,.int .i64 b] w (JI ((lY l c a b).map GTape.toD) w):=
 Gm (vs:= [u,.int .i64 c,.int .i64 a,.int .i64 b]) (Ce l c a b hn hw) ⟨oP hS,iT _,iT _,iT _,trivial⟩ ht
theorem vK(l:List GTape)(c a b:Int)(fp:List Nat)(u:Value)(w:World)(hS:Sl w (l.map GTape.toD) fp u)(hn:l.length≤1048576)(hw:D.wts (l.map GTape.toD)≤1048576)(ht:nM w:=by exact trivial):Calls Try.prog 34 #[u,.int .i64 c,.int .i64 a,.int .i64 b] w (EY ((lY l c a b).map GTape.toD) w):=
 PL (H9 l c a b hn hw) (vs:= [u,.int .i64 c,.int .i64 a,.int .i64 b]) ⟨oP hS,iT _,iT _,iT _,trivial⟩ ht
end
end Go.Proofs.Ytagaefgglphkgaa
