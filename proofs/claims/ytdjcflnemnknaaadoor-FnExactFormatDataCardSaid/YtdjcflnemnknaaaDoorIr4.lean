/-
  Memory at a store into a box, at a new slice of the call's own, at an append to it.
-/
import Derived.Test.YtdjcflnemnknaaaDoorIr3
namespace Go.Proofs.YtdjcflnemnknaaaDoor
open Go.RowKit
set_option linter.unusedSimpArgs false
set_option linter.unusedVariables false
section
variable {B : Nat} {Xs : List Nat} {G : Org} {w0 : World} {fr : List AV} {os : List Own} {bs : List (List AC)} {E : Env} {a : Act} {w w' : World}
theorem map_fst_inj {l : List (Nat × TypeId)} (h : (l.map (·.1)).Nodup) {i j : Nat} {p q : Nat × TypeId} (hi : l[i]? = some p) (hj : l[j]? = some q) (e : p.1 = q.1) : i = j := by
  have hi' : (l.map (·.1))[i]? = some p.1 := by rw [List.getElem?_map, hi]; rfl
  have hj' : (l.map (·.1))[j]? = some p.1 := by rw [List.getElem?_map, hj, e]; rfl
  obtain ⟨h1, h2⟩ := List.getElem?_eq_some_iff.1 hi'
  obtain ⟨h3, h4⟩ := List.getElem?_eq_some_iff.1 hj'
  rcases Nat.lt_trichotomy i j with hij | hij | hij
  · exact absurd (h2.trans h4.symm) (List.pairwise_iff_getElem.1 h i j h1 h3 hij)
  · exact hij
  · exact absurd (h4.trans h2.symm) (List.pairwise_iff_getElem.1 h j i h3 h1 hij)
/-- A store into one box: the others stand, and so do own rows. -/
theorem Rel.setBox (h : Rel B Xs G w0 ⟨fr, os, bs⟩ E a w) {k : Nat} {p : Nat × TypeId} {ys xs : List AC} {us : List Value} (hk : bs[k]? = some xs) (hp : E.bm[k]? = some p)
    (hy : Oks E os w ys us) (hw : w'.heap.size = w.heap.size) (ho : w'.os = w.os ∧ w'.tape = w.tape ∧ w'.output = w.output)
    (hblk : ∀ b, b ≠ p.1 → w'.heap[b]? = w.heap[b]?) (hrow : Row w' p.1 p.2 us) (d : Option Nat) {x : AV} {v : Value} (hx : x.ok E os w v) :
    Rel B Xs G w0 (St.put ⟨fr, os, bs.set k ys⟩ d x) E (a.put d v) w' := by
  have hpM : p.1 ∈ E.M := mem_M.2 (Or.inl ⟨k, p, hp, rfl⟩)
  have hS : Sim E os w E os w' :=
    { base := rfl, size := Nat.le_of_eq hw.symm, blk := fun b hlt hm => hblk b (fun e => hm (e ▸ hpM)), old := fun _ _ h => h,
      own := fun k o p h1 h2 => ⟨o, p, h1, h2, Nat.le_refl _, fun _ => ⟨rfl, rfl⟩⟩, box := fun _ _ h => h }
  have hnd := h.nodup
  unfold Env.M at hnd
  rw [List.nodup_append] at hnd
  have hkl : k < bs.length := (List.getElem?_eq_some_iff.1 hk).1
  exact
    { eb := h.eb
      ex := h.ex
      sim := by rw [stput_owns]; exact h.sim.trans hS
      defers := by rw [put_defers]; exact h.defers
      size := by rw [put_size, stput_len]; exact h.size
      fr := by
        rw [stput_owns]
        exact fr_put (st := ⟨fr, os, bs.set k ys⟩) h.size (fun t y hy => (h.fr t y hy).sim hS) (hx.sim hS)
      olen := by rw [stput_owns]; exact h.olen
      own := by
        rw [stput_owns]
        intro j o q h1 h2
        obtain ⟨cs, h3, h4, h6, h5⟩ := h.own j o q h1 h2
        have hr : ∀ b, q.1.ownBlock = some b → b ≠ p.1 := fun b hb e =>
          hnd.2.2 p.1 (List.mem_map.2 ⟨p, List.mem_of_getElem? hp, rfl⟩) b (List.mem_flatMap.2 ⟨q, List.mem_of_getElem? h2, by simpa using hb⟩) e.symm
        refine ⟨cs, ?_, h4.same (fun b hb => hblk b (fun e => (h5 b hb).1 (e ▸ hpM))) (Nat.le_of_eq hw.symm), h6, h5⟩
        obtain ⟨h7, h8⟩ := h3
        refine ⟨h7, ?_⟩
        rcases h8 with h8 | ⟨g, zz, cap, cur, hv, hg, hh, r⟩
        · exact Or.inl h8
        · exact Or.inr ⟨g, zz, cap, cur, hv, hg, by rw [hblk g (hr g (by rw [hv]; rfl))]; exact hh, r⟩
      blen := by rw [stput_boxes]; simp only [List.length_set]; exact h.blen
      box := by
        rw [stput_boxes, stput_owns]
        intro j zs q h1 h2
        simp only at h1
        rw [List.getElem?_set] at h1
        split at h1
        · next e =>
          subst e
          try rw [if_pos hkl] at h1
          injection h1 with h1
          subst h1
          rw [hp] at h2
          injection h2 with h2
          subst h2
          exact ⟨(M_lt_box h hp).1, us, hrow, hy.sim hS⟩
        · next e =>
          obtain ⟨h3, rs, h4, h5⟩ := h.box j zs q h1 h2
          exact ⟨h3, rs, h4.same (hblk q.1 (fun e' => e (map_fst_inj hnd.1 hp h2 e'.symm))), h5.sim hS⟩
      nodup := h.nodup
      below := h.below.trans ⟨ho.1, ho.2.1, ho.2.2, Nat.le_of_eq hw.symm, fun b hb => hblk b (fun e => by have := (M_lt_box h hp).1; omega)⟩
      base := by rw [hw]; exact h.base }
/-- A new slice of the call's own, its value and its nested blocks given. -/
theorem Rel.newOwnG (h : Rel B Xs G w0 ⟨fr, os, bs⟩ E a w) (hb : Below w.heap.size w w') {o : Own} {v : Value} {x : AV} {u : Value} {f : List Nat} {cs : List Value} (h1 : OwnsAt w' w.heap.size o.e o.s v o.l.length cs) (h2 : Rs w' o.l f cs) (h3 : El o.s o.l)
    (h4 : ∀ b ∈ f, b ∉ E.M ∧ some b ≠ v.ownBlock ∧ (o.nw = true → E.nw b)) (h0 : o.ver = 0) (d : Option Nat)
    (hx : ∀ (E' : Env) (os' : List Own), (AC.own os.length 0).ok E' os' w' v → x.ok E' os' w' u) :
    Rel B Xs G w0 (St.put ⟨fr, os ++ [o], bs⟩ d x) { E with om := E.om ++ [(v, f)] } (a.put d u) w' := by
  have hge : ∀ b, v.ownBlock = some b → w.heap.size ≤ b := fun b hb => (OwnsAt.lt h1 b hb).1
  have hS : Sim E os w { E with om := E.om ++ [(v, f)] } (os ++ [o]) w' :=
    { base := rfl, size := hb.size, blk := fun b hlt _ => hb.block b hlt,
      old := fun b hlt hm => by
        rcases (M_newOwn E _).1 hm with h' | h'
        · exact h'
        · have := hge b h'; omega
      own := fun k o p h1 h2 => ⟨o, p, snoc_get h1, snoc_get h2, Nat.le_refl _, fun _ => ⟨rfl, rfl⟩⟩
      box := fun k p hp => hp }
  have hol : E.om.length = os.length := h.olen
  exact
    { eb := h.eb
      ex := h.ex
      sim := by rw [stput_owns]; exact h.sim.trans hS
      defers := by rw [put_defers]; exact h.defers
      size := by rw [put_size, stput_len]; exact h.size
      fr := by
        rw [stput_owns]
        exact fr_put (st := ⟨fr, os ++ [o], bs⟩) h.size (fun t y hy => (h.fr t y hy).sim hS) (hx _ _ ⟨(ownsAt_form h1).imp fun A h => ⟨_, h⟩, o, (v, f), by simp, by simp [← hol], by omega, fun _ => rfl⟩)
      olen := by rw [stput_owns]; simp [hol]
      own := by
        rw [stput_owns]
        intro k o' p' g1 g2
        rcases get_snoc g1 with g1 | ⟨hk, rfl⟩
        · rcases get_snoc g2 with g2 | ⟨hk, rfl⟩
          · obtain ⟨cs', h5, h6, h7, h8⟩ := h.own k o' p' g1 g2
            refine ⟨cs', ownsAt_below h5 hb, h6.below hb, h7, fun b hbm => ⟨fun hm => ?_, (h8 b hbm).2⟩⟩
            rcases (M_newOwn E _).1 hm with h' | h'
            · exact (h8 b hbm).1 h'
            · have := Rs.lt h6 b hbm
              have := hge b h'
              omega
          · rw [hk, hol, List.getElem?_eq_none (Nat.le_refl _)] at g1; cases g1
        · rw [hk, ← hol] at g2
          simp at g2
          subst g2
          refine ⟨cs, ownsAt_mono h1 h.base, h2, h3, fun b hbm => ⟨fun hm => ?_, (h4 b hbm).2.2⟩⟩
          rcases (M_newOwn E _).1 hm with h' | h'
          · exact (h4 b hbm).1 h'
          · exact (h4 b hbm).2.1 h'.symm
      blen := by rw [stput_boxes]; exact h.blen
      box := by
        rw [stput_boxes, stput_owns]
        intro k ys p g1 g2
        obtain ⟨h5, us, h6, h7⟩ := h.box k ys p g1 g2
        exact ⟨h5, us, h6.below hb, h7.sim hS⟩
      nodup := by
        have hM := h.nodup
        unfold Env.M at hM ⊢
        simp only [List.flatMap_append, List.flatMap_cons, List.flatMap_nil, List.append_nil]
        rw [← List.append_assoc, List.nodup_append]
        refine ⟨hM, by cases v.ownBlock <;> simp, fun x hx y hy e => ?_⟩
        subst e
        have := (M_lt h hx).2
        have := hge x (by simpa using hy)
        omega
      below := h.below.trans (hb.mono h.base)
      base := Nat.le_trans h.base hb.size }
theorem Rel.newOwn (h : Rel B Xs G w0 ⟨fr, os, bs⟩ E a w) (hb : Below w.heap.size w w') {o : Own} {v : Value} {f : List Nat} {cs : List Value} (h1 : OwnsAt w' w.heap.size o.e o.s v o.l.length cs) (h2 : Rs w' o.l f cs) (h3 : El o.s o.l)
    (h4 : ∀ b ∈ f, b ∉ E.M ∧ some b ≠ v.ownBlock ∧ (o.nw = true → E.nw b)) (h0 : o.ver = 0) (d : Option Nat) :
    Rel B Xs G w0 (St.put ⟨fr, os ++ [o], bs⟩ d (.c false [.own os.length 0])) { E with om := E.om ++ [(v, f)] } (a.put d v) w' :=
  h.newOwnG hb h1 h2 h3 h4 h0 d (fun E' os' hx => ⟨hx, trivial⟩)
/-- Several new slices of the call's own. -/
theorem Rel.addOwns (h : Rel B Xs G w0 ⟨fr, os, bs⟩ E a w) (hb : Below w.heap.size w w') {os' : List Own} {om : List (Value × List Nat)} {x : AV} {u : Value} (ho : OwnsOk w.heap.size w' om os') (d : Option Nat)
    (hx : ∀ E' : Env, (∀ b, b ∈ E'.M ↔ b ∈ E.M ∨ b ∈ om.flatMap fun q => q.1.ownBlock.toList) → E'.nw = E.nw → E'.om = E.om ++ om → x.ok E' (os ++ os') w' u) :
    Rel B Xs G w0 (St.put ⟨fr, os ++ os', bs⟩ d x) { E with om := E.om ++ om } (a.put d u) w' := by
  obtain ⟨o1, o2, o3⟩ := ho
  have hge : ∀ b ∈ om.flatMap fun q => q.1.ownBlock.toList, w.heap.size ≤ b := fun b hb => by
    obtain ⟨q, hq, hqb⟩ := List.mem_flatMap.1 hb
    obtain ⟨k, hk⟩ := List.mem_iff_getElem?.1 hq
    have hk' : k < os'.length := by rw [← o1]; exact (List.getElem?_eq_some_iff.1 hk).1
    obtain ⟨cs, h1, _⟩ := o2 k _ q (List.getElem?_eq_getElem hk') hk
    exact (OwnsAt.lt h1 b (by simpa using hqb)).1
  have hol : E.om.length = os.length := h.olen
  have hS : Sim E os w { E with om := E.om ++ om } (os ++ os') w' :=
    { base := rfl, size := hb.size, blk := fun b hlt _ => hb.block b hlt,
      old := fun b hlt hm => by
        rcases (M_addOwns E om).1 hm with h' | h'
        · exact h'
        · have := hge b h'; omega
      own := fun k o p h1 h2 => ⟨o, p, by rw [List.getElem?_append_left (List.getElem?_eq_some_iff.1 h1).1]; exact h1, by rw [List.getElem?_append_left (List.getElem?_eq_some_iff.1 h2).1]; exact h2, Nat.le_refl _, fun _ => ⟨rfl, rfl⟩⟩
      box := fun k p hp => hp }
  exact
    { eb := h.eb
      ex := h.ex
      sim := by rw [stput_owns]; exact h.sim.trans hS
      defers := by rw [put_defers]; exact h.defers
      size := by rw [put_size, stput_len]; exact h.size
      fr := by
        rw [stput_owns]
        exact fr_put (st := ⟨fr, os ++ os', bs⟩) h.size (fun t y hy => (h.fr t y hy).sim hS) (hx _ (fun b => M_addOwns E om) rfl rfl)
      olen := by rw [stput_owns]; simp [hol, o1]
      own := by
        rw [stput_owns]
        intro k o' p' g1 g2
        simp only at g1 g2
        rcases get_app g1 with g1 | ⟨hk, g1⟩
        · have hk : k < E.om.length := by rw [hol]; exact (List.getElem?_eq_some_iff.1 g1).1
          rw [List.getElem?_append_left hk] at g2
          obtain ⟨cs', h5, h6, h7, h8⟩ := h.own k o' p' g1 g2
          refine ⟨cs', ownsAt_below h5 hb, h6.below hb, h7, fun b hbm => ⟨fun hm => ?_, (h8 b hbm).2⟩⟩
          rcases (M_addOwns E om).1 hm with h' | h'
          · exact (h8 b hbm).1 h'
          · have := Rs.lt h6 b hbm
            have := hge b h'
            omega
        · rw [List.getElem?_append_right (by omega), hol] at g2
          obtain ⟨cs, h1, h2, h3, h4⟩ := o2 _ o' p' g1 g2
          refine ⟨cs, ownsAt_mono h1 h.base, h2, h3, fun b hbm => ⟨fun hm => ?_, fun _ => h.nw_of (Nat.le_trans h.base (h4 b hbm).1)⟩⟩
          rcases (M_addOwns E om).1 hm with h' | h'
          · have := (M_lt h h').2
            have := (h4 b hbm).1
            omega
          · exact (h4 b hbm).2 h'
      blen := by rw [stput_boxes]; exact h.blen
      box := by
        rw [stput_boxes, stput_owns]
        intro k ys p g1 g2
        obtain ⟨h5, us, h6, h7⟩ := h.box k ys p g1 g2
        exact ⟨h5, us, h6.below hb, h7.sim hS⟩
      nodup := by
        have hM := h.nodup
        unfold Env.M at hM ⊢
        simp only [List.flatMap_append]
        rw [← List.append_assoc, List.nodup_append]
        refine ⟨hM, o3, fun x hx y hy e => ?_⟩
        subst e
        have := (M_lt h hx).2
        have := hge x hy
        omega
      below := h.below.trans (hb.mono h.base)
      base := Nat.le_trans h.base hb.size }
/-- An element of own slice number k is replaced: its value stands. -/
theorem Rel.setOwn (h : Rel B Xs G w0 ⟨fr, os, bs⟩ E a w) {k : Nat} {o : Own} {p : Value × List Nat} (ho : os[k]? = some o) (hp : E.om[k]? = some p) {l : List D} {nw : Bool} {f : List Nat} {cs : List Value} {b : Nat}
    (hb : p.1.ownBlock = some b) (hw : w'.heap.size = w.heap.size) (hos : w'.os = w.os ∧ w'.tape = w.tape ∧ w'.output = w.output) (hblk : ∀ g, g ≠ b → w'.heap[g]? = w.heap[g]?)
    (h1 : OwnsAt w' B o.e o.s p.1 l.length cs) (h2 : Rs w' l f cs) (h3 : El o.s l) (h4 : ∀ b ∈ f, b ∉ E.M ∧ (nw = true → E.nw b)) (d : Option Nat) :
    Rel B Xs G w0 (St.put ⟨fr, os.set k ⟨l, o.e, o.s, o.ver, nw⟩, bs⟩ d .any) { E with om := E.om.set k (p.1, f) } (a.put d undef) w' := by
  have hkl : k < os.length := (List.getElem?_eq_some_iff.1 ho).1
  have hke : k < E.om.length := (List.getElem?_eq_some_iff.1 hp).1
  have hol : E.om.length = os.length := h.olen
  have hbM : b ∈ E.M := mem_M.2 (Or.inr ⟨k, p, hp, hb⟩)
  have hob : (E.om.set k (p.1, f)).map (fun q => q.1.ownBlock.toList) = E.om.map (fun q => q.1.ownBlock.toList) := by
    rw [List.map_set]
    refine List.ext_getElem? fun j => ?_
    rw [List.getElem?_set]
    split
    · next e =>
      subst e
      rw [List.getElem?_map, hp]
      simp [hke]
    · rfl
  have hM : ({ E with om := E.om.set k (p.1, f) } : Env).M = E.M := by
    simp only [Env.M, List.flatMap_def, hob]
  have hS : Sim E os w { E with om := E.om.set k (p.1, f) } (os.set k ⟨l, o.e, o.s, o.ver, nw⟩) w' :=
    { base := rfl, size := Nat.le_of_eq hw.symm, blk := fun g hlt hm => hblk g (fun e => hm (e ▸ hbM)), old := fun g _ hm => by rw [hM] at hm; exact hm,
      own := fun j o' p' g1 g2 => by
        by_cases e : k = j
        · subst e
          rw [ho] at g1
          injection g1 with g1
          subst g1
          rw [hp] at g2
          injection g2 with g2
          subst g2
          exact ⟨⟨l, o.e, o.s, o.ver, nw⟩, (p.1, f), by rw [List.getElem?_set_self hkl], by rw [List.getElem?_set_self hke], Nat.le_refl _, fun _ => ⟨rfl, rfl⟩⟩
        · exact ⟨o', p', by rw [List.getElem?_set_ne e]; exact g1, by rw [List.getElem?_set_ne e]; exact g2, Nat.le_refl _, fun _ => ⟨rfl, rfl⟩⟩
      box := fun j p hp => hp }
  have hnd := h.nodup
  unfold Env.M at hnd
  rw [List.nodup_append] at hnd
  have hne : ∀ j q, E.om[j]? = some q → j ≠ k → q.1.ownBlock ≠ some b := by
    intro j q g1 hjk g2
    have : ∀ (L : List (Value × List Nat)) (i j : Nat) (p q : Value × List Nat), (L.flatMap (fun p => p.1.ownBlock.toList)).Nodup → L[i]? = some p → L[j]? = some q → p.1.ownBlock = some b → q.1.ownBlock = some b → i = j := by
      intro L
      induction L with
      | nil => intro i j p q _ hi; simp at hi
      | cons z L ih =>
        intro i j p q hn hi hj hpb hqb
        rw [List.flatMap_cons, List.nodup_append] at hn
        cases i with
        | zero =>
          cases j with
          | zero => rfl
          | succ j =>
            simp at hi hj
            subst hi
            exact absurd rfl (hn.2.2 b (by simp [hpb]) b (List.mem_flatMap.2 ⟨q, List.mem_of_getElem? hj, by simp [hqb]⟩))
        | succ i =>
          cases j with
          | zero =>
            simp at hi hj
            subst hj
            exact absurd rfl (hn.2.2 b (by simp [hqb]) b (List.mem_flatMap.2 ⟨p, List.mem_of_getElem? hi, by simp [hpb]⟩))
          | succ j =>
            simp at hi hj
            rw [ih i j p q hn.2.1 hi hj hpb hqb]
    exact hjk (this E.om j k q p hnd.2.1 g1 hp g2 hb)
  exact
    { eb := h.eb
      ex := h.ex
      sim := by rw [stput_owns]; exact h.sim.trans hS
      defers := by rw [put_defers]; exact h.defers
      size := by rw [put_size, stput_len]; exact h.size
      fr := by
        rw [stput_owns]
        exact fr_put (st := ⟨fr, os.set k ⟨l, o.e, o.s, o.ver, nw⟩, bs⟩) h.size (fun t y hy => (h.fr t y hy).sim hS) trivial
      olen := by rw [stput_owns]; simp [hol]
      own := by
        rw [stput_owns]
        intro j o' p' g1 g2
        simp only at g1 g2
        by_cases e : k = j
        · subst e
          rw [List.getElem?_set_self hkl] at g1
          rw [List.getElem?_set_self hke] at g2
          injection g1 with g1
          injection g2 with g2
          subst g1 g2
          exact ⟨cs, h1, h2, h3, fun g hg => ⟨by rw [hM]; exact (h4 g hg).1, (h4 g hg).2⟩⟩
        · rw [List.getElem?_set_ne e] at g1 g2
          obtain ⟨cs', h5, h6, h7, h8⟩ := h.own j o' p' g1 g2
          refine ⟨cs', ?_, h6.same (fun g hg => hblk g (fun e' => (h8 g hg).1 (e' ▸ hbM))) (Nat.le_of_eq hw.symm), h7, fun g hg => ⟨by rw [hM]; exact (h8 g hg).1, (h8 g hg).2⟩⟩
          obtain ⟨h9, h10⟩ := h5
          refine ⟨h9, ?_⟩
          rcases h10 with h10 | ⟨g, zz, cap, cur, hv, hgb, hh, r⟩
          · exact Or.inl h10
          · exact Or.inr ⟨g, zz, cap, cur, hv, hgb, by rw [hblk g (fun e' => hne j p' g2 (fun e'' => e e''.symm) (by rw [hv, e']; rfl))]; exact hh, r⟩
      blen := by rw [stput_boxes]; exact h.blen
      box := by
        rw [stput_boxes, stput_owns]
        intro j ys q g1 g2
        obtain ⟨h5, us, h6, h7⟩ := h.box j ys q g1 g2
        refine ⟨h5, us, h6.same (hblk q.1 (fun e => ?_)), h7.sim hS⟩
        exact hnd.2.2 q.1 (List.mem_map.2 ⟨q, List.mem_of_getElem? g2, rfl⟩) b (List.mem_flatMap.2 ⟨p, List.mem_of_getElem? hp, by simp [hb]⟩) e
      nodup := by rw [hM]; exact h.nodup
      below := h.below.trans ⟨hos.1, hos.2.1, hos.2.2, Nat.le_of_eq hw.symm, fun g hg => hblk g (fun e => by have := (M_lt_own h hp hb).1; omega)⟩
      base := by rw [hw]; exact h.base }
/-- Own slice number k has grown. -/
theorem Rel.grow (h : Rel B Xs G w0 ⟨fr, os, bs⟩ E a w) {k : Nat} {o : Own} {p : Value × List Nat} (ho : os[k]? = some o) (hp : E.om[k]? = some p) {l : List D} {nw : Bool} {v : Value} {f : List Nat} {cs : List Value}
    (hg : w.grownBy w' p.1.ownBlock) (hat : v.ownBlock = p.1.ownBlock ∨ v.ownBlock = some w.heap.size)
    (h1 : OwnsAt w' B o.e o.s v l.length cs) (h2 : Rs w' l f cs) (h3 : El o.s l) (h4 : ∀ b ∈ f, b < w.heap.size ∧ b ∉ E.M ∧ (nw = true → E.nw b)) (d : Option Nat) :
    Rel B Xs G w0 (St.put ⟨fr, os.set k ⟨l, o.e, o.s, o.ver + 1, nw⟩, bs⟩ d (.c false [.own k (o.ver + 1)])) { E with om := E.om.set k (v, f) } (a.put d v) w' := by
  have hkl : k < os.length := (List.getElem?_eq_some_iff.1 ho).1
  have hke : k < E.om.length := (List.getElem?_eq_some_iff.1 hp).1
  have hol : E.om.length = os.length := h.olen
  have hpM : ∀ b, p.1.ownBlock = some b → b ∈ E.M := fun b hb => mem_M.2 (Or.inr ⟨k, p, hp, hb⟩)
  have hM : ∀ b, b ∈ ({ E with om := E.om.set k (v, f) } : Env).M → b ∈ E.M ∨ b = w.heap.size := by
    intro b hb
    rcases mem_M.1 hb with ⟨j, q, g1, g2⟩ | ⟨j, q, g1, g2⟩
    · exact Or.inl (mem_M.2 (Or.inl ⟨j, q, g1, g2⟩))
    · simp only at g1
      rw [List.getElem?_set] at g1
      split at g1
      · try rw [if_pos hke] at g1
        injection g1 with g1
        subst g1
        rcases hat with e | e
        · exact Or.inl (hpM b (by rw [← e]; exact g2))
        · simp only at g2
          rw [e] at g2
          injection g2 with g2
          exact Or.inr g2.symm
      · exact Or.inl (mem_M.2 (Or.inr ⟨j, q, g1, g2⟩))
  have hblk : ∀ b, b < w.heap.size → b ∉ E.M → w'.heap[b]? = w.heap[b]? := fun b hlt hm => hg.block b hlt (fun e => hm (hpM b e.symm))
  have hS : Sim E os w { E with om := E.om.set k (v, f) } (os.set k ⟨l, o.e, o.s, o.ver + 1, nw⟩) w' :=
    { base := rfl, size := hg.size, blk := hblk,
      old := fun b hlt hm => by
        rcases hM b hm with h' | h'
        · exact h'
        · omega
      own := fun j o' p' g1 g2 => by
        by_cases e : k = j
        · subst e
          rw [ho] at g1
          injection g1 with g1
          subst g1
          exact ⟨⟨l, o.e, o.s, o.ver + 1, nw⟩, (v, f), by rw [List.getElem?_set_self hkl], by rw [List.getElem?_set_self hke], Nat.le_succ _, fun e => by simp only at e; omega⟩
        · exact ⟨o', p', by rw [List.getElem?_set_ne e]; exact g1, by rw [List.getElem?_set_ne e]; exact g2, Nat.le_refl _, fun _ => ⟨rfl, rfl⟩⟩
      box := fun j p hp => hp }
  have hnd := h.nodup
  have hnd' := hnd
  unfold Env.M at hnd'
  rw [List.nodup_append] at hnd'
  have hne : ∀ j q, E.om[j]? = some q → j ≠ k → ∀ b, q.1.ownBlock = some b → some b ≠ p.1.ownBlock := by
    intro j q g1 hjk b g2 e
    -- two own slices with one block
    have hfl := hnd'.2.1
    have : ∀ (L : List (Value × List Nat)) (i j : Nat) (p q : Value × List Nat) (b : Nat), (L.flatMap (fun p => p.1.ownBlock.toList)).Nodup → L[i]? = some p → L[j]? = some q → p.1.ownBlock = some b → q.1.ownBlock = some b → i = j := by
      intro L
      induction L with
      | nil => intro i j p q b _ hi; simp at hi
      | cons z L ih =>
        intro i j p q b hn hi hj hpb hqb
        rw [List.flatMap_cons, List.nodup_append] at hn
        cases i with
        | zero =>
          cases j with
          | zero => rfl
          | succ j =>
            simp at hi hj
            subst hi
            exact absurd rfl (hn.2.2 b (by simp [hpb]) b (List.mem_flatMap.2 ⟨q, List.mem_of_getElem? hj, by simp [hqb]⟩))
        | succ i =>
          cases j with
          | zero =>
            simp at hi hj
            subst hj
            exact absurd rfl (hn.2.2 b (by simp [hqb]) b (List.mem_flatMap.2 ⟨p, List.mem_of_getElem? hi, by simp [hpb]⟩))
          | succ j =>
            simp at hi hj
            rw [ih i j p q b hn.2.1 hi hj hpb hqb]
    exact hjk (this E.om j k q p b hfl g1 hp g2 e.symm)
  exact
    { eb := h.eb
      ex := h.ex
      sim := by rw [stput_owns]; exact h.sim.trans hS
      defers := by rw [put_defers]; exact h.defers
      size := by rw [put_size, stput_len]; exact h.size
      fr := by
        rw [stput_owns]
        refine fr_put (st := ⟨fr, os.set k ⟨l, o.e, o.s, o.ver + 1, nw⟩, bs⟩) h.size (fun t y hy => (h.fr t y hy).sim hS) ⟨⟨(ownsAt_form h1).imp fun A h => ⟨_, h⟩, ⟨l, o.e, o.s, o.ver + 1, nw⟩, (v, f), ?_, ?_, Nat.le_refl _, fun _ => rfl⟩, trivial⟩
        · simp only; rw [List.getElem?_set_self hkl]
        · simp only; rw [List.getElem?_set_self hke]
      olen := by rw [stput_owns]; simp [hol]
      own := by
        rw [stput_owns]
        intro j o' p' g1 g2
        simp only at g1 g2
        by_cases e : k = j
        · subst e
          rw [List.getElem?_set_self hkl] at g1
          rw [List.getElem?_set_self hke] at g2
          injection g1 with g1
          injection g2 with g2
          subst g1 g2
          refine ⟨cs, h1, h2, h3, fun b hb => ⟨fun hm => ?_, (h4 b hb).2.2⟩⟩
          rcases hM b hm with h' | h'
          · exact (h4 b hb).2.1 h'
          · have := (h4 b hb).1; omega
        · rw [List.getElem?_set_ne e] at g1 g2
          obtain ⟨cs', h5, h6, h7, h8⟩ := h.own j o' p' g1 g2
          refine ⟨cs', ?_, h6.same (fun b hb => hblk b (Rs.lt h6 b hb) (h8 b hb).1) hg.size, h7, fun b hb => ⟨fun hm => ?_, (h8 b hb).2⟩⟩
          · obtain ⟨h9, h10⟩ := h5
            refine ⟨h9, ?_⟩
            rcases h10 with h10 | ⟨g, zz, cap, cur, hv, hgb, hh, r⟩
            · exact Or.inl h10
            · have hgl : g < w.heap.size := by
                rcases Nat.lt_or_ge g w.heap.size with hlt | hge
                · exact hlt
                · rw [Array.getElem?_eq_none hge] at hh; cases hh
              exact Or.inr ⟨g, zz, cap, cur, hv, hgb, by rw [hg.block g hgl (hne j p' g2 (fun e' => e e'.symm) g (by rw [hv]; rfl))]; exact hh, r⟩
          · rcases hM b hm with h' | h'
            · exact (h8 b hb).1 h'
            · have := Rs.lt h6 b hb; omega
      blen := by rw [stput_boxes]; exact h.blen
      box := by
        rw [stput_boxes, stput_owns]
        intro j ys q g1 g2
        obtain ⟨h5, us, h6, h7⟩ := h.box j ys q g1 g2
        refine ⟨h5, us, h6.same (hg.block q.1 h6.lt (fun e => ?_)), h7.sim hS⟩
        exact hnd'.2.2 q.1 (List.mem_map.2 ⟨q, List.mem_of_getElem? g2, rfl⟩) q.1 (List.mem_flatMap.2 ⟨p, List.mem_of_getElem? hp, by simp [← e]⟩) rfl
      nodup := by
        unfold Env.M
        rw [List.nodup_append]
        have hset : ∀ (L : List (Value × List Nat)) (i : Nat) (z : Value × List Nat) (p : Value × List Nat), L[i]? = some p → (L.flatMap (fun p => p.1.ownBlock.toList)).Nodup → (∀ b, z.1.ownBlock = some b → b ∈ p.1.ownBlock.toList ∨ b ∉ L.flatMap (fun p => p.1.ownBlock.toList)) →
            ((L.set i z).flatMap (fun p => p.1.ownBlock.toList)).Nodup ∧ ∀ x ∈ (L.set i z).flatMap (fun p => p.1.ownBlock.toList), x ∈ z.1.ownBlock.toList ∨ x ∈ L.flatMap (fun p => p.1.ownBlock.toList) := by
          intro L
          induction L with
          | nil => intro i z p hi; simp at hi
          | cons y L ih =>
            intro i z p hi hn hz
            rw [List.flatMap_cons, List.nodup_append] at hn
            cases i with
            | zero =>
              simp at hi
              subst hi
              rw [List.set_cons_zero, List.flatMap_cons]
              refine ⟨List.nodup_append.2 ⟨by cases z.1.ownBlock <;> simp, hn.2.1, fun x hx x' hx' e => ?_⟩, fun x hx => ?_⟩
              · subst e
                rcases hz x (by simpa using hx) with h' | h'
                · exact hn.2.2 x h' x hx' rfl
                · exact h' (by rw [List.flatMap_cons]; exact List.mem_append_right _ hx')
              · rcases List.mem_append.1 hx with h' | h'
                · exact Or.inl h'
                · exact Or.inr (by rw [List.flatMap_cons]; exact List.mem_append_right _ h')
            | succ i =>
              simp at hi
              obtain ⟨i1, i2⟩ := ih i z p hi hn.2.1 (fun b hb => by
                rcases hz b hb with h' | h'
                · exact Or.inl h'
                · exact Or.inr (fun hm => h' (by rw [List.flatMap_cons]; exact List.mem_append_right _ hm)))
              rw [List.set_cons_succ, List.flatMap_cons]
              refine ⟨List.nodup_append.2 ⟨hn.1, i1, fun x hx x' hx' e => ?_⟩, fun x hx => ?_⟩
              · subst e
                rcases i2 x hx' with h' | h'
                · rcases hz x (by simpa using h') with h'' | h''
                  · exact hn.2.2 x hx x (List.mem_flatMap.2 ⟨p, List.mem_of_getElem? hi, h''⟩) rfl
                  · exact h'' (by rw [List.flatMap_cons]; exact List.mem_append_left _ hx)
                · exact hn.2.2 x hx x h' rfl
              · rcases List.mem_append.1 hx with h' | h'
                · exact Or.inr (by rw [List.flatMap_cons]; exact List.mem_append_left _ h')
                · rcases i2 x h' with h'' | h''
                  · exact Or.inl h''
                  · exact Or.inr (by rw [List.flatMap_cons]; exact List.mem_append_right _ h'')
        obtain ⟨s1, s2⟩ := hset E.om k (v, f) p hp hnd'.2.1 (fun b hb => by
          rcases hat with e | e
          · exact Or.inl (by simp only at hb; rw [e] at hb; simp [hb])
          · refine Or.inr (fun hm => ?_)
            simp only at hb
            rw [e] at hb
            injection hb with hb
            subst hb
            exact Nat.lt_irrefl _ (M_lt h (List.mem_append_right _ hm)).2)
        refine ⟨hnd'.1, s1, fun x hx y hy e => ?_⟩
        subst e
        rcases s2 x hy with h' | h'
        · rcases hat with e | e
          · exact hnd'.2.2 x hx x (List.mem_flatMap.2 ⟨p, List.mem_of_getElem? hp, by simp only at h'; rw [e] at h'; exact h'⟩) rfl
          · simp only at h'
            rw [e] at h'
            simp at h'
            subst h'
            exact Nat.lt_irrefl _ (M_lt h (List.mem_append_left _ hx)).2
        · exact hnd'.2.2 x hx x h' rfl
      below := h.below.grown hg h.base (fun b hb => (M_lt_own h hp hb).1)
      base := Nat.le_trans h.base hg.size }
end
end Go.Proofs.YtdjcflnemnknaaaDoor
