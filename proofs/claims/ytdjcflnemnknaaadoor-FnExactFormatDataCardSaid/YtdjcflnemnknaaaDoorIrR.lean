/-
  Loops at whose head the slices of the call's own are numbered anew.
-/
import Derived.Test.YtdjcflnemnknaaaDoorIrW
namespace Go.Proofs.YtdjcflnemnknaaaDoor
open Go.RowKit
set_option linter.unusedSimpArgs false
set_option linter.unusedVariables false

def AC.ren (pk : List Nat) : AC → AC
  | .own k i => .own (pk.getD k 0) i
  | .osub k i a b => .osub (pk.getD k 0) i a b
  | x => x
def AV.ren (pk : List Nat) : AV → AV
  | .c g xs => .c g (xs.map (AC.ren pk))
  | .ptr xs => .ptr (xs.map (AC.ren pk))
  | .eptr k i j off => .eptr (pk.getD k 0) i j off
  | .tup ys => .tup (ys.map fun y => (y.1, y.2.map (AC.ren pk)))
  | x => x
def FrLeR (pk : List Nat) (n m : Nat) : List AV → List AV → Prop
  | [], [] => True
  | x :: xs, y :: ys => (y = .any ∨ (x = y.ren pk ∧ y.fits n m = true)) ∧ FrLeR pk n m xs ys
  | _, _ => False
def OwnLeR (os : List Own) : List Nat → List Own → Prop
  | [], [] => True
  | k :: pk, o' :: os' => (match os[k]? with | some o => o.l = o'.l ∧ o.e = o'.e ∧ o.s = o'.s ∧ o.ver = o'.ver ∧ o.nw = o'.nw | none => False) ∧ OwnLeR os pk os'
  | _, _ => False
def BoxLeR (pk : List Nat) : List (List AC) → List (List AC) → Prop
  | _, [] => True
  | x :: xs, y :: ys => x = y.map (AC.ren pk) ∧ BoxLeR pk xs ys
  | [], _ :: _ => False
/-- Less is known, and the own slices with the numbers pk are kept, in this order. -/
def StLeR (pk : List Nat) (st st' : St) : Prop := pk.Nodup ∧ FrLeR pk st'.owns.length st'.boxes.length st.fr st'.fr ∧ OwnLeR st.owns pk st'.owns ∧ BoxLeR pk st.boxes st'.boxes ∧ (st'.boxes.all fun xs => xs.all (AC.fits st'.owns.length st'.boxes.length)) = true
theorem ownLeR_get {os : List Own} : ∀ {pk : List Nat} {os' : List Own}, OwnLeR os pk os' → pk.length = os'.length ∧ ∀ (j : Nat) (o' : Own), os'[j]? = some o' → ∃ k, pk[j]? = some k ∧ os[k]? = some o'
  | [], [], _ => ⟨rfl, fun j o' h => by simp at h⟩
  | k :: pk, o' :: os', h => by
    obtain ⟨h1, h2⟩ := ownLeR_get h.2
    refine ⟨by simp [h1], fun j o'' g => ?_⟩
    cases j with
    | zero =>
      simp at g
      subst g
      have h3 := h.1
      split at h3
      · next o ho =>
        refine ⟨k, rfl, ?_⟩
        rw [ho]
        congr 1
        cases o; cases o'; simp_all
      · exact h3.elim
    | succ j => simpa using h2 j o'' (by simpa using g)
  | [], _ :: _, h => h.elim
  | _ :: _, [], h => h.elim
theorem boxLeR_get {pk : List Nat} : ∀ {xs ys : List (List AC)}, BoxLeR pk xs ys → ys.length ≤ xs.length ∧ ∀ (j : Nat) (y : List AC), ys[j]? = some y → xs[j]? = some (y.map (AC.ren pk))
  | xs, [], _ => ⟨Nat.zero_le _, fun j y h => by simp at h⟩
  | x :: xs, y :: ys, h => by
    obtain ⟨h1, h2⟩ := boxLeR_get h.2
    refine ⟨by simp; exact h1, fun j z g => ?_⟩
    cases j with
    | zero => simp at g; subst g; simp [h.1]
    | succ j => simpa using h2 j z (by simpa using g)
  | [], _ :: _, h => h.elim
theorem frLeR_get {pk : List Nat} {n m : Nat} : ∀ {xs ys : List AV}, FrLeR pk n m xs ys → xs.length = ys.length ∧ ∀ (t : Nat) (y : AV), ys[t]? = some y → y = .any ∨ (xs[t]? = some (y.ren pk) ∧ y.fits n m = true)
  | [], [], _ => ⟨rfl, fun t y h => by simp at h⟩
  | x :: xs, y :: ys, h => by
    obtain ⟨h1, h2⟩ := frLeR_get h.2
    refine ⟨by simp [h1], fun t z hz => ?_⟩
    cases t with
    | zero =>
      simp at hz
      subst hz
      rcases h.1 with h' | ⟨h', h''⟩
      · exact Or.inl h'
      · exact Or.inr ⟨by simp [h'], h''⟩
    | succ t => simpa using h2 t z (by simpa using hz)
  | [], _ :: _, h => h.elim
  | _ :: _, [], h => h.elim
def Env.pick (E : Env) (pk : List Nat) (m : Nat) : Env := { E with om := pk.map fun k => E.om.getD k (undef, []), bm := E.bm.take m }
theorem flat_inj : ∀ (L : List (Value × List Nat)) (i j : Nat) (p q : Value × List Nat) (b : Nat), (L.flatMap (fun p => p.1.ownBlock.toList)).Nodup → L[i]? = some p → L[j]? = some q → p.1.ownBlock = some b → q.1.ownBlock = some b → i = j := by
  intro L
  induction L with
  | nil => intro i j p q b _ hi; simp at hi
  | cons z L ih =>
    intro i j p q b hn hi hj hpb hqb
    rw [List.flatMap_cons, List.nodup_append] at hn
    cases i with
    | zero =>
      cases j with
      | zero => rfl
      | succ j =>
        simp at hi hj
        subst hi
        exact absurd rfl (hn.2.2 b (by simp [hpb]) b (List.mem_flatMap.2 ⟨q, List.mem_of_getElem? hj, by simp [hqb]⟩))
    | succ i =>
      cases j with
      | zero =>
        simp at hi hj
        subst hj
        exact absurd rfl (hn.2.2 b (by simp [hqb]) b (List.mem_flatMap.2 ⟨p, List.mem_of_getElem? hi, by simp [hpb]⟩))
      | succ j =>
        simp at hi hj
        rw [ih i j p q b hn.2.1 hi hj hpb hqb]
theorem pick_mem {L : List (Value × List Nat)} {pk : List Nat} (hlt : ∀ k ∈ pk, k < L.length) {b : Nat} (hb : b ∈ (pk.map fun k => L.getD k (undef, [])).flatMap fun p => p.1.ownBlock.toList) : ∃ k ∈ pk, ∃ p, L[k]? = some p ∧ p.1.ownBlock = some b := by
  obtain ⟨q, hq, hqb⟩ := List.mem_flatMap.1 hb
  obtain ⟨k, hk, rfl⟩ := List.mem_map.1 hq
  have hkl := hlt k hk
  rw [List.getD_eq_getElem?_getD, List.getElem?_eq_getElem hkl] at hqb
  exact ⟨k, hk, L[k], List.getElem?_eq_getElem hkl, by simpa using hqb⟩
theorem pick_nodup {L : List (Value × List Nat)} (hL : (L.flatMap (fun p => p.1.ownBlock.toList)).Nodup) : ∀ {pk : List Nat}, pk.Nodup → (∀ k ∈ pk, k < L.length) → ((pk.map fun k => L.getD k (undef, [])).flatMap fun p => p.1.ownBlock.toList).Nodup
  | [], _, _ => List.nodup_nil
  | k :: pk, hn, hlt => by
    rw [List.nodup_cons] at hn
    rw [List.map_cons, List.flatMap_cons, List.nodup_append]
    refine ⟨by cases (L.getD k (undef, [])).1.ownBlock <;> simp, pick_nodup hL hn.2 (fun j hj => hlt j (by simp [hj])), fun x hx y hy e => ?_⟩
    subst e
    obtain ⟨j, hj, p, g1, g2⟩ := pick_mem (fun j hj => hlt j (by simp [hj])) hy
    have hkl := hlt k (by simp)
    rw [List.getD_eq_getElem?_getD, List.getElem?_eq_getElem hkl] at hx
    have := flat_inj L k j L[k] p x hL (List.getElem?_eq_getElem hkl) g1 (by simpa using hx) g2
    subst this
    exact hn.1 hj
section
variable {B : Nat} {Xs : List Nat} {G : Org} {w0 : World} {st st' : St} {E : Env} {a : Act} {w : World} {pk : List Nat} {m : Nat} {os os' : List Own}
theorem pick_M (hlt : ∀ k ∈ pk, k < E.om.length) {b : Nat} (h : b ∈ (E.pick pk m).M) : b ∈ E.M := by
  unfold Env.M at h ⊢
  rcases List.mem_append.1 h with h | h
  · refine List.mem_append_left _ ?_
    exact ((List.take_sublist m E.bm).map _).subset h
  · refine List.mem_append_right _ ?_
    obtain ⟨k, hk, p, g1, g2⟩ := pick_mem hlt h
    exact List.mem_flatMap.2 ⟨p, List.mem_of_getElem? g1, by simp [g2]⟩
theorem pick_om {j k : Nat} (hk : pk[j]? = some k) {p : Value × List Nat} (hp : E.om[k]? = some p) : (E.pick pk m).om[j]? = some p := by
  simp only [Env.pick, List.getElem?_map, hk, Option.map_some, List.getD_eq_getElem?_getD, hp, Option.getD_some]
theorem AC.ok.pick (hlt : ∀ k ∈ pk, k < E.om.length) (hl : pk.length = os'.length) (ho : ∀ (j : Nat) (o' : Own), os'[j]? = some o' → ∃ k, pk[j]? = some k ∧ os[k]? = some o') {x : AC} {v : Value} (h : (x.ren pk).ok E os w v) (hf : x.fits os'.length m = true) : x.ok (E.pick pk m) os' w v := by
  cases x with
  | any => trivial
  | raw u => exact h
  | cl f caps =>
    obtain ⟨ps, h1, h2⟩ := h
    refine ⟨ps, ?_, h2⟩
    rw [← h1]
    refine List.map_congr_left fun k hk => ?_
    have : k < m := by simpa using List.all_eq_true.1 hf k hk
    simp only [Env.pick]
    rw [List.getElem?_take, if_pos this]
  | sl b l =>
    obtain ⟨fp, h1, h2⟩ := h
    exact ⟨fp, h1, fun b hb => ⟨fun hm => (h2 b hb).1 (pick_M hlt hm), (h2 b hb).2⟩⟩
  | own k i =>
    obtain ⟨hv, o, p, h1, h2, h3, h4⟩ := h
    have hk : k < os'.length := by simpa [AC.fits] using hf
    obtain ⟨k0, g1, g2⟩ := ho k _ (List.getElem?_eq_getElem hk)
    have e : pk.getD k 0 = k0 := by rw [List.getD_eq_getElem?_getD, g1]; rfl
    rw [e] at h1 h2
    rw [h1] at g2
    injection g2 with g2
    exact ⟨hv, o, p, by rw [List.getElem?_eq_getElem hk, ← g2], pick_om g1 h2, h3, h4⟩
  | osub k i pa pb =>
    obtain ⟨hv, o, p, h1, h2, h3, h4⟩ := h
    have hk : k < os'.length := by simpa [AC.fits] using hf
    obtain ⟨k0, g1, g2⟩ := ho k _ (List.getElem?_eq_getElem hk)
    have e : pk.getD k 0 = k0 := by rw [List.getD_eq_getElem?_getD, g1]; rfl
    rw [e] at h1 h2
    rw [h1] at g2
    injection g2 with g2
    exact ⟨hv, o, p, by rw [List.getElem?_eq_getElem hk, ← g2], pick_om g1 h2, h3, h4⟩
theorem Oks.pick (hlt : ∀ k ∈ pk, k < E.om.length) (hl : pk.length = os'.length) (ho : ∀ (j : Nat) (o' : Own), os'[j]? = some o' → ∃ k, pk[j]? = some k ∧ os[k]? = some o') : ∀ {xs : List AC} {vs : List Value}, Oks E os w (xs.map (AC.ren pk)) vs → xs.all (AC.fits os'.length m) = true → Oks (E.pick pk m) os' w xs vs
  | [], [], _, _ => trivial
  | x :: xs, v :: vs, h, hf => by
    simp only [List.all_cons, Bool.and_eq_true] at hf
    exact ⟨AC.ok.pick hlt hl ho h.1 hf.1, Oks.pick hlt hl ho h.2 hf.2⟩
  | [], _ :: _, h, _ => h.elim
  | _ :: _, [], h, _ => h.elim
theorem Gok.pick (hlt : ∀ k ∈ pk, k < E.om.length) (hl : pk.length = os'.length) (ho : ∀ (j : Nat) (o' : Own), os'[j]? = some o' → ∃ k, pk[j]? = some k ∧ os[k]? = some o') {g : Bool} {xs : List AC} {v : Value} (h : Gok E os w g (xs.map (AC.ren pk)) v) (hf : xs.all (AC.fits os'.length m) = true) : Gok (E.pick pk m) os' w g xs v := by
  cases g with
  | true => obtain ⟨vs, h1, h2⟩ := h; exact ⟨vs, h1, h2.pick hlt hl ho hf⟩
  | false => exact Oks.pick hlt hl ho (show Oks _ _ _ _ [v] from h) hf
theorem Toks.pick (hlt : ∀ k ∈ pk, k < E.om.length) (hl : pk.length = os'.length) (ho : ∀ (j : Nat) (o' : Own), os'[j]? = some o' → ∃ k, pk[j]? = some k ∧ os[k]? = some o') : ∀ {ys : List (Bool × List AC)} {vs : List Value}, Toks E os w (ys.map fun y => (y.1, y.2.map (AC.ren pk))) vs → (ys.all fun y => y.2.all (AC.fits os'.length m)) = true → Toks (E.pick pk m) os' w ys vs
  | [], [], _, _ => trivial
  | y :: ys, v :: vs, h, hf => by
    simp only [List.all_cons, Bool.and_eq_true] at hf
    exact ⟨Gok.pick hlt hl ho h.1 hf.1, Toks.pick hlt hl ho h.2 hf.2⟩
  | [], _ :: _, h, _ => h.elim
  | _ :: _, [], h, _ => h.elim
theorem AV.ok.pick (hlt : ∀ k ∈ pk, k < E.om.length) (hl : pk.length = os'.length) (ho : ∀ (j : Nat) (o' : Own), os'[j]? = some o' → ∃ k, pk[j]? = some k ∧ os[k]? = some o') {x : AV} {v : Value} (h : (x.ren pk).ok E os w v) (hf : x.fits os'.length m = true) : x.ok (E.pick pk m) os' w v := by
  cases x with
  | any => trivial
  | c g xs => exact Gok.pick hlt hl ho h hf
  | ptr xs =>
    obtain ⟨b, o, vs, h1, h2, h3, h4, h5⟩ := h
    exact ⟨b, o, vs, h1, h2, fun hm => h3 (pick_M hlt hm), h4, h5.pick hlt hl ho hf⟩
  | bptr k off =>
    obtain ⟨p, h1, h2⟩ := h
    refine ⟨p, ?_, h2⟩
    simp only [Env.pick]
    rw [List.getElem?_take, if_pos (by simpa [AV.fits] using hf)]
    exact h1
  | eptr k i j off =>
    obtain ⟨o, p, h1, h2, h3, h4⟩ := h
    have hk : k < os'.length := by simpa [AV.fits] using hf
    obtain ⟨k0, g1, g2⟩ := ho k _ (List.getElem?_eq_getElem hk)
    have e : pk.getD k 0 = k0 := by rw [List.getD_eq_getElem?_getD, g1]; rfl
    rw [e] at h1 h2
    rw [h1] at g2
    injection g2 with g2
    exact ⟨o, p, by rw [List.getElem?_eq_getElem hk, ← g2], pick_om g1 h2, h3, h4⟩
  | tup ys =>
    obtain ⟨vs, h1, h2⟩ := h
    exact ⟨vs, h1, h2.pick hlt hl ho hf⟩
theorem Rel.weakR (h : Rel B Xs G w0 st E a w) (hle : StLeR pk st st') (hG1 : G.os.length = 0) (hG2 : G.E.bm.length ≤ st'.boxes.length) : ∃ E', Rel B Xs G w0 st' E' a w := by
  obtain ⟨hnd, h1, h2, h3, h4⟩ := hle
  obtain ⟨hl, hf⟩ := frLeR_get h1
  obtain ⟨hpl, ho⟩ := ownLeR_get h2
  obtain ⟨hbl, hb⟩ := boxLeR_get h3
  have hol := h.olen
  have hbl' := h.blen
  have hlt : ∀ k ∈ pk, k < E.om.length := fun k hk => by
    obtain ⟨j, hj⟩ := List.mem_iff_getElem?.1 hk
    have hjl : j < st'.owns.length := by rw [← hpl]; exact (List.getElem?_eq_some_iff.1 hj).1
    obtain ⟨k', g1, g2⟩ := ho j _ (List.getElem?_eq_getElem hjl)
    rw [hj] at g1
    injection g1 with g1
    subst g1
    rw [hol]
    exact (List.getElem?_eq_some_iff.1 g2).1
  have hnil : G.os = [] := List.eq_nil_of_length_eq_zero hG1
  refine ⟨E.pick pk st'.boxes.length, ?_⟩
  exact
    { eb := h.eb
      ex := h.ex
      sim := { base := h.sim.base, size := h.sim.size, blk := h.sim.blk, old := fun b hb hm => h.sim.old b hb (pick_M hlt hm),
               own := fun k o p g1 g2 => by rw [hnil] at g1; simp at g1
               box := fun k p g => by
                 have hk : k < st'.boxes.length := Nat.lt_of_lt_of_le (List.getElem?_eq_some_iff.1 g).1 hG2
                 simp only [Env.pick]
                 rw [List.getElem?_take, if_pos hk]; exact h.sim.box k p g }
      defers := h.defers
      size := by rw [h.size]; exact hl
      fr := fun t y hy => by
        rcases hf t y hy with rfl | ⟨h5, h6⟩
        · trivial
        · exact AV.ok.pick hlt hpl ho (h.fr t _ h5) h6
      olen := by simp only [Env.pick, List.length_map]; exact hpl
      own := fun k o p g1 g2 => by
        obtain ⟨k0, q1, q2⟩ := ho k o g1
        have hk0 : k0 < E.om.length := hlt k0 (List.mem_of_getElem? q1)
        have hp : E.om[k0]? = some p := by
          have := pick_om (m := st'.boxes.length) q1 (List.getElem?_eq_getElem hk0)
          rw [this] at g2
          rw [List.getElem?_eq_getElem hk0]
          exact g2
        obtain ⟨cs, h5, h6, h7, h8⟩ := h.own k0 o p q2 hp
        exact ⟨cs, h5, h6, h7, fun b hb => ⟨fun hm => (h8 b hb).1 (pick_M hlt hm), (h8 b hb).2⟩⟩
      blen := by simp only [Env.pick, List.length_take]; omega
      box := fun k xs p g1 g2 => by
        have hk : k < st'.boxes.length := (List.getElem?_eq_some_iff.1 g1).1
        simp only [Env.pick] at g2
        rw [List.getElem?_take, if_pos hk] at g2
        obtain ⟨h5, vs, h6, h7⟩ := h.box k _ p (hb k xs g1) g2
        exact ⟨h5, vs, h6, h7.pick hlt hpl ho (List.all_eq_true.1 h4 xs (List.mem_of_getElem? g1))⟩
      nodup := by
        have := h.nodup
        unfold Env.M at this ⊢
        rw [List.nodup_append] at this ⊢
        refine ⟨this.1.sublist (by simp only [Env.pick]; exact (List.take_sublist _ _).map _), pick_nodup this.2.1 hnd hlt, fun x hx y hy => ?_⟩
        refine this.2.2 x ?_ y ?_
        · exact ((List.take_sublist st'.boxes.length E.bm).map _).subset hx
        · obtain ⟨k, hk, p, g1, g2⟩ := pick_mem hlt hy
          exact List.mem_flatMap.2 ⟨p, List.mem_of_getElem? g1, by simp [g2]⟩
      below := h.below
      base := h.base }
end
/-- The end of a round: the head's form again, with own slices numbered anew. -/
def ARoundR {X : Type} (F : X → St) (inv : X → Prop) (μ : X → Nat) (x : X) (Q : Exit → St → Prop) : Exit → St → Prop
  | .normal, st => ∃ x' pk, StLeR pk st (F x') ∧ inv x' ∧ μ x' < μ x
  | e, st => Q e st
section
variable {P : Program} {Q : Exit → St → Prop} {st : St} {i : Nat}
theorem roundExitR {X : Type} {F : X → St} {inv : X → Prop} {μ : X → Nat} {x : X} (h : Q (.exit i) st) : ARoundR F inv μ x Q (.exit i) st := h
theorem roundRetR {X : Type} {F : X → St} {inv : X → Prop} {μ : X → Nat} {x : X} (h : Q .ret st) : ARoundR F inv μ x Q .ret st := h
theorem roundR {X : Type} {F : X → St} {inv : X → Prop} {μ : X → Nat} {x : X} (x' : X) (pk : List Nat) (h1 : StLeR pk st (F x')) (h2 : inv x') (h3 : μ x' < μ x) : ARoundR F inv μ x Q .normal st := ⟨x', pk, h1, h2, h3⟩
theorem awp_loopR0 {X : Type} {c : IC} (F : X → St) (inv : X → Prop) (μ : X → Nat) (x0 : X) (pk0 : List Nat) (h0 : inv x0) (hle : StLeR pk0 st (F x0)) (round : ∀ x, inv x → AWP P c (ARoundR F inv μ x Q) (F x)) : AWP P (.loop c) Q st := fun code hc B Xs G w0 hG E a w hR => by
  have hG1 : G.os.length = 0 := Nat.le_zero.1 hG.1
  have hG2 : ∀ x, G.E.bm.length ≤ (F x).boxes.length := fun x => Nat.le_trans hG.2 (Nat.zero_le _)
  cases code with
  | loop cc =>
    simp only [compC] at hc
    obtain ⟨c', hcc, he⟩ := Option.map_eq_some_iff.1 hc
    simp only [IC.loop.injEq] at he
    subst he
    obtain ⟨E', hR'⟩ := hR.weakR hle hG1 (hG2 _)
    refine wp_loop_n (fun n a w => ∃ x E, μ x = n ∧ inv x ∧ Rel B Xs G w0 (F x) E a w) (μ x0) ⟨x0, E', rfl, h0, hR'⟩ ?_
    rintro n a w ⟨x, E, rfl, hx, hR⟩
    refine wp_mono (round x hx cc hcc B Xs G w0 hG E a w hR) ?_
    rintro e a' w' ⟨st', E', h1, h2⟩
    cases e with
    | normal =>
      obtain ⟨x', pk, h3, h4, h5⟩ := h2
      obtain ⟨E'', h6⟩ := h1.weakR h3 hG1 (hG2 _)
      exact ⟨μ x', h5, x', E'', rfl, h4, h6⟩
    | _ => exact ⟨st', E', h1, h2⟩
  | region id cops b => exact (comp_reg hc (by simp)).elim
  | block id x => simp [compC] at hc
  | cond c x y => simp only [compC] at hc; split at hc <;> simp at hc
  | seq x y => simp only [compC] at hc; split at hc <;> simp at hc
  | ret => simp [compC] at hc
  | exit id => simp [compC] at hc
  | skip => simp [compC] at hc
  | label l => simp [compC] at hc
  | rangeFunc => simp [compC] at hc
  | scope => simp [compC] at hc
  | goto => simp [compC] at hc
  | refuse => simp [compC] at hc
theorem awp_loopR {X : Type} {c : IC} {fr0 : List AV} {os0 : List Own} {bs0 : List (List AC)} (sp : X → List Sp) (ow : X → List Own) (bx : X → List (List AC) → List (List AC)) (inv : X → Prop) (μ : X → Nat) (x0 : X) (pk0 : List Nat) (h0 : inv x0)
    (hle : StLeR pk0 ⟨fr0, os0, bs0⟩ (FB fr0 bs0 sp ow bx x0)) (round : ∀ x, inv x → AWP P c (ARoundR (FB fr0 bs0 sp ow bx) inv μ x Q) (FB fr0 bs0 sp ow bx x)) : AWP P (.loop c) Q ⟨fr0, os0, bs0⟩ :=
  awp_loopR0 (FB fr0 bs0 sp ow bx) inv μ x0 pk0 h0 hle round
end
/-- A slice of the call's own as the result, or nil. -/
def FinON (t : Nat) (l : List D) (e s : Nat) (st : St) : Prop := FinO t l e s st ∨ (st.fr.getD t .any = .c false [.raw (.slice none 0 0)] ∧ l = [])
theorem calls_ownN {P : Program} {f : Nat} {fn : Func} {code : Code} {ic : IC} {ds : List D} {t : Nat} {l : List D} {e s : Nat} (hf : P.funcs[f]? = some fn) (hb : fn.body = some code) (hr : fn.results = #[.tmp t]) (hc : compC P code = some ic)
    (h : AWP P ic (AEnd (FinON t l e s)) (st0 fn.ntmps ds)) : CallsOwn P f ds l e s := by
  refine calls_awp (post := fun w e' w' => OwnPost false l e s w e' w') hf hb hc h ?_
  rintro G w w' st E a hR (⟨k, i, o, h1, h2⟩ | ⟨h1, rfl⟩)
  · obtain ⟨hv, _⟩ := slot_ok hR h1
    obtain ⟨cs, f', h3, h4, h5⟩ := ownAt_ok hR hv ⟨o, h2⟩
    exact ⟨_, results_tmp hr a.tmps P w', _, cs, f', rfl, h3, h4, h5, hR.below.out⟩
  · obtain ⟨hv, _⟩ := slot_ok hR h1
    have hv' : a.tmps.getD t undef = .slice none 0 0 := hv
    exact ⟨_, results_tmp hr a.tmps P w', .slice none 0 0, [], [], congrArg Ending.returned hv', OwnsAt.nil, ⟨rfl, rfl⟩, fun b hb => by simp at hb, hR.below.out⟩
theorem endOwn {t k i : Nat} {l : List D} {e s : Nat} {st : St} {o : Own} (h1 : st.fr.getD t .any = .c false [.own k i]) (h2 : st.owns[k]? = some o) (h3 : o.ver = i) (h4 : o.l = l) (h5 : o.e = e) (h6 : o.s = s) (h7 : o.nw = true ∨ FlatL l) : AEnd (FinON t l e s) .ret st := Or.inl ⟨k, i, o, h1, h2, h3, h4, h5, h6, h7⟩
theorem endNil {t : Nat} {e s : Nat} {st : St} (h1 : st.fr.getD t .any = .c false [.raw (.slice none 0 0)]) : AEnd (FinON t [] e s) .ret st := Or.inr ⟨h1, rfl⟩
end Go.Proofs.YtdjcflnemnknaaaDoor
