/-
  What can be reached by steps; calls that leave one own slice. No Go text in sight.
-/
import Derived.Test.YtkjodhljaehkjaaGreatGr
import Derived.Test.YtkjodhljaehkjaaGreatIrR
namespace Go.Proofs.YtkjodhljaehkjaaGreat
open Go.RowKit
set_option linter.unusedSimpArgs false
set_option linter.unusedVariables false
/-! ### Sums over the small numbers -/
def sumF (p : Nat → Bool) (g : Nat → Nat) : Nat → Nat
  | 0 => 0
  | n + 1 => sumF p g n + if p n then g n else 0
theorem sumF_congr {p q : Nat → Bool} {g : Nat → Nat} : ∀ {n : Nat}, (∀ x, x < n → p x = q x) → sumF p g n = sumF q g n
  | 0, _ => rfl
  | n + 1, h => by
    simp only [sumF]
    rw [sumF_congr (fun x hx => h x (by omega)), h n (by omega)]
theorem sumF_one {p q : Nat → Bool} {g : Nat → Nat} {k : Nat} (hp : p k = true) (hq : q k = false) (ho : ∀ x, x ≠ k → p x = q x) : ∀ {n : Nat}, k < n → sumF p g n = sumF q g n + g k
  | 0, h => by omega
  | n + 1, h => by
    simp only [sumF]
    rcases Nat.lt_or_ge k n with h' | h'
    · rw [sumF_one hp hq ho h', ho n (by omega)]; omega
    · obtain rfl : k = n := by omega
      rw [sumF_congr (q := q) (fun x hx => ho x (by omega)), hp, hq]; simp
theorem sumF_le {p : Nat → Bool} {g : Nat → Nat} : ∀ (n : Nat), sumF p g n ≤ sumF (fun _ => true) g n
  | 0 => Nat.le_refl _
  | n + 1 => by
    have := sumF_le (p := p) (g := g) n
    simp only [sumF]
    split <;> simp <;> omega
theorem sumF_all (g : Nat → Nat) (c : Nat) (h : ∀ x, g x ≤ c) : ∀ n, sumF (fun _ => true) g n ≤ n * c
  | 0 => by simp [sumF]
  | n + 1 => by
    have := sumF_all g c h n
    have := h n
    simp only [sumF, if_true, Nat.succ_mul]
    omega
/-- The numbers that a list lacks. -/
def lacks (l : List Nat) (x : Nat) : Bool := !l.contains x
theorem lacks_add {l : List Nat} {k : Nat} (h : k ∉ l) {g : Nat → Nat} {n : Nat} (hk : k < n) : sumF (lacks l) g n = sumF (lacks (l ++ [k])) g n + g k := by
  refine sumF_one (by simp [lacks, h]) (by simp [lacks]) (fun x hx => ?_) hk
  simp [lacks, hx]
theorem lacks_cons {l : List Nat} {k : Nat} (h : k ∉ l) {g : Nat → Nat} {n : Nat} (hk : k < n) : sumF (lacks l) g n = sumF (lacks (k :: l)) g n + g k := by
  refine sumF_one (by simp [lacks, h]) (by simp [lacks]) (fun x hx => ?_) hk
  simp [lacks, hx]
theorem lacks_len {n : Nat} : ∀ {l : List Nat}, l.Nodup → (∀ x ∈ l, x < n) → sumF (lacks l) (fun _ => 1) n + l.length = n
  | [], _, _ => by
    have : ∀ m, sumF (lacks []) (fun _ => 1) m = m := by
      intro m
      induction m with
      | zero => rfl
      | succ m ih => simp only [sumF, ih]; simp [lacks]
    simp [this]
  | k :: l, hn, hb => by
    rw [List.nodup_cons] at hn
    have h1 := lacks_len hn.2 (fun x hx => hb x (List.mem_cons_of_mem _ hx))
    have h2 := lacks_cons hn.1 (g := fun _ => 1) (hb k (by simp))
    simp only [List.length_cons]
    omega
theorem nodup_len {n : Nat} {l : List Nat} (h : l.Nodup) (hb : ∀ x ∈ l, x < n) : l.length ≤ n := by
  have := lacks_len h hb
  omega
theorem nodup_snoc {l : List Nat} {k : Nat} (h : l.Nodup) (hk : k ∉ l) : (l ++ [k]).Nodup := by
  rw [List.nodup_append]
  refine ⟨h, by simp, fun a ha b hb e => ?_⟩
  rw [List.mem_singleton] at hb
  subst hb e
  exact hk ha
theorem nodup_sorted {l : List Nat} (h : l.Pairwise (· < ·)) : l.Nodup := h.imp fun hab => by omega
/-! ### What can be reached by one or more steps -/
inductive Rch (f : Int → List Nat) (z : Int) : Nat → Prop
  | one {x : Nat} : x ∈ f z → Rch f z x
  | more {x y : Nat} : Rch f z x → y ∈ f (x : Int) → Rch f z y
noncomputable def rchB (f : Int → List Nat) (z : Int) (x : Nat) : Bool := @decide (Rch f z x) (Classical.propDecidable _)
theorem rchB_iff {f : Int → List Nat} {z : Int} {x : Nat} : rchB f z x = true ↔ Rch f z x := by
  unfold rchB
  exact @decide_eq_true_iff _ (Classical.propDecidable _)
noncomputable def cl (n : Nat) (f : Int → List Nat) (z : Int) : List Nat := setN n (rchB f z)
theorem cl_len (n : Nat) (f : Int → List Nat) (z : Int) : (cl n f z).length ≤ n := setN_len _ _
theorem cl_lt {n : Nat} {f : Int → List Nat} {z : Int} : ∀ x ∈ cl n f z, x < n := fun x h => (mem_setN.1 h).1
theorem mem_cl {n : Nat} {f : Int → List Nat} {z : Int} {x : Nat} : x ∈ cl n f z ↔ x < n ∧ Rch f z x := by
  unfold cl
  rw [mem_setN, rchB_iff]
theorem cl_eq {n : Nat} {f : Int → List Nat} {z : Int} {l : List Nat} (h1 : ∀ x ∈ l, x < n ∧ Rch f z x) (h2 : ∀ x ∈ f z, x ∈ l) (h3 : ∀ y ∈ l, ∀ x ∈ f (y : Int), x ∈ l) : setL n l = cl n f z := by
  unfold setL cl
  refine setN_congr fun x hx => ?_
  rw [Bool.eq_iff_iff, rchB_iff, List.contains_iff_mem]
  refine ⟨fun h => (h1 x h).2, fun h => ?_⟩
  clear hx
  induction h with
  | one h => exact h2 _ h
  | more _ h ih => exact h3 _ ih _ h
/-- The way of a list that is looked through while it grows. -/
structure AllInv (n : Nat) (f : Int → List Nat) (z : Int) (k : Nat) (out : List Nat) : Prop where
  nd : out.Nodup
  lt : ∀ x ∈ out, x < n
  r : ∀ x ∈ out, Rch f z x
  a : ∀ x ∈ f z, x ∈ out
  b : ∀ y ∈ out.take k, ∀ x ∈ f (y : Int), x ∈ out
  le : k ≤ out.length
/-- Within the look at one of them. -/
structure MoreInv (n : Nat) (f : Int → List Nat) (z : Int) (k : Nat) (y : Nat) (j : Nat) (out : List Nat) : Prop extends AllInv n f z k out where
  lt1 : k < out.length
  at1 : out[k]? = some y
  c : ∀ x ∈ (f (y : Int)).take j, x ∈ out
  jle : j ≤ (f (y : Int)).length
theorem MoreInv.start {n : Nat} {f : Int → List Nat} {z : Int} {k : Nat} {out : List Nat} (h : AllInv n f z k out) (hk : k < out.length) : MoreInv n f z k out[k] 0 out :=
  { h with lt1 := hk, at1 := List.getElem?_eq_getElem hk, c := by simp, jle := Nat.zero_le _ }
theorem MoreInv.skip {n : Nat} {f : Int → List Nat} {z : Int} {k y j : Nat} {out : List Nat} (h : MoreInv n f z k y j out) (hj : j < (f (y : Int)).length) (hc : out.contains (f (y : Int))[j] = true) : MoreInv n f z k y (j + 1) out :=
  { h with c := fun x hx => by
             rw [List.take_succ_eq_append_getElem hj, List.mem_append, List.mem_singleton] at hx
             rcases hx with hx | rfl
             · exact h.c x hx
             · simpa using hc
           jle := hj }
theorem MoreInv.put {n : Nat} {f : Int → List Nat} (hf : ∀ z, ∀ x ∈ f z, x < n) {z : Int} {k y j : Nat} {out : List Nat} (h : MoreInv n f z k y j out) (hj : j < (f (y : Int)).length) (hc : out.contains (f (y : Int))[j] = false) : MoreInv n f z k y (j + 1) (out ++ [(f (y : Int))[j]]) :=
  have hy : y ∈ out := List.mem_of_getElem? h.at1
  have hm := List.getElem_mem hj
  { nd := nodup_snoc h.nd (by simpa using hc)
    lt := fun x hx => by
      rw [List.mem_append, List.mem_singleton] at hx
      rcases hx with hx | rfl
      · exact h.lt x hx
      · exact hf _ _ hm
    r := fun x hx => by
      rw [List.mem_append, List.mem_singleton] at hx
      rcases hx with hx | rfl
      · exact h.r x hx
      · exact .more (h.r y hy) hm
    a := fun x hx => List.mem_append_left _ (h.a x hx)
    b := fun w hw x hx => by
      rw [List.take_append_of_le_length h.le] at hw
      exact List.mem_append_left _ (h.b w hw x hx)
    le := by have := h.le; simp; omega
    lt1 := by have := h.lt1; simp; omega
    at1 := by rw [List.getElem?_append_left h.lt1]; exact h.at1
    c := fun x hx => by
      rw [List.take_succ_eq_append_getElem hj, List.mem_append, List.mem_singleton] at hx
      rcases hx with hx | rfl
      · exact List.mem_append_left _ (h.c x hx)
      · simp
    jle := hj }
theorem MoreInv.fin {n : Nat} {f : Int → List Nat} {z : Int} {k y : Nat} {out : List Nat} (h : MoreInv n f z k y (f (y : Int)).length out) : AllInv n f z (k + 1) out :=
  { h with b := fun w hw x hx => by
             rw [List.take_succ_eq_append_getElem h.lt1, List.mem_append, List.mem_singleton] at hw
             rcases hw with hw | rfl
             · exact h.b w hw x hx
             · have := h.at1
               rw [List.getElem?_eq_getElem h.lt1] at this
               injection this with this
               rw [this] at hx
               exact h.c x (by rw [List.take_length]; exact hx)
           le := h.lt1 }
theorem AllInv.start {n : Nat} {f : Int → List Nat} (hf : ∀ z, ∀ x ∈ f z, x < n) {z : Int} (hs : (f z).Pairwise (· < ·)) : AllInv n f z 0 (f z) :=
  { nd := nodup_sorted hs, lt := hf z, r := fun x h => .one h, a := fun x h => h, b := by simp, le := Nat.zero_le _ }
theorem AllInv.fin {n : Nat} {f : Int → List Nat} {z : Int} {out : List Nat} (h : AllInv n f z out.length out) : setL n out = cl n f z :=
  cl_eq (fun x hx => ⟨h.lt x hx, h.r x hx⟩) h.a (fun y hy x hx => h.b y (by rw [List.take_length]; exact hy) x hx)
/-- The way with a list of what is to be looked at. -/
structure TodoInv (n : Nat) (f : Int → List Nat) (z : Int) (out todo : List Nat) : Prop where
  nd : out.Nodup
  lt : ∀ x ∈ out, x < n
  r : ∀ x ∈ out, Rch f z x
  lt' : ∀ x ∈ todo, x < n
  r' : ∀ x ∈ todo, Rch f z x
  a : ∀ x ∈ f z, x ∈ out ∨ x ∈ todo
  b : ∀ y ∈ out, ∀ x ∈ f (y : Int), x ∈ out ∨ x ∈ todo
  t : todo.length + sumF (lacks out) (fun x => (f (x : Int)).length) n ≤ (f z).length + sumF (fun _ => true) (fun x => (f (x : Int)).length) n
theorem TodoInv.start {n : Nat} {f : Int → List Nat} (hf : ∀ z, ∀ x ∈ f z, x < n) {z : Int} : TodoInv n f z [] (f z) :=
  { nd := List.nodup_nil, lt := by simp, r := by simp, lt' := hf z, r' := fun x h => .one h, a := fun x h => Or.inr h, b := by simp, t := by have := sumF_le (p := lacks []) (g := fun x => (f (x : Int)).length) n; omega }
theorem head_tail {l : List Nat} (h : 0 < l.length) : l = l[0] :: l.drop 1 := by
  cases l with
  | nil => simp at h
  | cons x l => rfl
theorem TodoInv.skip {n : Nat} {f : Int → List Nat} {z : Int} {out todo : List Nat} (h : TodoInv n f z out todo) (h0 : 0 < todo.length) (hc : out.contains todo[0] = true) : TodoInv n f z out (todo.drop 1) := by
  have he := head_tail h0
  have hm : todo[0] ∈ out := by simpa using hc
  have key : ∀ x, x ∈ out ∨ x ∈ todo → x ∈ out ∨ x ∈ todo.drop 1 := fun x hx => by
    rcases hx with hx | hx
    · exact Or.inl hx
    · rw [he] at hx
      rcases List.mem_cons.1 hx with rfl | hx
      · exact Or.inl hm
      · exact Or.inr hx
  exact { h with lt' := fun x hx => h.lt' x (List.mem_of_mem_drop hx), r' := fun x hx => h.r' x (List.mem_of_mem_drop hx), a := fun x hx => key x (h.a x hx), b := fun y hy x hx => key x (h.b y hy x hx), t := by have := h.t; rw [List.length_drop]; omega }
theorem TodoInv.put {n : Nat} {f : Int → List Nat} (hf : ∀ z, ∀ x ∈ f z, x < n) {z : Int} {out todo : List Nat} (h : TodoInv n f z out todo) (h0 : 0 < todo.length) (hc : out.contains todo[0] = false) : TodoInv n f z (out ++ [todo[0]]) (todo.drop 1 ++ f (todo[0] : Int)) := by
  have he := head_tail h0
  have hm : todo[0] ∉ out := by simpa using hc
  have ht := List.getElem_mem h0
  have key : ∀ x, x ∈ out ∨ x ∈ todo → x ∈ out ++ [todo[0]] ∨ x ∈ todo.drop 1 ++ f (todo[0] : Int) := fun x hx => by
    rcases hx with hx | hx
    · exact Or.inl (List.mem_append_left _ hx)
    · rw [he] at hx
      rcases List.mem_cons.1 hx with rfl | hx
      · exact Or.inl (by simp)
      · exact Or.inr (List.mem_append_left _ hx)
  refine { nd := nodup_snoc h.nd hm, lt := fun x hx => ?_, r := fun x hx => ?_, lt' := fun x hx => ?_, r' := fun x hx => ?_, a := fun x hx => key x (h.a x hx), b := fun y hy x hx => ?_, t := ?_ }
  · rw [List.mem_append, List.mem_singleton] at hx
    rcases hx with hx | rfl
    · exact h.lt x hx
    · exact h.lt' _ ht
  · rw [List.mem_append, List.mem_singleton] at hx
    rcases hx with hx | rfl
    · exact h.r x hx
    · exact h.r' _ ht
  · rcases List.mem_append.1 hx with hx | hx
    · exact h.lt' x (List.mem_of_mem_drop hx)
    · exact hf _ _ hx
  · rcases List.mem_append.1 hx with hx | hx
    · exact h.r' x (List.mem_of_mem_drop hx)
    · exact .more (h.r' _ ht) hx
  · rw [List.mem_append, List.mem_singleton] at hy
    rcases hy with hy | rfl
    · exact key x (h.b y hy x hx)
    · exact Or.inr (List.mem_append_right _ hx)
  · have h1 := h.t
    have h2 := lacks_add hm (g := fun x => (f (x : Int)).length) (h.lt' _ ht)
    rw [List.length_append, List.length_drop]
    omega
theorem TodoInv.fin {n : Nat} {f : Int → List Nat} {z : Int} {out : List Nat} (h : TodoInv n f z out []) : setL n out = cl n f z :=
  cl_eq (fun x hx => ⟨h.lt x hx, h.r x hx⟩) (fun x hx => (h.a x hx).elim id (by simp)) (fun y hy x hx => (h.b y hy x hx).elim id (by simp))
/-- The measure of the way. -/
def todoM (n : Nat) (f : Int → List Nat) (out todo : List Nat) : Nat := todo.length + sumF (lacks out) (fun x => (f (x : Int)).length) n
theorem todoM_skip {n : Nat} {f : Int → List Nat} {out todo : List Nat} (h0 : 0 < todo.length) : todoM n f out (todo.drop 1) < todoM n f out todo := by
  unfold todoM
  rw [List.length_drop]
  omega
theorem todoM_put {n : Nat} {f : Int → List Nat} {z : Int} {out todo : List Nat} (h : TodoInv n f z out todo) (h0 : 0 < todo.length) (hc : out.contains todo[0] = false) : todoM n f (out ++ [todo[0]]) (todo.drop 1 ++ f (todo[0] : Int)) < todoM n f out todo := by
  have hm : todo[0] ∉ out := by simpa using hc
  have h2 := lacks_add hm (g := fun x => (f (x : Int)).length) (h.lt' _ (List.getElem_mem h0))
  unfold todoM
  rw [List.length_append, List.length_drop]
  omega
/-! ### A call that leaves one own slice -/
theorem frLeR_any {pk : List Nat} {n m : Nat} : ∀ (fr : List AV), FrLeR pk n m fr (List.replicate fr.length .any)
  | [] => trivial
  | x :: fr => ⟨Or.inl rfl, frLeR_any fr⟩
theorem frLeR_one {pk : List Nat} {n m : Nat} {x : AV} (hx : x.fits n m = true) : ∀ (fr : List AV) (t : Nat), fr.getD t .any = x.ren pk → FrLeR pk n m fr ((List.replicate fr.length AV.any).set t x)
  | [], t, _ => trivial
  | y :: fr, 0, h => ⟨Or.inr ⟨h, hx⟩, frLeR_any fr⟩
  | y :: fr, t + 1, h => ⟨Or.inl rfl, frLeR_one hx fr t (by simpa using h)⟩
def FinSR (t : Nat) (l : List D) (e s : Nat) (bs' : List (List AC)) (st : St) : Prop :=
  ∃ k i, st.fr.getD t .any = .c false [.own k i] ∧ st.owns[k]? = some ⟨l, e, s, i, true⟩ ∧ i = 0 ∧ st.boxes = bs'
theorem calls_sR {P : Program} {f : Nat} {fn : Func} {code : Code} {ic : IC} {avs : List AV} {bs bs' : List (List AC)} {t : Nat} {l : List D} {e s : Nat} (hf : P.funcs[f]? = some fn) (hb : fn.body = some code) (hr : fn.results = #[.tmp t]) (hc : compC P code = some ic)
    (h2 : bs.length ≤ bs'.length) (hbr : ∀ pk, BoxLeR pk bs' bs') (hbf : (bs'.all fun xs => xs.all (AC.fits 1 bs'.length)) = true) (h : AWPn (0, bs.length) P ic (AEnd (FinSR t l e s bs')) (stS fn.ntmps avs [] bs)) : CallsS P f avs [] bs (.c false [.own 0 0]) [⟨l, e, s, 0, true⟩] bs' := by
  intro B Xs G w0 fr E a w vs hR hv
  have hol := hR.olen
  have hbl := hR.blen
  simp only at hol hbl
  refine calls_of_wp hf hb ?_
  have := h code hc B Xs ⟨E, [], w⟩ w0 ⟨Nat.le_refl _, by simp only; omega⟩ E _ w (rel_call hR hv fn.ntmps)
  refine wp_mono this ?_
  rintro e' a' w' ⟨st', E', g1, g2⟩
  have fin : FinSR t l e s bs' st' → ∃ v, (results fn a'.tmps).run P w' = .ok v w' ∧ ∃ v' E', Ending.returned v = .returned v' ∧ Rel B Xs ⟨E, [], w⟩ w0 ⟨[], [⟨l, e, s, 0, true⟩], bs'⟩ E' { tmps := #[], defers := [] } w' ∧ AV.ok E' [⟨l, e, s, 0, true⟩] w' (.c false [.own 0 0]) v' := by
    rintro ⟨k, i, q1, q2, rfl, q4⟩
    have drop : ∀ {fr' : List AV} {E'' : Env}, Rel B Xs ⟨E, [], w⟩ w0 ⟨fr', [⟨l, e, s, 0, true⟩], bs'⟩ E'' a' w' → Rel B Xs ⟨E, [], w⟩ w0 ⟨[], [⟨l, e, s, 0, true⟩], bs'⟩ E'' { tmps := #[], defers := [] } w' := fun hh =>
      { eb := hh.eb, ex := hh.ex, sim := hh.sim, defers := rfl, size := rfl, fr := fun t y hy => by simp at hy, olen := hh.olen, own := hh.own, blen := hh.blen, box := hh.box, nodup := hh.nodup, below := hh.below, base := hh.base }
    have hle : StLeR [k] st' ⟨(List.replicate st'.fr.length .any).set t (.c false [.own 0 0]), [⟨l, e, s, 0, true⟩], bs'⟩ := ⟨by simp, frLeR_one (by simp [AV.fits, AC.fits]) _ _ (by rw [q1]; rfl), ⟨by rw [q2]; exact ⟨rfl, rfl, rfl, rfl, rfl⟩, trivial⟩, by rw [q4]; exact hbr _, by simpa using hbf⟩
    obtain ⟨E'', hh⟩ := g1.weakR hle rfl (by simp only; omega)
    refine ⟨_, results_tmp hr _ P w', _, E'', rfl, drop hh, ?_⟩
    have hlt : t < st'.fr.length := by
      rcases Nat.lt_or_ge t st'.fr.length with hlt | hge
      · exact hlt
      · rw [List.getD_eq_getElem?_getD, List.getElem?_eq_none hge] at q1
        cases q1
    exact hh.fr t _ (by simp only; rw [List.getElem?_set_self (by simpa using hlt)])
  cases e' with
  | normal =>
    obtain ⟨v, h3, h4⟩ := fin g2
    exact ⟨g1.defers, v, h3, h4⟩
  | ret =>
    obtain ⟨v, h3, h4⟩ := fin g2
    exact ⟨g1.defers, v, h3, h4⟩
  | _ => exact g2.elim
end Go.Proofs.YtkjodhljaehkjaaGreat
