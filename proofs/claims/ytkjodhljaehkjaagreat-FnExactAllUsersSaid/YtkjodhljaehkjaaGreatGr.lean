/-
  Sets of small numbers as ascending lists. No Go text in sight.
-/
import Derived.Test.YtkjodhljaehkjaaGreatIrR
namespace Go.Proofs.YtkjodhljaehkjaaGreat
set_option linter.unusedSimpArgs false
set_option linter.unusedVariables false
def ln (k : Nat) : D := li (k : Int)
/-- The numbers below n of which p holds, ascending. -/
def setN (n : Nat) (p : Nat → Bool) : List Nat := (List.range n).filter p
theorem setN_sorted (n : Nat) (p : Nat → Bool) : (setN n p).Pairwise (· < ·) := List.Pairwise.filter _ List.pairwise_lt_range
theorem mem_setN {n : Nat} {p : Nat → Bool} {x : Nat} : x ∈ setN n p ↔ x < n ∧ p x = true := by
  unfold setN
  rw [List.mem_filter, List.mem_range]
theorem setN_len (n : Nat) (p : Nat → Bool) : (setN n p).length ≤ n := by
  have := List.length_filter_le p (List.range n)
  rwa [List.length_range] at this
theorem setN_congr {n : Nat} {p q : Nat → Bool} (h : ∀ x, x < n → p x = q x) : setN n p = setN n q := by
  unfold setN
  refine List.filter_congr fun x hx => h x (List.mem_range.1 hx)
theorem sorted_ext : ∀ {l m : List Nat}, l.Pairwise (· < ·) → m.Pairwise (· < ·) → (∀ x, x ∈ l ↔ x ∈ m) → l = m
  | [], [], _, _, _ => rfl
  | [], y :: m, _, _, h => by have := (h y).2 (by simp); simp at this
  | x :: l, [], _, _, h => by have := (h x).1 (by simp); simp at this
  | x :: l, y :: m, hl, hm, h => by
    rw [List.pairwise_cons] at hl hm
    have e : x = y := by
      rcases List.mem_cons.1 ((h x).1 (by simp)) with e | h1
      · exact e
      · rcases List.mem_cons.1 ((h y).2 (by simp)) with e | h2
        · exact e.symm
        · have a1 := hm.1 x h1
          have a2 := hl.1 y h2
          omega
    subst e
    rw [sorted_ext hl.2 hm.2 (fun z => ?_)]
    constructor
    · intro hz
      rcases List.mem_cons.1 ((h z).1 (List.mem_cons_of_mem _ hz)) with e | h1
      · have := hl.1 z hz; omega
      · exact h1
    · intro hz
      rcases List.mem_cons.1 ((h z).2 (List.mem_cons_of_mem _ hz)) with e | h1
      · have := hm.1 z hz; omega
      · exact h1
/-- A number is put into its place. -/
theorem ins_list {n x pos : Nat} {p : Nat → Bool} {s : List Nat} (hs : s.Pairwise (· < ·)) (hy2 : ∀ y, y ∈ s ↔ y < n ∧ p y = true) (hx : x < n) (hp : p x = false) (hat : pos ≤ s.length) (h1 : ∀ (j : Nat) (h : j < pos), s[j]'(by omega) < x) (h2 : ∀ (h : pos < s.length), x ≤ s[pos]) :
    s.take pos ++ x :: s.drop pos = setN n (fun k => p k || k == x) := by
  have hm : ∀ y ∈ s, y ≠ x := fun y hy e => by
    subst e
    rw [((hy2 y).1 hy).2] at hp
    cases hp
  have hlow : ∀ y ∈ s.take pos, y < x := fun y hy => by
    obtain ⟨j, hj, rfl⟩ := List.mem_iff_getElem.1 hy
    rw [List.getElem_take]
    exact h1 j (by rw [List.length_take] at hj; omega)
  have hhigh : ∀ y ∈ s.drop pos, x < y := fun y hy => by
    have hne := hm y (List.mem_of_mem_drop hy)
    obtain ⟨j, hj, rfl⟩ := List.mem_iff_getElem.1 hy
    rw [List.getElem_drop] at hne ⊢
    rw [List.length_drop] at hj
    have h3 := h2 (by omega)
    rcases Nat.eq_zero_or_pos j with rfl | hj0
    · simp only [Nat.add_zero] at hne ⊢; omega
    · have := List.pairwise_iff_getElem.1 hs pos (pos + j) (by omega) (by omega) (by omega)
      omega
  refine sorted_ext ?_ (setN_sorted _ _) (fun y => ?_)
  · rw [List.pairwise_append]
    refine ⟨hs.sublist (List.take_sublist _ _), ?_, fun a ha b hb => ?_⟩
    · rw [List.pairwise_cons]
      exact ⟨hhigh, hs.sublist (List.drop_sublist _ _)⟩
    · have := hlow a ha
      rcases List.mem_cons.1 hb with rfl | hb
      · exact this
      · have := hhigh b hb; omega
  · have hy : y ∈ s ↔ y ∈ s.take pos ∨ y ∈ s.drop pos := by rw [← List.mem_append, List.take_append_drop]
    rw [mem_setN, List.mem_append, List.mem_cons]
    simp only [Bool.or_eq_true, beq_iff_eq]
    constructor
    · rintro (h | h | h)
      · have := (hy2 y).1 (hy.2 (Or.inl h)); exact ⟨this.1, Or.inl this.2⟩
      · subst h; exact ⟨hx, Or.inr rfl⟩
      · have := (hy2 y).1 (hy.2 (Or.inr h)); exact ⟨this.1, Or.inl this.2⟩
    · rintro ⟨h, h' | h'⟩
      · rcases hy.1 ((hy2 y).2 ⟨h, h'⟩) with h3 | h3
        · exact Or.inl h3
        · exact Or.inr (Or.inr h3)
      · exact Or.inr (Or.inl h')
theorem ins_set {n x pos : Nat} {p : Nat → Bool} (hx : x < n) (hp : p x = false) (hat : pos ≤ (setN n p).length) (h1 : ∀ (j : Nat) (h : j < pos), (setN n p)[j]'(by omega) < x) (h2 : ∀ (h : pos < (setN n p).length), x ≤ (setN n p)[pos]) :
    (setN n p).take pos ++ x :: (setN n p).drop pos = setN n (fun k => p k || k == x) := ins_list (setN_sorted n p) (fun y => mem_setN) hx hp hat h1 h2
/-- The set of the numbers of a list. -/
def setL (n : Nat) (l : List Nat) : List Nat := setN n (fun k => l.contains k)
theorem setL_nil (n : Nat) : setL n [] = [] := by simp [setL, setN]
theorem mem_setL {n : Nat} {l : List Nat} {x : Nat} : x ∈ setL n l ↔ x < n ∧ x ∈ l := by
  unfold setL
  rw [mem_setN]
  simp
theorem setL_eq {n : Nat} {l m : List Nat} (hs : m.Pairwise (· < ·)) (hm : ∀ x, x ∈ m ↔ x < n ∧ x ∈ l) : m = setL n l := sorted_ext hs (setN_sorted _ _) (fun x => by rw [hm]; exact mem_setL.symm)
def hasI (l : List Nat) (z : Int) : Bool := l.any fun x => (x : Int) == z
theorem hasI_iff {l : List Nat} {z : Int} : hasI l z = true ↔ ∃ x ∈ l, (x : Int) = z := by simp [hasI]
theorem hasI_nat {l : List Nat} {k : Nat} : hasI l (k : Int) = l.contains k := by
  rw [Bool.eq_iff_iff, hasI_iff, List.contains_iff_mem]
  constructor
  · rintro ⟨x, hx, e⟩
    have : x = k := by omega
    exact this ▸ hx
  · intro h; exact ⟨k, h, rfl⟩
theorem hasI_take (l : List Nat) (z : Int) {k : Nat} (h : k < l.length) : hasI (l.take (k + 1)) z = (hasI (l.take k) z || (((l[k] : Nat) : Int) == z)) := by
  unfold hasI
  rw [List.take_succ_eq_append_getElem h, List.any_append]
  simp
theorem hasI_at {l : List Nat} {z : Int} {k : Nat} (h : k < l.length) (e : (((l[k] : Nat) : Int) == z) = true) : hasI l z = true := hasI_iff.2 ⟨l[k], List.getElem_mem h, by simpa using e⟩
theorem el_ln (l : List Nat) : El 1 (l.map ln) := fun d h => by obtain ⟨x, _, rfl⟩ := List.mem_map.1 h; exact ⟨rfl, rfl⟩
theorem el_tk (l : List Nat) (k : Nat) : El 1 ((l.map ln).take k) := fun d h => el_ln l d (List.mem_of_mem_take h)
theorem el_td (l : List Nat) (j k : Nat) : El 1 (((l.map ln).take j).drop k) := fun d h => el_tk l j d (List.mem_of_mem_drop h)
theorem el_dr (l : List Nat) (k : Nat) : El 1 ((l.map ln).drop k) := fun d h => el_ln l d (List.mem_of_mem_drop h)
theorem flat_ln (l : List Nat) : FlatL (l.map ln) := flatL_map (g := ln) (fun x w f cs h => (show f = [] ∧ _ from h).1) l
theorem getq_map {α : Type} {f : α → D} {l : List α} {k : Nat} (h : k < l.length) : (l.map f)[k]? = some (f l[k]) := by
  rw [List.getElem?_map, List.getElem?_eq_getElem h]
  rfl
theorem ln_acs (b : Bool) (n : Nat) : (ln n).acs b = [.raw (.int .i64 (n : Int))] := rfl
theorem setL_has {n : Nat} {l : List Nat} {k : Nat} (hk : k < l.length) (hx : l[k] < n) (h : (setL n (l.take k)).contains l[k] = true) : setL n (l.take (k + 1)) = setL n (l.take k) := by
  refine setN_congr fun x hxn => ?_
  rw [List.take_succ_eq_append_getElem hk]
  rw [List.contains_iff_mem, mem_setL] at h
  rw [Bool.eq_iff_iff]
  simp only [List.contains_iff_mem, List.mem_append, List.mem_singleton]
  constructor
  · rintro (h' | rfl)
    · exact h'
    · exact h.2
  · exact Or.inl
theorem setL_ins {n : Nat} {l : List Nat} {k pos : Nat} (hk : k < l.length) (hx : l[k] < n) (h : (setL n (l.take k)).contains l[k] = false) (hat : pos ≤ (setL n (l.take k)).length) (h1 : ∀ (j : Nat) (h : j < pos), (setL n (l.take k))[j]'(by omega) < l[k])
    (h2 : ∀ (h : pos < (setL n (l.take k)).length), l[k] ≤ (setL n (l.take k))[pos]) : (setL n (l.take k)).take pos ++ l[k] :: (setL n (l.take k)).drop pos = setL n (l.take (k + 1)) := by
  have hp : (l.take k).contains l[k] = false := by
    rw [Bool.eq_false_iff] at h ⊢
    intro h'
    apply h
    rw [List.contains_iff_mem, mem_setL]
    rw [List.contains_iff_mem] at h'
    exact ⟨hx, h'⟩
  rw [setL, ins_set hx hp hat h1 h2]
  refine setN_congr fun x hxn => ?_
  rw [List.take_succ_eq_append_getElem hk, Bool.eq_iff_iff]
  simp only [Bool.or_eq_true, List.contains_iff_mem, beq_iff_eq, List.mem_append, List.mem_singleton]
end Go.Proofs.YtkjodhljaehkjaaGreat
