/-
  The plain law: the first of each name, sorted, is the insertion of all names.
-/
import Derived.Test.YtkjodhljaehkjaaGreatSort3
import Derived.Sort.Walk0
namespace Go.Proofs.YtkjodhljaehkjaaGreat
open Go.RowKit
set_option linter.unusedSimpArgs false
set_option linter.unusedVariables false

def LtB (a b : ByteArray) : Prop := ofB a < ofB b
theorem ltS_iff {a b : ByteArray} : ltS a b = true ↔ LtB a b := by
  unfold ltS LtB ofB
  rw [bytesLess_eq, decide_eq_true_eq, ByteArray.toList_eq, ByteArray.toList_eq]
theorem ofB_inj {a b : ByteArray} (h : ofB a = ofB b) : a = b := by rw [← toB_ofB a, ← toB_ofB b, h]
theorem LtB.irrefl {a : ByteArray} : ¬ LtB a a := List.lt_irrefl _
theorem LtB.trans {a b c : ByteArray} (h : LtB a b) (k : LtB b c) : LtB a c := List.lt_trans h k
theorem LtB.tri {a b : ByteArray} (h : ¬ LtB a b) (k : a ≠ b) : LtB b a := by
  unfold LtB at *
  rcases Std.lt_trichotomy (ofB a) (ofB b) with h1 | h1 | h1
  · exact absurd h1 h
  · exact absurd (ofB_inj h1) k
  · exact h1

theorem insS_nil (x : ByteArray) : insS [] x = [x] := by simp [insS, insAt, posS]
theorem insS_cons (y : ByteArray) (r : List ByteArray) (x : ByteArray) : insS (y :: r) x = if ltS y x then y :: insS r x else if y = x then y :: r else x :: y :: r := by
  unfold insS insAt
  rw [posS]
  split
  · rw [List.getElem?_cons_succ, List.take_succ_cons, List.drop_succ_cons]
    split <;> rfl
  · rw [List.getElem?_cons_zero, List.take_zero, List.drop_zero]
    by_cases h : y = x
    · rw [if_pos (by rw [h]), if_pos h]
    · rw [if_neg (by intro e; injection e with e; exact h e), if_neg h]
      rfl
theorem insS_mem {acc : List ByteArray} {x y : ByteArray} : y ∈ insS acc x ↔ y = x ∨ y ∈ acc := by
  induction acc with
  | nil => rw [insS_nil]; simp
  | cons z r ih =>
    rw [insS_cons]
    split
    · rw [List.mem_cons, ih, List.mem_cons]
      exact ⟨fun h => h.elim (fun h => Or.inr (Or.inl h)) (fun h => h.elim Or.inl (fun h => Or.inr (Or.inr h))), fun h => h.elim (fun h => Or.inr (Or.inl h)) (fun h => h.elim Or.inl (fun h => Or.inr (Or.inr h)))⟩
    · split
      · next h => subst h; rw [List.mem_cons]; exact ⟨fun h => Or.inr h, fun h => h.elim Or.inl id⟩
      · rw [List.mem_cons]
theorem insS_sorted {acc : List ByteArray} {x : ByteArray} (h : acc.Pairwise LtB) : (insS acc x).Pairwise LtB := by
  induction acc with
  | nil => rw [insS_nil]; simp
  | cons z r ih =>
    rw [List.pairwise_cons] at h
    rw [insS_cons]
    split
    · next hz =>
      rw [List.pairwise_cons]
      refine ⟨fun y hy => ?_, ih h.2⟩
      rcases insS_mem.1 hy with rfl | hy
      · exact ltS_iff.1 hz
      · exact h.1 y hy
    · next hz =>
      split
      · exact List.pairwise_cons.2 h
      · next hne =>
        have hx : LtB x z := LtB.tri (fun e => hz (ltS_iff.2 e)) hne
        refine List.pairwise_cons.2 ⟨fun y hy => ?_, List.pairwise_cons.2 h⟩
        rcases List.mem_cons.1 hy with rfl | hy
        · exact hx
        · exact hx.trans (h.1 y hy)
theorem fold_mem {l acc : List ByteArray} {y : ByteArray} : y ∈ l.foldl insS acc ↔ y ∈ acc ∨ y ∈ l := by
  induction l generalizing acc with
  | nil => simp
  | cons x l ih =>
    rw [List.foldl_cons, ih, insS_mem, List.mem_cons]
    exact ⟨fun h => h.elim (fun h => h.elim (fun h => Or.inr (Or.inl h)) Or.inl) (fun h => Or.inr (Or.inr h)), fun h => h.elim (fun h => Or.inl (Or.inr h)) (fun h => h.elim (fun h => Or.inl (Or.inl h)) Or.inr)⟩
theorem fold_sorted {l acc : List ByteArray} (h : acc.Pairwise LtB) : (l.foldl insS acc).Pairwise LtB := by
  induction l generalizing acc with
  | nil => exact h
  | cons x l ih => rw [List.foldl_cons]; exact ih (insS_sorted h)

/-- Two strictly ascending lists of the same names are one. -/
theorem sorted_eq : ∀ {a b : List ByteArray}, a.Pairwise LtB → b.Pairwise LtB → (∀ y, y ∈ a ↔ y ∈ b) → a = b
  | [], [], _, _, _ => rfl
  | [], y :: b, _, _, h => absurd ((h y).2 (by simp)) (by simp)
  | x :: a, [], _, _, h => absurd ((h x).1 (by simp)) (by simp)
  | x :: a, y :: b, ha, hb, h => by
    rw [List.pairwise_cons] at ha hb
    have hxy : x = y := by
      rcases List.mem_cons.1 ((h x).1 (by simp)) with e | e
      · exact e
      · rcases List.mem_cons.1 ((h y).2 (by simp)) with e' | e'
        · exact e'.symm
        · exact absurd ((ha.1 y e').trans (hb.1 x e)) LtB.irrefl
    subst hxy
    have : a = b := sorted_eq ha.2 hb.2 fun z => by
      constructor
      · intro hz
        rcases List.mem_cons.1 ((h z).1 (by simp [hz])) with e | e
        · subst e; exact absurd (ha.1 z hz) LtB.irrefl
        · exact e
      · intro hz
        rcases List.mem_cons.1 ((h z).2 (by simp [hz])) with e | e
        · subst e; exact absurd (hb.1 z hz) LtB.irrefl
        · exact e
    rw [this]

theorem idxFromS_spec {s : ByteArray} : ∀ (l : List ByteArray) (k : Nat), s ∈ l → ∃ i, i < l.length ∧ idxFromS l s k = ((k + i : Nat) : Int) ∧ l[i]? = some s
  | [], _, h => by simp at h
  | x :: l, k, h => by
    rw [idxFromS]
    by_cases e : x = s
    · rw [if_pos e]
      exact ⟨0, by simp, by simp, by simp [e]⟩
    · rw [if_neg e]
      rcases List.mem_cons.1 h with h | h
      · exact absurd h.symm e
      · obtain ⟨i, h1, h2, h3⟩ := idxFromS_spec l (k + 1) h
        exact ⟨i + 1, by simp; omega, by rw [h2]; congr 1; omega, by simpa using h3⟩
theorem firsts_mem {l : List ByteArray} {y : ByteArray} : ∀ {k : Nat}, y ∈ firstsTo l k → y ∈ l ∧ ∃ i, i < k ∧ idxS l y = (i : Int)
  | 0, h => by simp [firstsTo] at h
  | k + 1, h => by
    rw [firstsTo, List.mem_append] at h
    rcases h with h | h
    · obtain ⟨h1, i, h2, h3⟩ := firsts_mem h
      exact ⟨h1, i, by omega, h3⟩
    · split at h
      · next x hx =>
        split at h
        · next e =>
          rw [List.mem_singleton] at h
          subst h
          exact ⟨List.mem_of_getElem? hx, k, by omega, e⟩
        · simp at h
      · simp at h
theorem firsts_nodup (l : List ByteArray) : ∀ k, (firstsTo l k).Nodup
  | 0 => List.nodup_nil
  | k + 1 => by
    rw [firstsTo]
    split
    · next x hx =>
      split
      · next e =>
        refine List.nodup_append.2 ⟨firsts_nodup l k, by simp, fun a ha b hb e2 => ?_⟩
        rw [List.mem_singleton] at hb
        subst hb e2
        obtain ⟨_, i, h1, h2⟩ := firsts_mem ha
        rw [h2] at e
        omega
      · rw [List.append_nil]; exact firsts_nodup l k
    · rw [List.append_nil]; exact firsts_nodup l k
theorem firsts_mono {l : List ByteArray} {y : ByteArray} {k : Nat} (h : y ∈ firstsTo l k) : ∀ n, y ∈ firstsTo l (k + n)
  | 0 => h
  | n + 1 => by rw [← Nat.add_assoc, firstsTo, List.mem_append]; exact Or.inl (firsts_mono h n)
theorem firsts_all {l : List ByteArray} {y : ByteArray} (h : y ∈ l) : y ∈ firstsTo l l.length := by
  obtain ⟨i, h1, h2, h3⟩ := idxFromS_spec l 0 h
  rw [Nat.zero_add] at h2
  have h4 : y ∈ firstsTo l (i + 1) := by
    rw [firstsTo, h3, List.mem_append]
    refine Or.inr ?_
    show y ∈ if idxS l y = (i : Int) then [y] else []
    rw [if_pos (show idxS l y = (i : Int) from h2)]
    simp
  have := firsts_mono h4 (l.length - (i + 1))
  rwa [show i + 1 + (l.length - (i + 1)) = l.length by omega] at this
theorem sortB_mem {l : List ByteArray} {y : ByteArray} : y ∈ sortB l ↔ y ∈ l := by
  unfold sortB
  rw [List.mem_map]
  constructor
  · rintro ⟨x, hx, rfl⟩
    rw [List.mem_mergeSort, List.mem_map] at hx
    obtain ⟨z, hz, rfl⟩ := hx
    rwa [toB_ofB]
  · intro h
    exact ⟨ofB y, by rw [List.mem_mergeSort]; exact List.mem_map_of_mem h, toB_ofB y⟩
theorem sortB_sorted {l : List ByteArray} (h : l.Nodup) : (sortB l).Pairwise LtB := by
  unfold sortB
  rw [List.pairwise_map]
  have h1 := List.pairwise_mergeSort (le := fun x y : List UInt8 => decide (x ≤ y)) (fun a b c h1 h2 => by
    rw [decide_eq_true_eq] at *
    exact List.le_trans h1 h2) (fun a b => by
    rcases List.le_total a b with h | h <;> simp [h]) (l.map ofB)
  have h2 : ((l.map ofB).mergeSort fun x y => decide (x ≤ y)).Nodup := by
    refine (List.mergeSort_perm _ _).nodup_iff.2 ?_
    exact List.Pairwise.map _ (fun a b hab e => hab (ofB_inj e)) h
  refine (h1.and h2).imp fun {a b} hab => ?_
  unfold LtB
  rw [ofB_toB, ofB_toB]
  obtain ⟨h3, h4⟩ := hab
  rw [decide_eq_true_eq] at h3
  rcases Std.lt_trichotomy a b with h5 | h5 | h5
  · exact h5
  · exact absurd h5 h4
  · exact absurd h5 (List.not_lt.2 h3)
theorem sort_law (l : List ByteArray) : sortB (firstsTo l l.length) = sortTo l l.length := by
  refine sorted_eq (sortB_sorted (firsts_nodup _ _)) ?_ fun y => ?_
  · unfold sortTo
    exact fold_sorted List.Pairwise.nil
  · unfold sortTo
    rw [sortB_mem, fold_mem, List.take_length]
    exact ⟨fun h => Or.inr (firsts_mem h).1, fun h => firsts_all (h.elim (fun h => by simp at h) id)⟩
def sortN (l : List ByteArray) : List ByteArray := sortTo l l.length
theorem sortN_len (l : List ByteArray) : (sortN l).length ≤ l.length := sortTo_len l l.length
theorem sortNames_impl_own (l : List ByteArray) (fp : List Nat) (v : Value) (w : World) (hS : Sl w (l.map ls) fp v) (hn : l.length ≤ 1048576) : Calls Tryz.prog 108 #[v] w (OwnStrs (sortN l) w) := by
  have h := sortNames_impl0 l fp v w hS hn
  rwa [sort_law] at h
theorem sortNames_impl (l : List ByteArray) (fp : List Nat) (v : Value) (w : World) (hS : Sl w (l.map ls) fp v) (hn : l.length ≤ 1048576) : Calls Tryz.prog 108 #[v] w (TosPost ((sortN l).map ls) w) :=
  (sortNames_impl_own l fp v w hS hn).mono fun _ _ h => h.tos
end Go.Proofs.YtkjodhljaehkjaaGreat
